/-
  Why the small language's operations are right: each operation of the model does what its definition in the small language says.
-/
import Derived.Test.YtaiihhogoogkmaaGreatDoorAbsApp
namespace Go.Proofs.YtaiihhogoogkmaaGreatDoor
open Go.RowKit

def WF (r : Option Nat) : Fence := { Fence.wide with round := r }
/-- the world and the state behind an operation -/
def NxT (N0 : Nat) (G : Gh) (w : World) (K : St → Prop) (a' : Act) (w' : World) : Prop := ∃ G' s', Ext N0 G w G' w' ∧ N0 ≤ G'.N ∧ Sat G' w' a' s' ∧ K s'

section
variable {P : Program} {r : Option Nat} {n N0 : Nat} {G : Gh} {w : World} {a : Act} {s : St} {o : Oper} {K : St → Prop} {Q : Exit → Act → World → Prop}

theorem fin_val (hop : ∀ c, o.op ≠ .defer c) (hs : Sat G w a s) (hN0 : N0 ≤ G.N) {v : Value} {x : AV} {w' : World} {G' : Gh} {h' : List Blk} (hr : (execOp a.eval o).run P w = .ok (.value v) w')
    (hE : Ext G.N G w G' w') (hN : G.N ≤ G'.N) (hi : Inv G' w' h') (hv : VRel G' w' v x) (hK : K ((s.wh h').put o.dst x)) : o.wpIn (WF r) n P a w (NxT N0 G w K) Q := by
  refine ⟨fun _ _ => trivial, ?_⟩
  rw [Oper.semAt_eq _ _ _ hop, hr]
  exact ⟨G', _, hE.less hN0, Nat.le_trans hN0 hN, ((hs.move hE hN hi).put hv o.dst), hK⟩
theorem fin_same (hop : ∀ c, o.op ≠ .defer c) (hs : Sat G w a s) (hN0 : N0 ≤ G.N) {v : Value} {x : AV} (hr : (execOp a.eval o).run P w = .ok (.value v) w) (hv : VRel G w v x) (hK : K (s.put o.dst x)) :
    o.wpIn (WF r) n P a w (NxT N0 G w K) Q :=
  fin_val hop hs hN0 hr (Ext.refl _ _ _) (Nat.le_refl _) hs.inv hv hK
theorem fin_skip (hop : ∀ c, o.op ≠ .defer c) (hs : Sat G w a s) (hN0 : N0 ≤ G.N) {w' : World} {G' : Gh} {h' : List Blk} (hr : (execOp a.eval o).run P w = .ok .skip w')
    (hE : Ext G.N G w G' w') (hN : G.N ≤ G'.N) (hi : Inv G' w' h') (hK : K ((s.wh h').put o.dst (.d (.v undef)))) : o.wpIn (WF r) n P a w (NxT N0 G w K) Q := by
  refine ⟨fun _ _ => trivial, ?_⟩
  rw [Oper.semAt_eq _ _ _ hop, hr]
  exact ⟨G', _, hE.less hN0, Nat.le_trans hN0 hN, ((hs.move hE hN hi).put (.d (.v undef)) o.dst), hK⟩

theorem szT_info {t k : Nat} (h : szT P t = some k) : ∃ i, P.info? t = some i ∧ i.size = k := by
  unfold szT at h
  cases hq : P.info? t with
  | none => rw [hq] at h; cases h
  | some i => rw [hq] at h; exact ⟨i, rfl, by simpa using h⟩
theorem zeroT_info {t : Nat} {z : Value} (h : zeroT P t = some z) : ∃ i, P.info? t = some i ∧ i.zero = some z := by
  unfold zeroT at h
  cases hq : P.info? t with
  | none => rw [hq] at h; cases h
  | some i => rw [hq] at h; exact ⟨i, rfl, by simpa using h⟩
theorem run_zeroT {t : Nat} {z : Value} (h : zeroT P t = some z) (w : World) : (zeroValue t).run P w = .ok z w := by
  obtain ⟨i, h1, h2⟩ := zeroT_info h
  simp [zeroValue, typeInfo, h1, h2]
theorem run_szT {t k : Nat} (h : szT P t = some k) (w : World) : (sizeOf t).run P w = .ok k w := by
  obtain ⟨i, h1, h2⟩ := szT_info h
  simp [sizeOf, typeInfo, h1, h2]
theorem run_aggT {t : Nat} {g : Bool} (h : aggT P t = some g) (w : World) : (isAgg t).run P w = .ok g w := by
  unfold aggT at h
  cases hq : P.underlying t with
  | none => rw [hq] at h; cases h
  | some d =>
    rw [hq] at h
    unfold isAgg
    rw [Sem.run_bind, run_underlying hq w]
    simp only [Option.map_some, Option.some.injEq] at h
    subst h
    cases d <;> rfl
theorem aggT_desc {t : Nat} (h : aggT P t = some true) : ∃ d, P.underlying t = some d ∧ d.isRow = true := by
  unfold aggT at h
  cases hq : P.underlying t with
  | none => rw [hq] at h; cases h
  | some d => rw [hq] at h; refine ⟨d, rfl, ?_⟩; cases d <;> simp_all [TypeDesc.isRow]

theorem load_key {t : Nat} {C : AV → Prop} : ∀ (b o : Nat) (cs : List AV) (off : Nat) (us : Nat → Value), (∀ j, j < cs.length → w.cell? ⟨b, o + j, none⟩ = some (us j)) → (∀ (j : Nat) (c : AV), cs[j]? = some c → VRel G w (us j) c) →
      (match aggT P t, szT P t with
        | some true, some k => chk (leB (off + k) cs.length) (C (.agg ((cs.drop off).take k)))
        | some false, some _ => match cs[off]? with
          | some c => C c
          | none => False
        | _, _ => False) → ∃ u x, (loadVar t ⟨b, o + off, none⟩).run P w = .ok u w ∧ VRel G w u x ∧ C x := by
  intro b o cs off us h1 h2 h3
  split at h3
  · rename_i k hg hk
    obtain ⟨hlen, hC⟩ := chk_iff.1 h3
    rw [leB_iff] at hlen
    obtain ⟨d, hd1, hd2⟩ := aggT_desc hg
    have hlist : ((List.range k).map fun j => us (off + j)).length = k := by simp
    have hrun := run_loadVar_mid (P := P) w b (o + off) t ((List.range k).map fun j => us (off + j)) d (fun j u hu => by
      rw [List.getElem?_map] at hu
      by_cases hj : j < k
      · rw [List.getElem?_range hj] at hu
        simp only [Option.map_some, Option.some.injEq] at hu
        subst hu
        have := h1 (off + j) (by omega)
        rwa [← Nat.add_assoc] at this
      · rw [List.getElem?_eq_none (by simp; omega)] at hu; cases hu) hd1 hd2 (by rw [hlist]; exact hk)
    refine ⟨_, _, hrun, .agg _ _ (by simp; omega) fun i u c hu hc => ?_, hC⟩
    rw [List.getElem?_toArray, List.getElem?_map] at hu
    rw [List.getElem?_take] at hc
    split at hc
    · rename_i hik
      rw [List.getElem?_range hik] at hu
      simp only [Option.map_some, Option.some.injEq] at hu
      subst hu
      rw [List.getElem?_drop] at hc
      exact h2 (off + i) c hc
    · cases hc
  · rename_i k hg hk
    split at h3
    · rename_i c hc
      refine ⟨us off, c, ?_, h2 off c hc, h3⟩
      unfold loadVar
      rw [Sem.run_bind, run_aggT hg w]
      simp only [Result.andThen_ok, Bool.false_eq_true, if_false]
      unfold load
      simp only [Sem.run, h1 off (List.getElem?_eq_some_iff.1 hc).1]
    · exact h3.elim
  · exact h3.elim
/-- reading at an address -/
theorem run_aLoad {t : Nat} {p : AV} {v : Value} {C : AV → Prop} (hi : Inv G w s.h) (hv : VRel G w v p) (h : aLoad P t s.h p C) : ∃ u x, (Instr.loadAt t v).run P w = .ok u w ∧ VRel G w u x ∧ C x := by
  have key := load_key (P := P) (G := G) (w := w) (t := t) (C := C)
  unfold aLoad atPtr at h
  cases p with
  | ptr m off =>
    simp only at h
    split at h
    · rename_i cs hm
      obtain ⟨_, _, vs, T, hh, hl, hr⟩ := hi.blk m _ hm
      cases hv with
      | ptr _ _ hmN =>
        obtain ⟨u, x, h1, h2, h3⟩ := key (G.rho m) 0 cs off (fun j => vs.getD j undef) (fun j hj => by
          have hj' : j < vs.size := by rw [hl]; exact hj
          rw [Nat.zero_add, cell_of_row w (G.rho m) j vs T (0, 0) hh]; simp [Array.getD, hj']) (fun j c hc => by
          have hj' : j < vs.size := by rw [hl]; exact (List.getElem?_eq_some_iff.1 hc).1
          exact hr j _ c (by simp [Array.getD, hj']) hc) h
        rw [Nat.zero_add] at h1
        exact ⟨u, x, by simp [Instr.loadAt, Instr.sureAddr, h1], h2, h3⟩
    · exact h.elim
  | elt xs i off =>
    simp only at h
    split at h
    · rename_i cs hcs
      cases hv with
      | elt _ _ _ b o us x hx hS hu =>
        rw [hx] at hcs
        cases hcs
        obtain ⟨u, y, h1, h2, h3⟩ := key b o (cs.map .d) off us (fun j hj => (hS j (by simpa using hj)).2) (fun j c hc => by
          rw [List.getElem?_map] at hc
          cases hd : cs[j]? with
          | none => rw [hd] at hc; cases hc
          | some d => rw [hd] at hc; cases hc; exact .d (hu j d hd)) h
        exact ⟨u, y, by simp [Instr.loadAt, Instr.sureAddr, h1], h2, h3⟩
    · exact h.elim
  | _ => exact h.elim

theorem VRel.list {u : Value} {x : AV} {xs : List (List D)} (h : VRel G w u x) (hx : x.list? = some xs) : PRel G.S w u (.sl xs) := by
  unfold AV.list? at hx
  split at hx
  · cases hx; cases h with | d h => exact h
  · cases hx; cases h with | own _ _ _ h => exact h
  · cases hx; cases h with | full _ h => exact h
  · cases hx
    cases h with
    | d h =>
      cases h with
      | v => exact .sl none 0 0 0 0 [] (fun _ _ => undef) (fun h => absurd rfl h) (Nat.le_refl _) (by simp) (fun _ h => by cases h) (fun i j hi => by simp at hi) (fun i j x d hx => by simp at hx)
  · cases hx
theorem VRel.int {u : Value} {x : AV} {z : Int} (h : VRel G w u x) (hx : x.int? = some z) : ∃ k, u = .int k z := by
  unfold AV.int? at hx
  split at hx
  · rename_i k m
    cases hx
    cases h with
    | d h => cases h with | v => exact ⟨k, rfl⟩
  · cases hx
theorem VRel.bool {u : Value} {t : Bool} (h : VRel G w u (.d (.v (.bool t)))) : u = .bool t := by
  cases h with | d h => cases h with | v => rfl
theorem VRel.val {u v : Value} (h : VRel G w u (.d (.v v))) : u = v := by
  cases h with | d h => cases h with | v => rfl

theorem elmT_spec {T e k : Nat} (h : elmT P T = some (e, k)) : P.underlying T = some (.slice e) ∧ szT P e = some k := by
  unfold elmT at h
  split at h
  · rename_i e' he
    cases hq : szT P e' with
    | none => rw [hq] at h; cases h
    | some k' => rw [hq] at h; simp at h; obtain ⟨rfl, rfl⟩ := h; exact ⟨he, hq⟩
  · cases h
theorem arrT_spec {T m e k : Nat} (h : arrT P T = some (m, e, k)) : P.underlying T = some (.array m e) ∧ szT P e = some k := by
  unfold arrT at h
  split at h
  · rename_i m' e' he
    cases hq : szT P e' with
    | none => rw [hq] at h; cases h
    | some k' => rw [hq] at h; simp at h; obtain ⟨rfl, rfl, rfl⟩ := h; exact ⟨he, hq⟩
  · cases h
theorem elmT_none {T : Nat} (h : elmT P T = none) (e : Nat) (he : P.underlying T = some (.slice e)) : szT P e = none := by
  unfold elmT at h
  rw [he] at h
  simpa using h

/-- the address of an element -/
theorem run_aIndexAddr {T : Nat} {x i : AV} {u v : Value} {C : AV → Prop} (hu : VRel G w u x) (hv : VRel G w v i) (h : aIndexAddr P T x i C) : ∃ p y, (Instr.indexAt T u v).run P w = .ok p w ∧ VRel G w p y ∧ C y := by
  unfold aIndexAddr at h
  split at h
  · rename_i e k hT
    obtain ⟨hT1, hT2⟩ := elmT_spec hT
    split at h
    · rename_i m off len cap k'
      split at h
      · rename_i z hz
        obtain ⟨hkk, h0, hlt, hC⟩ := chk_iff.1 h
        rw [beq_iff_eq] at hkk
        subst hkk
        obtain ⟨kz, rfl⟩ := hv.int hz
        cases hu with
        | row _ _ _ _ _ hm hl hmx =>
          have hN : (z.toNat : Int) = z := Int.toNat_of_nonneg h0
          refine ⟨_, _, ?_, .ptr m (off + z.toNat * k') hm, hC⟩
          simp [Instr.indexAt, asIntOf, run_underlying hT1, h0, hlt, run_szT hT2, add_off]
      · exact h.elim
    · split at h
      · rename_i xs z hxs hz
        obtain ⟨h0, h⟩ := h
        obtain ⟨kz, rfl⟩ := hv.int hz
        split at h
        · rename_i c hc
          obtain ⟨hk, hC⟩ := h
          obtain ⟨A, b, o, cc, k', us, rfl, hA, hlc, hcm, hk', hS, hus⟩ := (hu.list hxs).sl_iff
          have hlt : z.toNat < xs.length := (List.getElem?_eq_some_iff.1 hc).1
          have hne : xs ≠ [] := fun e => by subst e; simp at hlt
          have ek : k' = k := by rw [← hk' c (List.mem_of_getElem? hc), hk]
          subst ek
          rw [hA hne]
          have hz2 : z < (xs.length : Int) := by omega
          refine ⟨_, .elt [c] 0 0, ?_, .elt [c] 0 0 b (o + z.toNat * k') (us z.toNat) c rfl (fun j hj => ?_) (fun j d hd => hus _ _ _ _ hc hd), hC⟩
          · simp [Instr.indexAt, asIntOf, run_underlying hT1, h0, hz2, run_szT hT2, add_off]
          · have := hS z.toNat j hlt (by rw [hk] at hj; exact hj)
            exact ⟨this.1, this.2.1⟩
        · exact h.elim
      · exact h.elim
  · split at h
    · rename_i m e k b off z hT hz
      obtain ⟨h0, hlt, hC⟩ := h
      obtain ⟨hT1, hT2⟩ := arrT_spec hT
      obtain ⟨kz, rfl⟩ := hv.int hz
      cases hu with
      | ptr _ _ hb =>
        refine ⟨_, _, ?_, .ptr b (off + z.toNat * k) hb, hC⟩
        simp [Instr.indexAt, Instr.sureAddr, asIntOf, run_underlying hT1, h0, hlt, run_szT hT2, add_off]
    · rename_i m e k xs i' off z hT hz
      obtain ⟨hk1, h0, hlt, h9⟩ := chk_iff.1 h
      rw [beq_iff_eq] at hk1
      subst hk1
      obtain ⟨hT1, hT2⟩ := arrT_spec hT
      obtain ⟨kz, rfl⟩ := hv.int hz
      split at h9
      · rename_i c hc
        split at h9
        · rename_i d hd
          cases hu with
          | elt _ _ _ b o us c' hc' hS hus =>
            rw [hc] at hc'
            cases hc'
            have hlt2 := (List.getElem?_eq_some_iff.1 hd).1
            refine ⟨_, .elt [[d]] 0 0, ?_, .elt [[d]] 0 0 b (o + (off + z.toNat)) (fun _ => us (off + z.toNat)) [d] rfl (fun j hj => ?_) (fun j d' hd' => ?_), h9⟩
            · simp [Instr.indexAt, Instr.sureAddr, asIntOf, run_underlying hT1, h0, hlt, run_szT hT2, add_off, Nat.add_assoc]
            · simp at hj
              subst hj
              exact hS _ hlt2
            · match j with
              | 0 => simp at hd'; subst hd'; exact hus _ _ hd
              | j + 1 => simp at hd'
        · exact h9.elim
      · exact h9.elim
    · exact h.elim
theorem strT_spec {T : Nat} (h : strT P T = true) : P.underlying T = some .string := by
  unfold strT at h
  split at h
  · assumption
  · cases h
theorem run_aLen {T : Nat} {x : AV} {u : Value} {ty : Nat} {C : Nat → Prop} (hu : VRel G w u x) (h : aLen P T x C) : ∃ m : Nat, (Builtin.len_ #[T] ty #[u]).run P w = .ok (.int .i64 m) w ∧ C m := by
  have hsl : ∀ (A : Option Addr) (l c : Nat), (elmT P T).isSome = true → (Builtin.len_ #[T] ty #[.slice A l c]).run P w = .ok (.int .i64 l) w := by
    intro A l c hT
    obtain ⟨⟨e, k⟩, hT⟩ := Option.isSome_iff_exists.1 hT
    simp [Builtin.len_, run_underlying (elmT_spec hT).1, goInt]
  unfold aLen at h
  split at h
  · rename_i b
    have := hu.val
    subst this
    obtain ⟨hT, hC⟩ := chk_iff.1 h
    exact ⟨b.size, by simp [Builtin.len_, run_underlying (strT_spec hT), goInt], hC⟩
  · cases hu with
    | row => exact ⟨_, hsl _ _ _ (chk_iff.1 h).1, (chk_iff.1 h).2⟩
  · split at h
    · rename_i xs hxs
      obtain ⟨A, b, o, c, k, us, rfl, _⟩ := (hu.list hxs).sl_iff
      exact ⟨_, hsl _ _ _ (chk_iff.1 h).1, (chk_iff.1 h).2⟩
    · exact h.elim

def isInt (a : Act) (x : Option Operand) (d m : Nat) : Prop := match x with | none => m = d | some y => ∃ k z, a.eval y = .int k z ∧ 0 ≤ z ∧ m = z.toNat
theorem run_optInt {x : Option Operand} {d : Nat} {C : Nat → Prop} (hs : Sat G w a s) (h : optInt (ev s) x d C) : ∃ m, C m ∧ isInt a x d m := by
  cases x with
  | none => exact ⟨_, h, rfl⟩
  | some y =>
    unfold optInt at h
    simp only at h
    split at h
    · rename_i z hz
      obtain ⟨k, hk⟩ := (hs.ev y).int hz
      exact ⟨_, h.2, k, z, hk, h.1, rfl⟩
    · exact h.elim
theorem run_bound {k : IntKind} {z : Int} {y : Nat} {code : BoundsCode} (h0 : 0 ≤ z) (h : z.toNat ≤ y) (w : World) : (Instr.sliceBound (.int k z) y code).run P w = .ok z.toNat w := by
  have : z ≤ (y : Int) := by omega
  simp [Instr.sliceBound, asIntOf, h0, this]
theorem run_bounds2 {lo hi : Option Operand} {len cap l h : Nat} {isS : Bool} (hlo : isInt a lo 0 l) (hhi : isInt a hi len h) (hl : l ≤ h) (hh : h ≤ cap) (w : World) :
    (Instr.sliceBounds isS len cap (lo.map a.eval) (hi.map a.eval) none).run P w = .ok (l, h, cap) w := by
  unfold isInt at hlo hhi
  cases lo with
  | none =>
    subst hlo
    cases hi with
    | none => subst hhi; simp [Instr.sliceBounds]
    | some y =>
      obtain ⟨k, z, e, h0, rfl⟩ := hhi
      simp [Instr.sliceBounds, e, run_bound h0 hh]
  | some x =>
    obtain ⟨k', z', e', h0', rfl⟩ := hlo
    cases hi with
    | none => subst hhi; simp [Instr.sliceBounds, e', run_bound h0' hl]
    | some y =>
      obtain ⟨k, z, e, h0, rfl⟩ := hhi
      simp [Instr.sliceBounds, e, e', run_bound h0 hh, run_bound h0' hl]

theorem PRel.part {S : Nat → Nat → Prop} {v : Value} {xs : List (List D)} {k : Nat} (hp : PRel S w v (.sl xs)) (hk : ∀ c ∈ xs, c.length = k) {l h : Nat} (hl : l ≤ h) (hh : h ≤ xs.length) :
    ∃ A c, v = .slice A xs.length c ∧ xs.length ≤ c ∧ PRel S w (.slice (if c = l then A else A.map (·.add (l * k))) (h - l) (c - l)) (.sl ((xs.take h).drop l)) := by
  obtain ⟨A, b, o, c, k', us, rfl, hA, hlc, hcm, hk', hS, hus⟩ := hp.sl_iff
  refine ⟨A, c, rfl, hlc, ?_⟩
  have hlen : ((xs.take h).drop l).length = h - l := by simp; omega
  rw [← hlen]
  by_cases hx : xs = []
  · subst hx
    have e : ((([] : List (List D)).take h).drop l) = [] := by simp
    rw [e]
    exact .sl _ 0 0 (c - l) 0 [] (fun _ _ => undef) (fun h => absurd rfl h) (Nat.zero_le _) (by omega) (fun _ h => by cases h) (fun i j hi => by simp at hi) (fun i j x d hx => by simp at hx)
  · have ek : k' = k := by
      obtain ⟨x, hx'⟩ := List.exists_mem_of_ne_nil xs hx
      rw [← hk' x hx', hk x hx']
    subst ek
    have hget : ∀ i, i < h - l → ((xs.take h).drop l)[i]? = xs[l + i]? := fun i hi => by
      rw [List.getElem?_drop, List.getElem?_take_of_lt (by omega)]
    refine .sl _ b (o + l * k') (c - l) k' _ (fun i j => us (l + i) j) (fun hne => ?_) (by rw [hlen]; omega) (by omega) (fun x hx => hk x (List.mem_of_mem_take (List.mem_of_mem_drop hx))) (fun i j hi hj => ?_) (fun i j x d hx hd => ?_)
    · have hpos : 0 < ((xs.take h).drop l).length := List.length_pos_iff.2 hne
      rw [hlen] at hpos
      rw [if_neg (by omega), hA hx]
      simp [add_off]
    · rw [hlen] at hi
      have := hS (l + i) j (by omega) hj
      rw [Nat.add_mul, ← Nat.add_assoc] at this
      exact this
    · have hi := (List.getElem?_eq_some_iff.1 hx).1
      rw [hlen] at hi
      rw [hget i hi] at hx
      exact hus _ _ _ _ hx hd

theorem run_aSlice {T : Nat} {x : AV} {u : Value} {lo hi mx : Option Operand} {C : AV → Prop} (hs : Sat G w a s) (hu : VRel G w u x) (h : aSlice P T (ev s) x lo hi mx C) :
    ∃ p y, (Instr.sliceAt T u (lo.map a.eval) (hi.map a.eval) (mx.map a.eval)).run P w = .ok p w ∧ VRel G w p y ∧ C y := by
  unfold aSlice at h
  split at h
  · split at h
    · rename_i b
      obtain ⟨hT, h⟩ := chk_iff.1 h
      have hT := strT_spec hT
      have := hu.val
      subst this
      obtain ⟨m, h, hm⟩ := run_optInt hs h
      obtain ⟨hmb, h⟩ := h
      obtain ⟨l, h, hl⟩ := run_optInt hs h
      obtain ⟨hlm, h⟩ := h
      refine ⟨_, _, ?_, .d (.v _), h⟩
      have hb := run_bounds2 (P := P) (isS := false) hl hm hlm hmb w
      simp [Instr.sliceAt, Instr.slice, run_underlying hT, hb]
    · rename_i m off
      split at h
      · rename_i c e k hT
        rw [chk_iff, leB_iff] at h
        obtain ⟨hcm, h⟩ := h
        have hcm : c ≤ maxLen := by unfold maxLen; omega
        obtain ⟨hT1, hT2⟩ := arrT_spec hT
        obtain ⟨hh, h, hm⟩ := run_optInt hs h
        obtain ⟨hmb, h⟩ := chk_iff.1 h
        rw [leB_iff] at hmb
        obtain ⟨l, h, hl⟩ := run_optInt hs h
        obtain ⟨hlm, h⟩ := chk_iff.1 h
        simp only [Bool.and_eq_true, leB_iff, Bool.not_eq_true', ← Bool.not_eq_true, Nat.not_le] at hlm
        obtain ⟨hlm, hlc⟩ := hlm
        have hb := run_bounds2 (P := P) (isS := false) hl hm hlm hmb w
        cases hu with
        | ptr _ _ hmN =>
          refine ⟨_, _, ?_, .row m (off + l * k) (hh - l) (c - l) k hmN (by omega) (by omega), h⟩
          simp [Instr.sliceAt, Instr.sureAddr, run_underlying hT1, hb, run_szT hT2, add_off, Nat.ne_of_gt hlc]
      · exact h.elim
    · split at h
      · rename_i xs e k hxs hT
        obtain ⟨hk, h⟩ := h
        obtain ⟨hT1, hT2⟩ := elmT_spec hT
        obtain ⟨hh, h, hm⟩ := run_optInt hs h
        obtain ⟨hmb, h⟩ := h
        obtain ⟨l, h, hl⟩ := run_optInt hs h
        obtain ⟨hlm, h⟩ := h
        obtain ⟨A, c, rfl, hlc, hp⟩ := (hu.list hxs).part hk hlm hmb
        have hb := run_bounds2 (P := P) (isS := true) hl hm hlm (Nat.le_trans hmb hlc) w
        refine ⟨_, _, ?_, .d hp, h⟩
        simp [Instr.sliceAt, Instr.slice, run_underlying hT1, hb, run_szT hT2]
      · exact h.elim
  · rename_i y
    split at h
    case h_2 => exact h.elim
    rename_i yh
    split at h
    · rename_i xs e k hxs hT
      obtain ⟨hk, h⟩ := h
      obtain ⟨hT1, hT2⟩ := elmT_spec hT
      obtain ⟨c', h3, hc⟩ := run_optInt hs h
      obtain ⟨hcl, h3⟩ := h3
      obtain ⟨hh, h4, hm⟩ := run_optInt hs h3
      obtain ⟨rfl, h5⟩ := h4
      clear h h3
      obtain ⟨k1, z1, e1, p1, q1⟩ := hc
      obtain ⟨k2, z2, e2, p2, q2⟩ := hm
      obtain ⟨A, c, rfl, hlc, hp⟩ := (hu.list hxs).part hk (Nat.zero_le hh) hcl
      have hp' : PRel G.S w (.slice A hh hh) (.sl (xs.take hh)) := by
        have h1 : (if c = 0 then A else A.map (·.add (0 * k))) = A := by
          split
          · rfl
          · cases A <;> simp [Addr.add]
        rw [h1, List.drop_zero] at hp
        obtain ⟨A', b, o, c2, k', us, e, r1, r2, r3, r4, r5, r6⟩ := hp.sl_iff
        have hl : (xs.take hh).length = hh := by simp; omega
        injection e with eA e3 e4
        subst eA
        have := PRel.sl (S := G.S) (w := w) A b o hh k' (xs.take hh) us r1 (by omega) (by omega) r4 r5 r6
        rwa [hl] at this
      refine ⟨.slice A hh hh, .full (xs.take hh), ?_, .full _ hp' ⟨A, by simp; omega⟩, h5⟩
      have b1 : (Instr.sliceBound (.int k1 z1) c .slice3Acap).run P w = .ok hh w := by rw [run_bound p1 (by omega), q1]
      have b2 : (Instr.sliceBound (.int k2 z2) hh .slice3B).run P w = .ok hh w := by rw [run_bound p2 (by omega), ← q2]
      simp only [Option.map_some, Option.map_none, e1, e2]
      have hA : A.map (·.add 0) = A := by cases A <;> simp [Addr.add]
      simp [Instr.sliceAt, Instr.slice, Instr.sliceBounds, run_underlying hT1, b1, b2, run_szT hT2, hA]
    · exact h.elim

/-! ### an append -/
theorem allD_spec : ∀ {cs : List AV} {ds : List D}, allD cs = some ds → ds.length = cs.length ∧ ∀ (i : Nat) (c : AV) (d : D), cs[i]? = some c → ds[i]? = some d → c.toD? = some d
  | [], ds, h => by simp [allD] at h; subst h; simp
  | c :: cs, ds, h => by
    unfold allD at h
    split at h
    · rename_i d l hd hl
      cases h
      obtain ⟨h1, h2⟩ := allD_spec hl
      refine ⟨by simp [h1], fun i c' d' hc hd' => ?_⟩
      match i with
      | 0 => simp at hc hd'; subst hc; subst hd'; exact hd
      | i + 1 => exact h2 i c' d' (by simpa using hc) (by simpa using hd')
    · cases h
theorem PRel.nrm1 {S : Nat → Nat → Prop} {w : World} {u : Value} {x : D} (h : PRel S w u x) : PRel S w u x.nrm1 := by
  unfold D.nrm1
  split
  · cases h with
    | v => exact .sl none 0 0 0 0 [] (fun _ _ => undef) (fun h => absurd rfl h) (Nat.le_refl _) (Nat.zero_le _) (fun _ h => nomatch h) (fun i j hi => absurd hi (Nat.not_lt_zero _)) (fun i j x d hx => by simp at hx)
  · exact h
theorem VRel.toD {u : Value} {x : AV} {d : D} (h : VRel G w u x) (hx : x.toD? = some d) : PRel G.S w u d := by
  unfold AV.toD? at hx
  split at hx
  · cases hx; cases h with | d h => exact h.nrm1
  · cases hx; cases h with | own _ _ _ h => exact h
  · cases hx; cases h with | full _ h => exact h
  · cases hx
theorem chunks_length (k : Nat) : ∀ (m : Nat) (l : List D), (chunks k m l).length = m
  | 0, _ => rfl
  | m + 1, l => by simp [chunks, chunks_length k m]
theorem chunks_get (k : Nat) : ∀ (m : Nat) (l : List D) (i : Nat), i < m → (chunks k m l)[i]? = some ((l.drop (i * k)).take k)
  | 0, _, _, h => by omega
  | m + 1, l, 0, _ => by simp [chunks]
  | m + 1, l, i + 1, h => by
    have := chunks_get k m (l.drop k) i (by omega)
    rw [chunks, List.getElem?_cons_succ, this, List.drop_drop, Nat.add_mul, Nat.one_mul, Nat.add_comm k]
/-- cells in a row, as elements of k cells -/
theorem rd_chunks {k m : Nat} {us : List Value} {ds : List D} (hl : ds.length = m * k) (hu : us.length = m * k) (h1 : ∀ u ∈ us, u.oneCell' = true)
    (hr : ∀ (i : Nat) (u : Value) (d : D), us[i]? = some u → ds[i]? = some d → PRel G.S w u d) : Rd G.S w k (chunks k m ds) us := by
  have hb : ∀ i, i < m → (i + 1) * k ≤ m * k := fun i hi => Nat.mul_le_mul_right k hi
  refine ⟨by rw [chunks_length, hu], fun x hx => ?_, h1, fun i j x d hx hd => ?_⟩
  · obtain ⟨i, hi⟩ := List.mem_iff_getElem?.1 hx
    have him : i < m := by have := (List.getElem?_eq_some_iff.1 hi).1; rwa [chunks_length] at this
    rw [chunks_get k m ds i him] at hi
    cases hi
    have := hb i him
    rw [Nat.add_mul] at this
    simp; omega
  · have him : i < m := by have := (List.getElem?_eq_some_iff.1 hx).1; rwa [chunks_length] at this
    rw [chunks_get k m ds i him] at hx
    cases hx
    rw [List.getElem?_take] at hd
    split at hd
    · rw [List.getElem?_drop] at hd
      have := (List.getElem?_eq_some_iff.1 hd).1
      have hlt : i * k + j < us.length := by omega
      exact ⟨us[i * k + j], List.getElem?_eq_getElem hlt, hr _ _ _ (List.getElem?_eq_getElem hlt) hd⟩
    · cases hd
theorem run_srcL {k U e' : Nat} {y : AV} {v : Value} {C : List (List D) → Prop} (hi : Inv G w s.h) (hv : VRel G w v y) (hk : 0 < k) (hU : P.underlying U = some (.slice e')) (h : srcL s.h k y C) :
    ∃ ys us, Rd G.S w k ys us ∧ Src P k U v ys.length us w ∧ C ys := by
  unfold srcL at h
  split at h
  · rename_i m off len cap k'
    split at h
    · rename_i cs hm
      split at h
      · rename_i ds hds
        obtain ⟨hall, hC⟩ := chk_iff.1 h
        simp only [Bool.and_eq_true, beq_iff_eq, leB_iff] at hall
        obtain ⟨⟨rfl, hlen⟩, hone⟩ := hall
        obtain ⟨h1, h2⟩ := allD_spec hds
        obtain ⟨_, _, vs, T, hh, hl, hr⟩ := hi.blk m _ hm
        cases hv with
        | row _ _ _ _ _ hmN hlc hmx =>
          have hdl : ds.length = len * k' := by rw [h1]; simp; omega
          have hul : ((vs.toList.drop off).take (len * k')).length = len * k' := by simp; omega
          have hrel : ∀ (i : Nat) (u : Value) (c : AV), ((vs.toList.drop off).take (len * k'))[i]? = some u → ((cs.drop off).take (len * k'))[i]? = some c → VRel G w u c := fun i u c hu hc => by
            rw [List.getElem?_take] at hu hc
            split at hu
            · rename_i hik
              rw [if_pos hik] at hc
              rw [List.getElem?_drop] at hu hc
              exact hr _ u c (by rw [← Array.getElem?_toList]; exact hu) hc
            · cases hu
          have hcl : ((cs.drop off).take (len * k')).length = len * k' := by simp; omega
          have hone' : ∀ u ∈ (vs.toList.drop off).take (len * k'), u.oneCell' = true := fun u hu => by
            obtain ⟨i, hi⟩ := List.mem_iff_getElem?.1 hu
            have hil : i < len * k' := by rw [← hul]; exact (List.getElem?_eq_some_iff.1 hi).1
            have hci := List.getElem?_eq_getElem (l := (cs.drop off).take (len * k')) (i := i) (by rw [hcl]; exact hil)
            exact (hrel i u _ hi hci).cellB (List.all_eq_true.1 hone _ (List.mem_of_getElem? hci))
          have hrd := rd_chunks (G := G) (w := w) (k := k') (m := len) hdl hul hone' (fun i u d hu hd => by
            have hil : i < len * k' := by rw [← hul]; exact (List.getElem?_eq_some_iff.1 hu).1
            have hci := List.getElem?_eq_getElem (l := (cs.drop off).take (len * k')) (i := i) (by rw [hcl]; exact hil)
            exact (hrel i u _ hu hci).toD (h2 i _ d hci hd))
          refine ⟨_, _, hrd, ?_, hC⟩
          rw [chunks_length]
          refine Src.ofSlice w hU _ len cap _ hul (fun j u hu => ?_) hone'
          rw [List.getElem?_take] at hu
          split at hu
          · rw [List.getElem?_drop, Array.getElem?_toList] at hu
            rw [add_off, cell_of_row w _ _ vs T (0, 0) hh]; exact hu
          · cases hu
      · exact h.elim
    · exact h.elim
  · split at h
    · rename_i ys hys
      obtain ⟨us, h1, h2⟩ := (hv.list hys).src (P := P) hk h.1 hU
      exact ⟨ys, us, h1, h2, h.2⟩
    · exact h.elim
theorem nil_full : PRel G.S w (.slice none 0 0) (.sl []) :=
  .sl none 0 0 0 0 [] (fun _ _ => undef) (fun h => absurd rfl h) (Nat.le_refl _) (by simp) (fun _ h => by cases h) (fun i j hi => by simp at hi) (fun i j x d hx => by simp at hx)
theorem set_last (h : List Blk) (x y : Blk) : (h ++ [x]).set h.length y = h ++ [y] := by simp
theorem run_aAppend {T U ty e' : Nat} {x y : AV} {u v : Value} {C : AV → List Blk → Prop} (hi : Inv G w s.h) (hu : VRel G w u x) (hv : VRel G w v y) (hU : P.underlying U = some (.slice e')) (h : aAppend P T s.h x y C) :
    ∃ p w' G' q h', (Builtin.append_ #[T, U] ty #[u, v]).run P w = .ok p w' ∧ Ext G.N G w G' w' ∧ G.N ≤ G'.N ∧ Inv G' w' h' ∧ VRel G' w' p q ∧ C q h' := by
  unfold aAppend at h
  split at h
  · rename_i e k hT
    obtain ⟨hT1, hT2⟩ := elmT_spec hT
    split at h
    · rename_i z by_ hz hby
      obtain ⟨hall, h⟩ := chk_iff.1 h
      simp only [Bool.and_eq_true, beq_iff_eq, leB_iff, Array.length_toList] at hall
      obtain ⟨hk, hzs⟩ := hall
      obtain ⟨i, hi1, hi2, hi3⟩ := byT_info hT2 hby
      have hi4 : i.zero = some z := by
        obtain ⟨i', h1, h2⟩ := zeroT_info hz
        rw [hi1] at h1; cases h1; exact h2
      obtain ⟨ys, us, hr, hs, h2⟩ := run_srcL hi hv hk hU h
      clear h
      have fresh : ∀ (xs : List (List D)), PRel G.S w u (.sl xs) → (∃ A, u = .slice A xs.length xs.length) → (∀ c ∈ xs, c.length = k) → xs.length + ys.length ≤ maxLen → (xs.length + ys.length) * by_ ≤ 140737488355328 →
          C (.own s.h.length (xs ++ ys)) (s.h ++ [.front e k (xs.length + ys.length)]) →
          ∃ p w' G' q h', (Builtin.append_ #[T, U] ty #[u, v]).run P w = .ok p w' ∧ Ext G.N G w G' w' ∧ G.N ≤ G'.N ∧ Inv G' w' h' ∧ VRel G' w' p q ∧ C q h' := by
        intro xs hp hf hxk hm hb hC
        obtain ⟨a1, a2, a3, a4⟩ := adopt hi hp hf e k
        obtain ⟨p, w', G', r1, r2, r3, r4, r5⟩ := run_app (P := P) (ty := ty) a3 hT1 hi1 hi4 hi2 hi3 hzs hk (n := s.h.length) (xs := xs) (ys := ys) (by simp) a4 hxk (hr.keep a1.S a1.cell) hs hm hb
        rw [set_last] at r4
        exact ⟨p, w', G', _, _, r1, a1.trans (r2.less a2), Nat.le_trans a2 r3, r4, r5, hC⟩
      split at h2
      · rename_i m xs
        split at h2
        · rename_i e2 k2 len hm
          obtain ⟨hall, rfl, hxk, hmx, hb, hC⟩ := chk_iff.1 h2
          simp only [Bool.and_eq_true, beq_iff_eq] at hall
          obtain ⟨rfl, rfl⟩ := hall
          obtain ⟨p, w', G', r1, r2, r3, r4, r5⟩ := run_app (P := P) (ty := ty) hi hT1 hi1 hi4 hi2 hi3 hzs hk hm hu hxk hr hs hmx hb
          exact ⟨p, w', G', _, _, r1, r2, r3, r4, r5, hC⟩
        · exact h2.elim
      · have := hu.val
        subst this
        obtain ⟨hmx, hb, hC⟩ := h2
        exact fresh [] nil_full ⟨none, rfl⟩ (fun _ h => by cases h) (by simpa using hmx) (by simpa using hb) (by simpa using hC)
      · rename_i xs
        obtain ⟨hxk, hmx, hb, hC⟩ := h2
        cases hu with
        | full _ hp hf => exact fresh xs hp hf hxk hmx hb hC
      · exact h2.elim
    · exact h.elim
  · exact h.elim
end
end Go.Proofs.YtaiihhogoogkmaaGreatDoor
