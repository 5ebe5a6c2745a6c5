/-
  Part 16 of the proof: SoundCarda.
-/
import Derived.Test.YtfdhojiehjfghaaGreatDoorPs15
import Derived.Test.YtfdhojiehjfghaaGreatDoorCards
import Derived.Test.YtfdhojiehjfghaaGreatDoorTie
import Derived.SevenTiedAt
import Derived.Carry
namespace Go.Proofs.YtfdhojiehjfghaaGreatDoor
open Go.ChangeShapes Go.WideShapes Go.ChangeAt Go.RowKit
open Go.ChangeMaps (open_string shut_string)
set_option maxRecDepth 100000
set_option linter.unusedVariables false
theorem Kr:laidOutB Tryz.prog=true:=by kernel_rfl
theorem alW(os:Os)(started:os.Started)(H:Type)(enc:TypeId×anH->H):
 ReturnsInHanded {} Tryz.checked os 4 .any (λw args=>(Rows.simplifySoundSpec.pre enc Tryz.prog Tryz.f4 [] false w args/\laidMetH Tryz.prog tQ w)/\sizedMet enc Tryz.prog Tryz.f4 (OpenSpec.ofChange Rows.simplifySoundSpec) false w args)
  (Rows.simplifySoundSpec.post enc Tryz.prog Tryz.f4 false true false false):=by
 refine returnsInHanded_of_change_and (C:=Tryz.checked) (X:=λw _=>laidMetH Tryz.prog tQ w) (λ_ _ _ hh h=>h.of_heap hh) agR started (by kernel_rfl) Tryz.func4
  (ajf (enc:=enc) (os:=os) false #[.slice none 0 0, .slice none 0 0, .agg #[.int .i64 0, .string ⟨#[]⟩, .int .i64 0, .int .i64 0, .int .i64 0, .int .i64 0, .int .i64 0, .int .i64 0, .int .i64 0, .int .i64 0, .slice none 0 0, .slice none 0 0, .slice none 0 0]] 8 (by kernel_rfl) (by kernel_rfl) (by kernel_rfl)) ?_
 intro W base args ds gs before YI hW _ rI hL _;have mr:∀(j:Nat) t v,Tryz.f4.params[j]?=some t->args[j]?=some v->Value.okWide Tryz.prog W .any base t v:=YI;have hW':=hW;obtain⟨p,q,Vs,hV,rfl,hfz,jv⟩:=hW;have hA:DataW.TrodAll enc Tryz.prog W 0 (λ_=>true) true Tryz.f4.params.toList args.toList ds p:=Vs;rw[Tryz.params4]at hA mr;obtain⟨v0,vs0,d0,ds0,p0,q0,sm,rfl,rfl,h0,r0⟩:=trodAll_cons hA;obtain⟨v1,vs1,d1,ds1,p1,q1,rfl,rfl,rfl,h1,r1⟩:=trodAll_cons r0;obtain⟨v2,vs2,d2,ds2,p2,q2,rfl,rfl,rfl,h2,r2⟩:=trodAll_cons r1;obtain⟨rfl,rfl,rfl⟩:=trodAll_nil r2;obtain rfl:args= #[v0,v1,v2]:=by cases args;simp_all
 obtain⟨rfl,rfl⟩:=trodVars_none hV;have wt0:∀n∈d0.weights Tryz.prog 41,n<=reachBytes:=λn hn=>of_decide_eq_true (ane.1 rI n (DataW.weights_mem_each (j:=0) (t:=41) (d:=d0) (by rw[Tryz.params4];rfl) rfl n hn));have wt1:∀n∈d1.weights Tryz.prog 42,n<=reachBytes:=λn hn=>of_decide_eq_true (ane.1 rI n (DataW.weights_mem_each (j:=1) (t:=42) (d:=d1) (by rw[Tryz.params4];rfl) rfl n hn));have wt2:∀n∈d2.weights Tryz.prog 32,n<=reachBytes:=λn hn=>of_decide_eq_true (ane.1 rI n (DataW.weights_mem_each (j:=2) (t:=32) (d:=d2) (by rw[Tryz.params4];rfl) rfl n hn));have lt0:∀x∈p0,x.block<W.heap.size:=by obtain⟨m,hm⟩:=h0;exact DataW.trod_lt m _ _ _ hm
 obtain⟨b0,l0,c0,rfl⟩:=okWide_slice Tryz.underlying41 (mr 0 41 v0 rfl rfl);obtain⟨x0,s0,e0⟩:=Qv NZ (by decide) wt0 h0;obtain⟨a0,rfl,w0⟩:=aiv s0;have lt1:∀x∈p1,x.block<W.heap.size:=by obtain⟨m,hm⟩:=h1;exact DataW.trod_lt m _ _ _ hm
 obtain⟨b1,l1,c1,rfl⟩:=okWide_slice Tryz.underlying42 (mr 1 42 v1 rfl rfl);obtain⟨x1,s1,e1⟩:=Qv NZ (by decide) wt1 h1;obtain⟨a1,rfl,w1⟩:=abm s1;have lt2:∀x∈p2,x.block<W.heap.size:=by obtain⟨m,hm⟩:=h2;exact DataW.trod_lt m _ _ _ hm
 obtain⟨c2,rfl⟩:=amn Tryz.underlying32 (mr 2 32 v2 rfl rfl);obtain⟨x2,s2,e2⟩:=Qv NZ (by decide) wt2 h2;obtain⟨a2,rfl,w2⟩:=ab3 s2;clear Vs YI;refine(aej (acZ a0 a1 a2 w0 w1 w2) (aaH hL) _ rfl λi u c hu hc=> ?_).mono λe W' ⟨he,Gd⟩=> ?_
 ·match i with
  |0=>cases hu;cases hc;exact UK rfl e0
  |1=>cases hu;cases hc;exact UK rfl e1
  |2=>cases hu;cases hc;exact aj0 rfl e2
  |i+3=>simp at hu
 ·subst he;exact⟨_,rfl,_,_,_,[],_,[],hW',trodAll_mk1 (shut_bool Tryz.underlying4 _),(trodAll_cons_mk (Below.trod Kr (by kernel_rfl) (of_decide_eq_true (by kernel_rfl)) h0 Gd lt0) (trodAll_cons_mk (Below.trod Kr (by kernel_rfl) (of_decide_eq_true (by kernel_rfl)) h1 Gd lt1) (trodAll_cons_mk (Below.trod Kr (by kernel_rfl) (of_decide_eq_true (by kernel_rfl)) h2 Gd lt2) trodAll_mk0))),rfl,Gd.frame _,λh=>by cases h⟩
end Go.Proofs.YtfdhojiehjfghaaGreatDoor
