/-
  Part 6 of the proof: Clones, ClonesV, Grows.
-/
import Derived.Test.YtmkmibahjanejaaGreatDoorPp5
namespace Go.Proofs.YtmkmibahjanejaaGreatDoor
open Go.RowKit
set_option maxRecDepth 100000
theorem abN{xs:agK (agK D)}(hk:∀c∈xs,c.length=2)(hm:xs.length<=maxLen)(hb:xs.length*24<=140737488355328):gj Tryz.prog 267 [.d (.sl xs)] (·= .d (.sl xs)):=by
 refine yR Tryz.func267 rfl (by kernel_rfl) ?_;refine jG [0] 0 (af6 _) (s':=⟨8,[(0, .d (.sl xs))],[]⟩) (by kernel_rfl) ?_;refine bA ?_;refine rg [] [] [] (by kernel_rfl) ?_
 repeat refine bA ?_
 refine er ?_;refine bN rfl ?_;refine cp (x:= .d (.sl xs)) (by kernel_rfl) rfl rfl ?_;refine bN rfl ?_;refine ab0 (xs:=xs) (q:=(115,2)) rfl rfl rfl (by kernel_rfl) rfl rfl (λhe=> ?_) ?_
 ·subst he;refine cT ?_;refine nP (by kernel_rfl) ?_
  repeat refine bA ?_
  refine rg [] [(2, .d (.v (.slice none 0 0)))] [] (by kernel_rfl) ?_;refine e7 ?_
  repeat (first|(with_reducible refine hY ?_)|(with_reducible refine je ?_))
  exact jJ (by kernel_rfl)
 ·refine cT ?_;refine nO (by kernel_rfl) ?_;refine gQ ?_;refine cT ?_
  repeat refine bA ?_
  refine rg [(7,⟨_,_, .app (xs:=[]) (ys:=xs) (zs:=xs) (len:=0) (k:=2) (cq:=24) (n:=xs.length) rfl (λ_ hc=>absurd hc agC) hk (by simpa using hm) (by simpa using hb) rfl (by simp)⟩)] [(2, .own 0 xs)] [.front 115 2 xs.length] (by kernel_rfl) ?_;refine e7 ?_
  repeat (first|(with_reducible refine hY ?_)|(with_reducible refine je ?_))
  exact jJ (by kernel_rfl)
set_option linter.unusedSimpArgs false
theorem VK{n:Nat}(h:n<=maxLen):IntKind.i64.wrap ((n:Int)-IntKind.i64.wrap (0-0))=(n:Int):=by
 rw[IntKind.wrap_i64,IntKind.wrap_i64];unfold maxLen at h;omega
theorem ac9{n:Nat}(hb:Nat.ble (n*48) 140737488355328=true):b5 Tryz.prog 153 [.d (.v (.slice none 0 0)), .d (.v (.int .i64 (Int.ofNat n)))] [] λr1 h1=>r1= .own 0 []/\h1=[.front 72 3 0]:=by
 have hc:=CG hb (by decide);refine Ap 1 Tryz.func153 rfl (by kernel_rfl) (af3 rfl) ?_;refine xI (s':=⟨27,[(0, .d (.v (.slice none 0 0))),(1, .d (.v (.int .i64 (Int.ofNat n))))],[]⟩) (by kernel_rfl) ?_;refine bA ?_;refine rg [] [] [] (by kernel_rfl) ?_
 repeat refine bA ?_
 refine rg [] [(6,aJ (decide ((n:Int)<0)))] [] (by kernel_rfl) ?_
 repeat refine bA ?_
 refine lk (t:=decide ((n:Int)<0)) (by kernel_rfl) (agE (by omega)) ?_;refine gQ ?_;refine cT ?_
 repeat refine bA ?_
 refine er ?_;refine bN rfl ?_;refine cp (x:= .d (.v (.int .i64 (Int.ofNat n)))) (by kernel_rfl) rfl rfl ?_;refine bN rfl ?_;refine cp (x:= .d (.v (.slice none 0 0))) (by kernel_rfl) rfl rfl ?_;refine bN rfl ?_;refine Cx (x:= .d (.v (.int .i64 0))) (h':=[]) (by kernel_rfl) rfl rfl ?_;refine bN rfl ?_;refine cp (x:= .d (.v (.slice none 0 0))) (by kernel_rfl) rfl rfl ?_;refine bN rfl ?_;refine cp (x:= .d (.v (.int .i64 0))) (by kernel_rfl) rfl rfl ?_;refine bN rfl ?_;refine cp (x:= .d (.v (.int .i64 (IntKind.i64.wrap (0-0))))) (by kernel_rfl) rfl rfl ?_;refine bN rfl ?_;refine cp (x:= .d (.v (.int .i64 (IntKind.i64.wrap ((n:Int)-IntKind.i64.wrap (0-0)))))) (by kernel_rfl) rfl rfl ?_;refine bN rfl ?_;refine cp (x:= .d (.v (.int .i64 (IntKind.i64.wrap ((n:Int)-IntKind.i64.wrap (0-0)))))) (by kernel_rfl) rfl rfl ?_;rw[VK hc.1];refine cT ?_
 repeat refine bA ?_
 refine rg [] [(16,aJ (decide ((n:Int)>0)))] [] (by kernel_rfl) ?_
 repeat refine bA ?_
 rcases Nat.eq_zero_or_pos n with h0|h0
 ·subst h0;refine lk (t:=decide (((0:Nat):Int)>0)) (by kernel_rfl) rfl ?_;refine gQ ?_;refine cT ?_
  repeat refine bA ?_
  refine rg [] [(4, .d (.v (.slice none 0 0)))] [] (by kernel_rfl) ?_;refine QY 4 72 3 [] (.inr ⟨by kernel_rfl,rfl⟩) ?_;refine e7 ?_
  repeat (first|(with_reducible refine hY ?_)|(with_reducible refine je ?_))
  exact zW (by kernel_rfl)
 ·refine lO (t:=decide ((n:Int)>0)) (by kernel_rfl) (agD (by omega)) ?_;refine er ?_;refine bN rfl ?_;refine cp (x:= .d (.v (.slice none 0 0))) (by kernel_rfl) rfl rfl ?_;refine bN rfl ?_;refine cp (x:= .d (.v (.slice none 0 0))) (by kernel_rfl) rfl rfl ?_;refine bN rfl ?_;refine Cx (x:= .d (.v (.int .i64 0))) (h':=[]) (by kernel_rfl) rfl rfl ?_;refine bN rfl ?_;refine Cx (x:= .d (.v (.slice none 0 0))) (h':=[]) (by kernel_rfl) rfl rfl ?_;refine bN rfl ?_;refine cp (x:= .d (.v (.int .i64 (Int.ofNat n)))) (by kernel_rfl) rfl rfl ?_;refine bN rfl ?_;refine Cx (x:= .vec 0 0 n n 3) (h':=[.vec 72 3 (List.replicate n [.d (.v (.string ⟨#[]⟩)), .d (.v (.int .i64 0)), .d (.v (.slice none 0 0))])]) (acV (e:=72) (k:=3) (m:=n) (cq:=48) (kq:= .i64) (kn:= .i64) (z:= .agg #[.string ⟨#[]⟩, .int .i64 0, .slice none 0 0]) rfl rfl rfl (by kernel_rfl) (by kernel_rfl) (by kernel_rfl) (by kernel_rfl) (by kernel_rfl) (by kernel_rfl) h0 (by decide) rfl hc.1 hc.2) rfl rfl ?_;refine bN rfl ?_;refine cp (x:= .d (.v (.slice none 0 0))) (by kernel_rfl) rfl rfl ?_;refine bN rfl ?_;refine cp (x:= .d (.v (.int .i64 0))) (by kernel_rfl) rfl rfl ?_;refine bN rfl ?_;refine aef (.ol 0 0) (x:= .vec 0 0 0 n 3) (h':=[.vec 72 3 (List.replicate n [.d (.v (.string ⟨#[]⟩)), .d (.v (.int .i64 0)), .d (.v (.slice none 0 0))])]) (p:=(List.replicate n ([.d (.v (.string ⟨#[]⟩)), .d (.v (.int .i64 0)), .d (.v (.slice none 0 0))]:agK J)).length=n/\(0:Int)<=0/\(0:Int)<=0/\(0:Int)<=(n:Int)-(0:Nat)/\0=0+0/\0=0-0) (by kernel_rfl) ⟨agw,Int.le_refl _,Int.le_refl _,by omega,rfl,rfl⟩ rfl rfl ?_
  refine bN rfl ?_;refine cp (x:= .vec 0 0 0 n 3) (by kernel_rfl) rfl rfl ?_;refine cT ?_
  repeat refine bA ?_
  refine rg [] [(4, .vec 0 0 0 n 3)] [.vec 72 3 (List.replicate n [.d (.v (.string ⟨#[]⟩)), .d (.v (.int .i64 0)), .d (.v (.slice none 0 0))])] (by kernel_rfl) ?_;refine ab3 (t:=4) rfl (by kernel_rfl) agw ?_;refine e7 ?_
  repeat (first|(with_reducible refine hY ?_)|(with_reducible refine je ?_))
  exact zW (by kernel_rfl)
end Go.Proofs.YtmkmibahjanejaaGreatDoor
