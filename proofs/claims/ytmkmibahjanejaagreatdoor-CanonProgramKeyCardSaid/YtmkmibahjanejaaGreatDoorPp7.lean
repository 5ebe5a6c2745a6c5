/-
  Part 7 of the proof: Clones, ClonesV, Grows.
-/
import Derived.Test.YtmkmibahjanejaaGreatDoorPp6
namespace Go.Proofs.YtmkmibahjanejaaGreatDoor
open Go.RowKit
set_option maxRecDepth 100000
theorem ajN{xs:aqx (aqx D)}(hk:∀c∈xs,c.length=2)(hm:xs.length<=maxLen)(hb:xs.length*24<=140737488355328):ij Tryz.prog 267 [.d (.sl xs)] (·= .d (.sl xs)):=by
 refine Ca Tryz.func267 rfl (by kernel_rfl) ?_;refine mJ [0] 0 (apU _) (s':=⟨8,[(0, .d (.sl xs))],[]⟩) (by kernel_rfl) ?_;refine bW ?_;refine rg [] [] [] (by kernel_rfl) ?_
 repeat refine bW ?_
 refine fP ?_;refine cx rfl ?_;refine c9 (x:= .d (.sl xs)) (by kernel_rfl) rfl rfl ?_;refine cx rfl ?_;refine afY (xs:=xs) (q:=(115,2)) rfl rfl rfl (by kernel_rfl) rfl rfl (λhe=> ?_) ?_
 ·subst he;refine dL ?_;refine rG (by kernel_rfl) ?_
  repeat refine bW ?_
  refine rg [] [(2, .d (.v (.slice none 0 0)))] [] (by kernel_rfl) ?_;refine gN ?_
  repeat (first|(with_reducible refine jN ?_)|(with_reducible refine lE ?_))
  exact mg (by kernel_rfl)
 ·refine dL ?_;refine rC (by kernel_rfl) ?_;refine jn ?_;refine dL ?_
  repeat refine bW ?_
  refine rg [(7,⟨_,_, .app (xs:=[]) (ys:=xs) (zs:=xs) (len:=0) (k:=2) (da:=24) (n:=xs.length) rfl (λ_ hc=>absurd hc aqp) hk (by simpa using hm) (by simpa using hb) rfl (by simp)⟩)] [(2, .own 0 xs)] [.front 115 2 xs.length] (by kernel_rfl) ?_;refine gN ?_
  repeat (first|(with_reducible refine jN ?_)|(with_reducible refine lE ?_))
  exact mg (by kernel_rfl)
set_option linter.unusedSimpArgs false
theorem aob{n:Nat}(h:n<=maxLen):IntKind.i64.wrap ((n:Int)-IntKind.i64.wrap (0-0))=(n:Int):=by
 rw[IntKind.wrap_i64,IntKind.wrap_i64];unfold maxLen at h;omega
theorem anr{n:Nat}(hb:Nat.ble (n*48) 140737488355328=true):cF Tryz.prog 153 [.d (.v (.slice none 0 0)), .d (.v (.int .i64 (Int.ofNat n)))] [] λr1 h1=>r1= .own 0 []/\h1=[.front 72 3 0]:=by
 have hc:=IK hb (by decide);refine Ab 1 Tryz.func153 rfl (by kernel_rfl) (apR rfl) ?_;refine zw (s':=⟨27,[(0, .d (.v (.slice none 0 0))),(1, .d (.v (.int .i64 (Int.ofNat n))))],[]⟩) (by kernel_rfl) ?_;refine bW ?_;refine rg [] [] [] (by kernel_rfl) ?_
 repeat refine bW ?_
 refine rg [] [(6,aM (decide ((n:Int)<0)))] [] (by kernel_rfl) ?_
 repeat refine bW ?_
 refine jj (t:=decide ((n:Int)<0)) (by kernel_rfl) (aqr (by omega)) ?_;refine jn ?_;refine dL ?_
 repeat refine bW ?_
 refine fP ?_;refine cx rfl ?_;refine c9 (x:= .d (.v (.int .i64 (Int.ofNat n)))) (by kernel_rfl) rfl rfl ?_;refine cx rfl ?_;refine c9 (x:= .d (.v (.slice none 0 0))) (by kernel_rfl) rfl rfl ?_;refine cx rfl ?_;refine L3 (x:= .d (.v (.int .i64 0))) (h':=[]) (by kernel_rfl) rfl rfl ?_;refine cx rfl ?_;refine c9 (x:= .d (.v (.slice none 0 0))) (by kernel_rfl) rfl rfl ?_;refine cx rfl ?_;refine c9 (x:= .d (.v (.int .i64 0))) (by kernel_rfl) rfl rfl ?_;refine cx rfl ?_;refine c9 (x:= .d (.v (.int .i64 (IntKind.i64.wrap (0-0))))) (by kernel_rfl) rfl rfl ?_;refine cx rfl ?_;refine c9 (x:= .d (.v (.int .i64 (IntKind.i64.wrap ((n:Int)-IntKind.i64.wrap (0-0)))))) (by kernel_rfl) rfl rfl ?_;refine cx rfl ?_;refine c9 (x:= .d (.v (.int .i64 (IntKind.i64.wrap ((n:Int)-IntKind.i64.wrap (0-0)))))) (by kernel_rfl) rfl rfl ?_;rw[aob hc.1];refine dL ?_
 repeat refine bW ?_
 refine rg [] [(16,aM (decide ((n:Int)>0)))] [] (by kernel_rfl) ?_
 repeat refine bW ?_
 rcases Nat.eq_zero_or_pos n with h0|h0
 ·subst h0;refine jj (t:=decide (((0:Nat):Int)>0)) (by kernel_rfl) rfl ?_;refine jn ?_;refine dL ?_
  repeat refine bW ?_
  refine rg [] [(4, .d (.v (.slice none 0 0)))] [] (by kernel_rfl) ?_;refine aa9 4 72 3 [] (.inr ⟨by kernel_rfl,rfl⟩) ?_;refine gN ?_
  repeat (first|(with_reducible refine jN ?_)|(with_reducible refine lE ?_))
  exact Fa (by kernel_rfl)
 ·refine jI (t:=decide ((n:Int)>0)) (by kernel_rfl) (aqq (by omega)) ?_;refine fP ?_;refine cx rfl ?_;refine c9 (x:= .d (.v (.slice none 0 0))) (by kernel_rfl) rfl rfl ?_;refine cx rfl ?_;refine c9 (x:= .d (.v (.slice none 0 0))) (by kernel_rfl) rfl rfl ?_;refine cx rfl ?_;refine L3 (x:= .d (.v (.int .i64 0))) (h':=[]) (by kernel_rfl) rfl rfl ?_;refine cx rfl ?_;refine L3 (x:= .d (.v (.slice none 0 0))) (h':=[]) (by kernel_rfl) rfl rfl ?_;refine cx rfl ?_;refine c9 (x:= .d (.v (.int .i64 (Int.ofNat n)))) (by kernel_rfl) rfl rfl ?_;refine cx rfl ?_;refine L3 (x:= .vec 0 0 n n 3) (h':=[.vec 72 3 (List.replicate n [.d (.v (.string ⟨#[]⟩)), .d (.v (.int .i64 0)), .d (.v (.slice none 0 0))])]) (amt (e:=72) (k:=3) (m:=n) (da:=48) (kq:= .i64) (kn:= .i64) (z:= .agg #[.string ⟨#[]⟩, .int .i64 0, .slice none 0 0]) rfl rfl rfl (by kernel_rfl) (by kernel_rfl) (by kernel_rfl) (by kernel_rfl) (by kernel_rfl) (by kernel_rfl) h0 (by decide) rfl hc.1 hc.2) rfl rfl ?_;refine cx rfl ?_;refine c9 (x:= .d (.v (.slice none 0 0))) (by kernel_rfl) rfl rfl ?_;refine cx rfl ?_;refine c9 (x:= .d (.v (.int .i64 0))) (by kernel_rfl) rfl rfl ?_;refine cx rfl ?_;refine amX (.ol 0 0) (x:= .vec 0 0 0 n 3) (h':=[.vec 72 3 (List.replicate n [.d (.v (.string ⟨#[]⟩)), .d (.v (.int .i64 0)), .d (.v (.slice none 0 0))])]) (p:=(List.replicate n ([.d (.v (.string ⟨#[]⟩)), .d (.v (.int .i64 0)), .d (.v (.slice none 0 0))]:aqx AV)).length=n/\(0:Int)<=0/\(0:Int)<=0/\(0:Int)<=(n:Int)-(0:Nat)/\0=0+0/\0=0-0) (by kernel_rfl) ⟨aqj,Int.le_refl _,Int.le_refl _,by omega,rfl,rfl⟩ rfl rfl ?_
  refine cx rfl ?_;refine c9 (x:= .vec 0 0 0 n 3) (by kernel_rfl) rfl rfl ?_;refine dL ?_
  repeat refine bW ?_
  refine rg [] [(4, .vec 0 0 0 n 3)] [.vec 72 3 (List.replicate n [.d (.v (.string ⟨#[]⟩)), .d (.v (.int .i64 0)), .d (.v (.slice none 0 0))])] (by kernel_rfl) ?_;refine an6 (t:=4) rfl (by kernel_rfl) aqj ?_;refine gN ?_
  repeat (first|(with_reducible refine jN ?_)|(with_reducible refine lE ?_))
  exact Fa (by kernel_rfl)
end Go.Proofs.YtmkmibahjanejaaGreatDoor
