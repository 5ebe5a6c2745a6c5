/-
  Part 7 of the proof: Clones, ClonesV, Grows.
-/
import Derived.Test.YtnnapanbbbcalaaGreatDoorPr6
namespace Go.Proofs.YtnnapanbbbcalaaGreatDoor
open Go.RowKit
set_option maxRecDepth 100000
theorem afY{xs:ak4 (ak4 D)}(hk:∀c∈xs,c.length=1)(hm:xs.length<=maxLen)(hb:xs.length*8<=140737488355328):fX Tryz.prog 64 [.d (.sl xs)] (·= .d (.sl xs)):=by
 refine lU Tryz.func64 rfl (by kernel_rfl) ?_;refine fA [0] 0 (akr _) (s':=⟨8,[(0, .d (.sl xs))],[]⟩) (by kernel_rfl) ?_;refine ar ?_;refine rg [] [] [] (by kernel_rfl) ?_
 repeat refine ar ?_
 refine e7 ?_;refine bQ rfl ?_;refine cG (x:= .d (.sl xs)) (by kernel_rfl) rfl rfl ?_;refine bQ rfl ?_;refine I6 (xs:=xs) (q:=(3,1)) rfl rfl rfl (by kernel_rfl) rfl rfl (λhe=> ?_) ?_
 ·subst he;refine aI ?_;refine lq (by kernel_rfl) ?_
  repeat refine ar ?_
  refine rg [] [(2, .d (.v (.slice none 0 0)))] [] (by kernel_rfl) ?_;refine cV ?_
  repeat (first|(with_reducible refine cU ?_)|(with_reducible refine dW ?_))
  exact fa (by kernel_rfl)
 ·refine aI ?_;refine kW (by kernel_rfl) ?_;refine cx ?_;refine aI ?_
  repeat refine ar ?_
  refine rg [(7,⟨_,_, .app (xs:=[]) (ys:=xs) (zs:=xs) (len:=0) (k:=1) (de:=8) (n:=xs.length) rfl (λ_ hc=>absurd hc akW) hk (by simpa using hm) (by simpa using hb) rfl (by simp)⟩)] [(2, .own 0 xs)] [.front 3 1 xs.length] (by kernel_rfl) ?_;refine cV ?_
  repeat (first|(with_reducible refine cU ?_)|(with_reducible refine dW ?_))
  exact fa (by kernel_rfl)
theorem aay{xs:ak4 (ak4 D)}(hk:∀c∈xs,c.length=2)(hm:xs.length<=maxLen)(hb:xs.length*16<=140737488355328):fX Tryz.prog 86 [.d (.sl xs)] (·= .d (.sl xs)):=by
 refine lU Tryz.func86 rfl (by kernel_rfl) ?_;refine fA [0] 0 (akr _) (s':=⟨8,[(0, .d (.sl xs))],[]⟩) (by kernel_rfl) ?_;refine ar ?_;refine rg [] [] [] (by kernel_rfl) ?_
 repeat refine ar ?_
 refine e7 ?_;refine bQ rfl ?_;refine cG (x:= .d (.sl xs)) (by kernel_rfl) rfl rfl ?_;refine bQ rfl ?_;refine I6 (xs:=xs) (q:=(45,2)) rfl rfl rfl (by kernel_rfl) rfl rfl (λhe=> ?_) ?_
 ·subst he;refine aI ?_;refine lq (by kernel_rfl) ?_
  repeat refine ar ?_
  refine rg [] [(2, .d (.v (.slice none 0 0)))] [] (by kernel_rfl) ?_;refine cV ?_
  repeat (first|(with_reducible refine cU ?_)|(with_reducible refine dW ?_))
  exact fa (by kernel_rfl)
 ·refine aI ?_;refine kW (by kernel_rfl) ?_;refine cx ?_;refine aI ?_
  repeat refine ar ?_
  refine rg [(7,⟨_,_, .app (xs:=[]) (ys:=xs) (zs:=xs) (len:=0) (k:=2) (de:=16) (n:=xs.length) rfl (λ_ hc=>absurd hc akW) hk (by simpa using hm) (by simpa using hb) rfl (by simp)⟩)] [(2, .own 0 xs)] [.front 45 2 xs.length] (by kernel_rfl) ?_;refine cV ?_
  repeat (first|(with_reducible refine cU ?_)|(with_reducible refine dW ?_))
  exact fa (by kernel_rfl)
theorem YH{xs:ak4 (ak4 D)}(hk:∀c∈xs,c.length=2)(hm:xs.length<=maxLen)(hb:xs.length*24<=140737488355328):fX Tryz.prog 222 [.d (.sl xs)] (·= .d (.sl xs)):=by
 refine lU Tryz.func222 rfl (by kernel_rfl) ?_;refine fA [0] 0 (akr _) (s':=⟨8,[(0, .d (.sl xs))],[]⟩) (by kernel_rfl) ?_;refine ar ?_;refine rg [] [] [] (by kernel_rfl) ?_
 repeat refine ar ?_
 refine e7 ?_;refine bQ rfl ?_;refine cG (x:= .d (.sl xs)) (by kernel_rfl) rfl rfl ?_;refine bQ rfl ?_;refine I6 (xs:=xs) (q:=(78,2)) rfl rfl rfl (by kernel_rfl) rfl rfl (λhe=> ?_) ?_
 ·subst he;refine aI ?_;refine lq (by kernel_rfl) ?_
  repeat refine ar ?_
  refine rg [] [(2, .d (.v (.slice none 0 0)))] [] (by kernel_rfl) ?_;refine cV ?_
  repeat (first|(with_reducible refine cU ?_)|(with_reducible refine dW ?_))
  exact fa (by kernel_rfl)
 ·refine aI ?_;refine kW (by kernel_rfl) ?_;refine cx ?_;refine aI ?_
  repeat refine ar ?_
  refine rg [(7,⟨_,_, .app (xs:=[]) (ys:=xs) (zs:=xs) (len:=0) (k:=2) (de:=24) (n:=xs.length) rfl (λ_ hc=>absurd hc akW) hk (by simpa using hm) (by simpa using hb) rfl (by simp)⟩)] [(2, .own 0 xs)] [.front 78 2 xs.length] (by kernel_rfl) ?_;refine cV ?_
  repeat (first|(with_reducible refine cU ?_)|(with_reducible refine dW ?_))
  exact fa (by kernel_rfl)
theorem afx{xs:ak4 (ak4 D)}(hk:∀c∈xs,c.length=1)(hm:xs.length<=maxLen)(hb:xs.length*8<=140737488355328):cZ Tryz.prog 64 [.d (.sl xs)] [] λr1 J=>r1= .vec 0 0 xs.length xs.length 1/\J=[.vec 3 1 (ck xs)]:=by
 refine AR 1 Tryz.func64 rfl (by kernel_rfl) (ako rfl) ?_;refine fA [0] 0 (akr _) (s':=⟨8,[(0, .d (.sl xs))],[]⟩) (by kernel_rfl) ?_;refine ar ?_;refine rg [] [] [] (by kernel_rfl) ?_
 repeat refine ar ?_
 refine e7 ?_;refine bQ rfl ?_;refine cG (x:= .d (.sl xs)) (by kernel_rfl) rfl rfl ?_;refine bQ rfl ?_;refine I6 (xs:=xs) (q:=(3,1)) rfl rfl rfl (by kernel_rfl) rfl rfl (λhe=> ?_) ?_
 ·subst he;refine aI ?_;refine lq (by kernel_rfl) ?_
  repeat refine ar ?_
  refine rg [] [(2, .d (.v (.slice none 0 0)))] [] (by kernel_rfl) ?_;refine aiN 2 3 1 (by kernel_rfl) ?_;refine cV ?_
  repeat (first|(with_reducible refine cU ?_)|(with_reducible refine dW ?_))
  exact tu (kS (xs:=[]) jr) (by kernel_rfl)
 ·refine aI ?_;refine kW (by kernel_rfl) ?_;refine cx ?_;refine aI ?_
  repeat refine ar ?_
  refine rg [(7,⟨_,_, .pr (.ap (ck xs) (ck xs) xs.length xs.length) (ah2 (h:=[]) (k:=1) (de:=8) (y:= .d (.sl xs)) hk rfl hm hb)⟩)] [(2, .vec 0 0 xs.length xs.length 1)] [.vec 3 1 (ck xs)] (by kernel_rfl) ?_;refine cV ?_
  repeat (first|(with_reducible refine cU ?_)|(with_reducible refine dW ?_))
  exact tu (kS (xs:=xs) jr) (by kernel_rfl)
set_option linter.unusedSimpArgs false
theorem aeA{n:Nat}(h:n<=maxLen):IntKind.i64.wrap ((n:Int)-IntKind.i64.wrap (0-0))=(n:Int):=by
 rw[IntKind.wrap_i64,IntKind.wrap_i64];unfold maxLen at h;omega
theorem af0{n:Nat}(hb:Nat.ble (n*48) 140737488355328=true):cZ Tryz.prog 286 [.d (.v (.slice none 0 0)), .d (.v (.int .i64 (Int.ofNat n)))] [] λr1 J=>r1= .own 0 []/\J=[.front 80 3 0]:=by
 have hc:=mu hb (by decide);refine pj 1 Tryz.func286 rfl (by kernel_rfl) (ako rfl) ?_;refine lG (s':=⟨27,[(0, .d (.v (.slice none 0 0))),(1, .d (.v (.int .i64 (Int.ofNat n))))],[]⟩) (by kernel_rfl) ?_;refine ar ?_;refine rg [] [] [] (by kernel_rfl) ?_
 repeat refine ar ?_
 refine rg [] [(6,ax (decide ((n:Int)<0)))] [] (by kernel_rfl) ?_
 repeat refine ar ?_
 refine dw (t:=decide ((n:Int)<0)) (by kernel_rfl) (akY (by omega)) ?_;refine cx ?_;refine aI ?_
 repeat refine ar ?_
 refine e7 ?_;refine bQ rfl ?_;refine cG (x:= .d (.v (.int .i64 (Int.ofNat n)))) (by kernel_rfl) rfl rfl ?_;refine bQ rfl ?_;refine cG (x:= .d (.v (.slice none 0 0))) (by kernel_rfl) rfl rfl ?_;refine bQ rfl ?_;refine Fh (x:= .d (.v (.int .i64 0))) (h':=[]) (by kernel_rfl) rfl rfl ?_;refine bQ rfl ?_;refine cG (x:= .d (.v (.slice none 0 0))) (by kernel_rfl) rfl rfl ?_;refine bQ rfl ?_;refine cG (x:= .d (.v (.int .i64 0))) (by kernel_rfl) rfl rfl ?_;refine bQ rfl ?_;refine cG (x:= .d (.v (.int .i64 (IntKind.i64.wrap (0-0))))) (by kernel_rfl) rfl rfl ?_;refine bQ rfl ?_;refine cG (x:= .d (.v (.int .i64 (IntKind.i64.wrap ((n:Int)-IntKind.i64.wrap (0-0)))))) (by kernel_rfl) rfl rfl ?_;refine bQ rfl ?_;refine cG (x:= .d (.v (.int .i64 (IntKind.i64.wrap ((n:Int)-IntKind.i64.wrap (0-0)))))) (by kernel_rfl) rfl rfl ?_;rw[aeA hc.1];refine aI ?_
 repeat refine ar ?_
 refine rg [] [(16,ax (decide ((n:Int)>0)))] [] (by kernel_rfl) ?_
 repeat refine ar ?_
 rcases Nat.eq_zero_or_pos n with h0|h0
 ·subst h0;refine dw (t:=decide (((0:Nat):Int)>0)) (by kernel_rfl) rfl ?_;refine cx ?_;refine aI ?_
  repeat refine ar ?_
  refine rg [] [(4, .d (.v (.slice none 0 0)))] [] (by kernel_rfl) ?_;refine Gn 4 80 3 [] (.inr ⟨by kernel_rfl,rfl⟩) ?_;refine cV ?_
  repeat (first|(with_reducible refine cU ?_)|(with_reducible refine dW ?_))
  exact iT (by kernel_rfl)
 ·refine cQ (t:=decide ((n:Int)>0)) (by kernel_rfl) (akX (by omega)) ?_;refine e7 ?_;refine bQ rfl ?_;refine cG (x:= .d (.v (.slice none 0 0))) (by kernel_rfl) rfl rfl ?_;refine bQ rfl ?_;refine cG (x:= .d (.v (.slice none 0 0))) (by kernel_rfl) rfl rfl ?_;refine bQ rfl ?_;refine Fh (x:= .d (.v (.int .i64 0))) (h':=[]) (by kernel_rfl) rfl rfl ?_;refine bQ rfl ?_;refine Fh (x:= .d (.v (.slice none 0 0))) (h':=[]) (by kernel_rfl) rfl rfl ?_;refine bQ rfl ?_;refine cG (x:= .d (.v (.int .i64 (Int.ofNat n)))) (by kernel_rfl) rfl rfl ?_;refine bQ rfl ?_;refine Fh (x:= .vec 0 0 n n 3) (h':=[.vec 80 3 (List.replicate n [.d (.v (.string ⟨#[]⟩)), .d (.v (.int .i64 0)), .d (.v (.slice none 0 0))])]) (ajO (e:=80) (k:=3) (m:=n) (de:=48) (kq:= .i64) (kn:= .i64) (z:= .agg #[.string ⟨#[]⟩, .int .i64 0, .slice none 0 0]) rfl rfl rfl (by kernel_rfl) (by kernel_rfl) (by kernel_rfl) (by kernel_rfl) (by kernel_rfl) (by kernel_rfl) h0 (by decide) rfl hc.1 hc.2) rfl rfl ?_;refine bQ rfl ?_;refine cG (x:= .d (.v (.slice none 0 0))) (by kernel_rfl) rfl rfl ?_;refine bQ rfl ?_;refine cG (x:= .d (.v (.int .i64 0))) (by kernel_rfl) rfl rfl ?_;refine bQ rfl ?_;refine ajd (.ol 0 0) (x:= .vec 0 0 0 n 3) (h':=[.vec 80 3 (List.replicate n [.d (.v (.string ⟨#[]⟩)), .d (.v (.int .i64 0)), .d (.v (.slice none 0 0))])]) (p:=(List.replicate n ([.d (.v (.string ⟨#[]⟩)), .d (.v (.int .i64 0)), .d (.v (.slice none 0 0))]:ak4 AV)).length=n/\(0:Int)<=0/\(0:Int)<=0/\(0:Int)<=(n:Int)-(0:Nat)/\0=0+0/\0=0-0) (by kernel_rfl) ⟨akQ,Int.le_refl _,Int.le_refl _,by omega,rfl,rfl⟩ rfl rfl ?_
  refine bQ rfl ?_;refine cG (x:= .vec 0 0 0 n 3) (by kernel_rfl) rfl rfl ?_;refine aI ?_
  repeat refine ar ?_
  refine rg [] [(4, .vec 0 0 0 n 3)] [.vec 80 3 (List.replicate n [.d (.v (.string ⟨#[]⟩)), .d (.v (.int .i64 0)), .d (.v (.slice none 0 0))])] (by kernel_rfl) ?_;refine aac (t:=4) rfl (by kernel_rfl) akQ ?_;refine cV ?_
  repeat (first|(with_reducible refine cU ?_)|(with_reducible refine dW ?_))
  exact iT (by kernel_rfl)
end Go.Proofs.YtnnapanbbbcalaaGreatDoor
