/-
  Part 7 of the proof: Clones, ClonesV, Grows.
-/
import Derived.Test.YtnnapanbbbcalaaGreatDoorPd6
namespace Go.Proofs.YtnnapanbbbcalaaGreatDoor
open IntKind (u64 i64)
open Tryz
open Go.RowKit
set_option maxRecDepth 100000
theorem aiv{xs:I (I D)}(a:∀c∈xs,c.length=1)(b:xs.length<=maxLen)(e:xs.length*8<=140737488355328):gZ prog 64 [.d (.sl xs)] (·= .d (.sl xs)):=by
 refine mJ func64 rfl (by kernel_rfl) ?_;refine gu [0] 0 (Zr _) (s':=⟨8,[(0,.d (.sl xs))],[]⟩) (by kernel_rfl) ?_;refine aw (CU [] [] [] ?_)
 repeat refine aw ?_
 refine fS ?_;refine cq rfl ?_;refine BR (x:= .d (.sl xs)) rfl rfl ?_;refine cq rfl ?_;refine LC (xs:=xs) (q:=(3,1)) rfl rfl rfl (by kernel_rfl) rfl rfl (λf=> ?_) ?_
 ·subst f;refine aV ?_;refine CD ?_
  repeat refine aw ?_
  refine CU [] [(2,.d (.v (.slice none 0 0)))] [] ?_;refine dk ?_
  repeat (first|(with_reducible refine dn ?_)|(with_reducible refine eW ?_))
  exact fJ (by kernel_rfl)
 ·refine aV ?_;refine CG ?_;refine cO ?_;refine aV ?_
  repeat refine aw ?_
  refine CU [(7,⟨_,_,.app (xs:=[]) (ys:=xs) (zs:=xs) (len:=0) (k:=1) (dy:=8) (n:=xs.length) rfl (λ_ g=>absurd g Yp) a (by simpa using b) (by simpa using e) rfl (by simp)⟩)] [(2,.own 0 xs)] [.front 3 1 xs.length] ?_;refine dk ?_
  repeat (first|(with_reducible refine dn ?_)|(with_reducible refine eW ?_))
  exact fJ (by kernel_rfl)
theorem aky{xs:I (I D)}(a:∀c∈xs,c.length=2)(b:xs.length<=maxLen)(e:xs.length*16<=140737488355328):gZ prog 86 [.d (.sl xs)] (·= .d (.sl xs)):=by
 refine mJ func86 rfl (by kernel_rfl) ?_;refine gu [0] 0 (Zr _) (s':=⟨8,[(0,.d (.sl xs))],[]⟩) (by kernel_rfl) ?_;refine aw (CU [] [] [] ?_)
 repeat refine aw ?_
 refine fS ?_;refine cq rfl ?_;refine BR (x:= .d (.sl xs)) rfl rfl ?_;refine cq rfl ?_;refine LC (xs:=xs) (q:=(45,2)) rfl rfl rfl (by kernel_rfl) rfl rfl (λf=> ?_) ?_
 ·subst f;refine aV ?_;refine CD ?_
  repeat refine aw ?_
  refine CU [] [(2,.d (.v (.slice none 0 0)))] [] ?_;refine dk ?_
  repeat (first|(with_reducible refine dn ?_)|(with_reducible refine eW ?_))
  exact fJ (by kernel_rfl)
 ·refine aV ?_;refine CG ?_;refine cO ?_;refine aV ?_
  repeat refine aw ?_
  refine CU [(7,⟨_,_,.app (xs:=[]) (ys:=xs) (zs:=xs) (len:=0) (k:=2) (dy:=16) (n:=xs.length) rfl (λ_ g=>absurd g Yp) a (by simpa using b) (by simpa using e) rfl (by simp)⟩)] [(2,.own 0 xs)] [.front 45 2 xs.length] ?_;refine dk ?_
  repeat (first|(with_reducible refine dn ?_)|(with_reducible refine eW ?_))
  exact fJ (by kernel_rfl)
theorem apu{xs:I (I D)}(a:∀c∈xs,c.length=2)(b:xs.length<=maxLen)(e:xs.length*24<=140737488355328):gZ prog 222 [.d (.sl xs)] (·= .d (.sl xs)):=by
 refine mJ func222 rfl (by kernel_rfl) ?_;refine gu [0] 0 (Zr _) (s':=⟨8,[(0,.d (.sl xs))],[]⟩) (by kernel_rfl) ?_;refine aw (CU [] [] [] ?_)
 repeat refine aw ?_
 refine fS ?_;refine cq rfl ?_;refine BR (x:= .d (.sl xs)) rfl rfl ?_;refine cq rfl ?_;refine LC (xs:=xs) (q:=(78,2)) rfl rfl rfl (by kernel_rfl) rfl rfl (λf=> ?_) ?_
 ·subst f;refine aV ?_;refine CD ?_
  repeat refine aw ?_
  refine CU [] [(2,.d (.v (.slice none 0 0)))] [] ?_;refine dk ?_
  repeat (first|(with_reducible refine dn ?_)|(with_reducible refine eW ?_))
  exact fJ (by kernel_rfl)
 ·refine aV ?_;refine CG ?_;refine cO ?_;refine aV ?_
  repeat refine aw ?_
  refine CU [(7,⟨_,_,.app (xs:=[]) (ys:=xs) (zs:=xs) (len:=0) (k:=2) (dy:=24) (n:=xs.length) rfl (λ_ g=>absurd g Yp) a (by simpa using b) (by simpa using e) rfl (by simp)⟩)] [(2,.own 0 xs)] [.front 78 2 xs.length] ?_;refine dk ?_
  repeat (first|(with_reducible refine dn ?_)|(with_reducible refine eW ?_))
  exact fJ (by kernel_rfl)
theorem akr{xs:I (I D)}(a:∀c∈xs,c.length=1)(b:xs.length<=maxLen)(e:xs.length*8<=140737488355328):dq prog 64 [.d (.sl xs)] [] λf h1=>f= .vec 0 0 xs.length xs.length 1/\h1=[.vec 3 1 (cg xs)]:=by
 refine EP 1 func64 rfl (by kernel_rfl) (Zh rfl) ?_;refine gu [0] 0 (Zr _) (s':=⟨8,[(0,.d (.sl xs))],[]⟩) (by kernel_rfl) ?_;refine aw (CU [] [] [] ?_)
 repeat refine aw ?_
 refine fS ?_;refine cq rfl ?_;refine BR (x:= .d (.sl xs)) rfl rfl ?_;refine cq rfl ?_;refine LC (xs:=xs) (q:=(3,1)) rfl rfl rfl (by kernel_rfl) rfl rfl (λg=> ?_) ?_
 ·subst g;refine aV ?_;refine CD ?_
  repeat refine aw ?_
  refine CU [] [(2,.d (.v (.slice none 0 0)))] [] ?_;refine ash 2 3 1 (by kernel_rfl) ?_;refine dk ?_
  repeat (first|(with_reducible refine dn ?_)|(with_reducible refine eW ?_))
  exact xC (l6 (xs:=[]) jQ) (by kernel_rfl)
 ·refine aV ?_;refine CG ?_;refine cO ?_;refine aV ?_
  repeat refine aw ?_
  refine CU [(7,⟨_,_,.pr (.ap (cg xs) (cg xs) xs.length xs.length) (aku (h:=[]) (k:=1) (dy:=8) (y:= .d (.sl xs)) a rfl b e)⟩)] [(2,.vec 0 0 xs.length xs.length 1)] [.vec 3 1 (cg xs)] ?_;refine dk ?_
  repeat (first|(with_reducible refine dn ?_)|(with_reducible refine eW ?_))
  exact xC (l6 (xs:=xs) jQ) (by kernel_rfl)
set_option linter.unusedSimpArgs false
theorem aje{n:Nat}(h:n<=maxLen):i64.wrap ((n:Int)-i64.wrap (0-0))=(n:Int):=by
 rw[b6,b6];unfold maxLen at h;omega
theorem akS{n:Nat}(c:Nat.ble (n*48) 140737488355328=true):dq prog 286 [.d (.v (.slice none 0 0)),.d (.v (.int .i64 (Int.ofNat n)))] [] λf h1=>f= .own 0 []/\h1=[.front 80 3 0]:=by
 have a:=mj c (by decide);refine tv 1 func286 rfl (by kernel_rfl) (Zh rfl) ?_;refine mI (s':=⟨27,[(0,.d (.v (.slice none 0 0))),(1,.d (.v (.int .i64 (Int.ofNat n))))],[]⟩) (by kernel_rfl) ?_;refine aw (CU [] [] [] ?_)
 repeat refine aw ?_
 refine CU [] [(6,az (decide ((n:Int)<0)))] [] ?_
 repeat refine aw ?_
 refine BT (t:=decide ((n:Int)<0)) (Zx (by omega)) ?_;refine cO ?_;refine aV ?_
 repeat refine aw ?_
 refine fS ?_;refine cq rfl ?_;refine BR (x:= .d (.v (.int .i64 (Int.ofNat n)))) rfl rfl ?_;refine cq rfl ?_;refine BR (x:= .d (.v (.slice none 0 0))) rfl rfl ?_;refine cq rfl ?_;refine Pg (x:= .d (.v (.int .i64 0))) (h':=[]) (by kernel_rfl) rfl rfl ?_;refine cq rfl ?_;refine BR (x:= .d (.v (.slice none 0 0))) rfl rfl ?_;refine cq rfl ?_;refine BR (x:= .d (.v (.int .i64 0))) rfl rfl ?_;refine cq rfl ?_;refine BR (x:= .d (.v (.int .i64 (i64.wrap (0-0))))) rfl rfl ?_;refine cq rfl ?_;refine BR (x:= .d (.v (.int .i64 (i64.wrap ((n:Int)-i64.wrap (0-0)))))) rfl rfl ?_;refine cq rfl ?_;refine BR (x:= .d (.v (.int .i64 (i64.wrap ((n:Int)-i64.wrap (0-0)))))) rfl rfl ?_;rw[aje a.1];refine aV ?_
 repeat refine aw ?_
 refine CU [] [(16,az (decide ((n:Int)>0)))] [] ?_
 repeat refine aw ?_
 rcases Nat.eq_zero_or_pos n with b|b
 ·subst b;refine BT (t:=decide (((0:Nat):Int)>0)) rfl ?_;refine cO ?_;refine aV ?_
  repeat refine aw ?_
  refine CU [] [(4,.d (.v (.slice none 0 0)))] [] ?_;refine Pt 4 80 3 [] (.inr ⟨by kernel_rfl,rfl⟩) ?_;refine dk ?_
  repeat (first|(with_reducible refine dn ?_)|(with_reducible refine eW ?_))
  exact kt (by kernel_rfl)
 ·refine C4 (t:=decide ((n:Int)>0)) (dO (by omega)) ?_;refine fS ?_;refine cq rfl ?_;refine BR (x:= .d (.v (.slice none 0 0))) rfl rfl ?_;refine cq rfl ?_;refine BR (x:= .d (.v (.slice none 0 0))) rfl rfl ?_;refine cq rfl ?_;refine Pg (x:= .d (.v (.int .i64 0))) (h':=[]) (by kernel_rfl) rfl rfl ?_;refine cq rfl ?_;refine Pg (x:= .d (.v (.slice none 0 0))) (h':=[]) (by kernel_rfl) rfl rfl ?_;refine cq rfl ?_;refine BR (x:= .d (.v (.int .i64 (Int.ofNat n)))) rfl rfl ?_;refine cq rfl ?_;refine Pg (x:= .vec 0 0 n n 3) (h':=[.vec 80 3 (List.replicate n [.d (.v (.string ⟨#[]⟩)),.d (.v (.int .i64 0)),.d (.v (.slice none 0 0))])]) (aq7 (e:=80) (k:=3) (m:=n) (dy:=48) (kq:= .i64) (kn:= .i64) (z:= .agg #[.string ⟨#[]⟩,.int .i64 0,.slice none 0 0]) rfl rfl rfl (by kernel_rfl) (by kernel_rfl) (by kernel_rfl) (by kernel_rfl) (by kernel_rfl) (by kernel_rfl) b (by decide) rfl a.1 a.2) rfl rfl ?_;refine cq rfl ?_;refine BR (x:= .d (.v (.slice none 0 0))) rfl rfl ?_;refine cq rfl ?_;refine BR (x:= .d (.v (.int .i64 0))) rfl rfl ?_;refine cq rfl ?_;refine as4 (.ol 0 0) (x:= .vec 0 0 0 n 3) (h':=[.vec 80 3 (List.replicate n [.d (.v (.string ⟨#[]⟩)),.d (.v (.int .i64 0)),.d (.v (.slice none 0 0))])]) (p:=(List.replicate n ([.d (.v (.string ⟨#[]⟩)),.d (.v (.int .i64 0)),.d (.v (.slice none 0 0))]:I AV)).length=n/\(0:Int)<=0/\(0:Int)<=0/\(0:Int)<=(n:Int)-(0:Nat)/\0=0+0/\0=0-0) (by kernel_rfl) ⟨Yd,Int.le_refl _,Int.le_refl _,by omega,rfl,rfl⟩ rfl rfl ?_
  refine cq rfl ?_;refine BR (x:= .vec 0 0 0 n 3) rfl rfl ?_;refine aV ?_
  repeat refine aw ?_
  refine CU [] [(4,.vec 0 0 0 n 3)] [.vec 80 3 (List.replicate n [.d (.v (.string ⟨#[]⟩)),.d (.v (.int .i64 0)),.d (.v (.slice none 0 0))])] ?_;refine alh (t:=4) rfl (by kernel_rfl) Yd ?_;refine dk ?_
  repeat (first|(with_reducible refine dn ?_)|(with_reducible refine eW ?_))
  exact kt (by kernel_rfl)
end Go.Proofs.YtnnapanbbbcalaaGreatDoor
