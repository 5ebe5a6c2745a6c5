/-
  Part 7 of the proof: Clones, ClonesV, Grows.
-/
import Derived.Test.YtnnapanbbbcalaaGreatDoorPe6
namespace Go.Proofs.YtnnapanbbbcalaaGreatDoor
open IntKind (u64 i64)
open Tryz
open Go.RowKit
set_option maxRecDepth 100000
theorem ahQ{xs:I (I D)}(a:∀c∈xs,c.length=1)(b:xs.length<=maxLen)(e:xs.length*8<=140737488355328):AFn prog 64 [.d (.sl xs)] (·= .d (.sl xs)):=by
 refine mU func64 rfl (by kernel_rfl) ?_;refine gr [0] 0 (Zv _) (s':=⟨8,[(0,.d (.sl xs))],[]⟩) (by kernel_rfl) ?_;refine aw (Cy [] [] [] ?_)
 repeat refine aw ?_
 refine fU ?_;refine cp rfl ?_;refine AJ (x:= .d (.sl xs)) rfl rfl ?_;refine cp rfl ?_;refine Mw (xs:=xs) (q:=(3,1)) rfl rfl rfl (by kernel_rfl) rfl rfl (λf=> ?_) ?_
 ·subst f;refine aW ?_;refine Bp ?_
  repeat refine aw ?_
  refine Cy [] [(2,.d (.v (.slice none 0 0)))] [] ?_;refine dm ?_
  repeat (first|(with_reducible refine dn ?_)|(with_reducible refine eQ ?_))
  exact fI (by kernel_rfl)
 ·refine aW ?_;refine Br ?_;refine cN ?_;refine aW ?_
  repeat refine aw ?_
  refine Cy [(7,⟨_,_,.app (xs:=[]) (ys:=xs) (zs:=xs) (len:=0) (k:=1) (dy:=8) (n:=xs.length) rfl (λ_ g=>absurd g Yx) a (by simpa using b) (by simpa using e) rfl (by simp)⟩)] [(2,.own 0 xs)] [.front 3 1 xs.length] ?_;refine dm ?_
  repeat (first|(with_reducible refine dn ?_)|(with_reducible refine eQ ?_))
  exact fI (by kernel_rfl)
theorem as6{xs:I (I D)}(a:∀c∈xs,c.length=2)(b:xs.length<=maxLen)(e:xs.length*16<=140737488355328):AFn prog 86 [.d (.sl xs)] (·= .d (.sl xs)):=by
 refine mU func86 rfl (by kernel_rfl) ?_;refine gr [0] 0 (Zv _) (s':=⟨8,[(0,.d (.sl xs))],[]⟩) (by kernel_rfl) ?_;refine aw (Cy [] [] [] ?_)
 repeat refine aw ?_
 refine fU ?_;refine cp rfl ?_;refine AJ (x:= .d (.sl xs)) rfl rfl ?_;refine cp rfl ?_;refine Mw (xs:=xs) (q:=(45,2)) rfl rfl rfl (by kernel_rfl) rfl rfl (λf=> ?_) ?_
 ·subst f;refine aW ?_;refine Bp ?_
  repeat refine aw ?_
  refine Cy [] [(2,.d (.v (.slice none 0 0)))] [] ?_;refine dm ?_
  repeat (first|(with_reducible refine dn ?_)|(with_reducible refine eQ ?_))
  exact fI (by kernel_rfl)
 ·refine aW ?_;refine Br ?_;refine cN ?_;refine aW ?_
  repeat refine aw ?_
  refine Cy [(7,⟨_,_,.app (xs:=[]) (ys:=xs) (zs:=xs) (len:=0) (k:=2) (dy:=16) (n:=xs.length) rfl (λ_ g=>absurd g Yx) a (by simpa using b) (by simpa using e) rfl (by simp)⟩)] [(2,.own 0 xs)] [.front 45 2 xs.length] ?_;refine dm ?_
  repeat (first|(with_reducible refine dn ?_)|(with_reducible refine eQ ?_))
  exact fI (by kernel_rfl)
theorem aow{xs:I (I D)}(a:∀c∈xs,c.length=2)(b:xs.length<=maxLen)(e:xs.length*24<=140737488355328):AFn prog 222 [.d (.sl xs)] (·= .d (.sl xs)):=by
 refine mU func222 rfl (by kernel_rfl) ?_;refine gr [0] 0 (Zv _) (s':=⟨8,[(0,.d (.sl xs))],[]⟩) (by kernel_rfl) ?_;refine aw (Cy [] [] [] ?_)
 repeat refine aw ?_
 refine fU ?_;refine cp rfl ?_;refine AJ (x:= .d (.sl xs)) rfl rfl ?_;refine cp rfl ?_;refine Mw (xs:=xs) (q:=(78,2)) rfl rfl rfl (by kernel_rfl) rfl rfl (λf=> ?_) ?_
 ·subst f;refine aW ?_;refine Bp ?_
  repeat refine aw ?_
  refine Cy [] [(2,.d (.v (.slice none 0 0)))] [] ?_;refine dm ?_
  repeat (first|(with_reducible refine dn ?_)|(with_reducible refine eQ ?_))
  exact fI (by kernel_rfl)
 ·refine aW ?_;refine Br ?_;refine cN ?_;refine aW ?_
  repeat refine aw ?_
  refine Cy [(7,⟨_,_,.app (xs:=[]) (ys:=xs) (zs:=xs) (len:=0) (k:=2) (dy:=24) (n:=xs.length) rfl (λ_ g=>absurd g Yx) a (by simpa using b) (by simpa using e) rfl (by simp)⟩)] [(2,.own 0 xs)] [.front 78 2 xs.length] ?_;refine dm ?_
  repeat (first|(with_reducible refine dn ?_)|(with_reducible refine eQ ?_))
  exact fI (by kernel_rfl)
theorem apV{xs:I (I D)}(a:∀c∈xs,c.length=1)(b:xs.length<=maxLen)(e:xs.length*8<=140737488355328):dt prog 64 [.d (.sl xs)] [] λf h1=>f= .vec 0 0 xs.length xs.length 1/\h1=[.vec 3 1 (cg xs)]:=by
 refine Jp 1 func64 rfl (by kernel_rfl) (Zi rfl) ?_;refine gr [0] 0 (Zv _) (s':=⟨8,[(0,.d (.sl xs))],[]⟩) (by kernel_rfl) ?_;refine aw (Cy [] [] [] ?_)
 repeat refine aw ?_
 refine fU ?_;refine cp rfl ?_;refine AJ (x:= .d (.sl xs)) rfl rfl ?_;refine cp rfl ?_;refine Mw (xs:=xs) (q:=(3,1)) rfl rfl rfl (by kernel_rfl) rfl rfl (λg=> ?_) ?_
 ·subst g;refine aW ?_;refine Bp ?_
  repeat refine aw ?_
  refine Cy [] [(2,.d (.v (.slice none 0 0)))] [] ?_;refine aq6 2 3 1 (by kernel_rfl) ?_;refine dm ?_
  repeat (first|(with_reducible refine dn ?_)|(with_reducible refine eQ ?_))
  exact xp (lW (xs:=[]) jP) (by kernel_rfl)
 ·refine aW ?_;refine Br ?_;refine cN ?_;refine aW ?_
  repeat refine aw ?_
  refine Cy [(7,⟨_,_,.pr (.ap (cg xs) (cg xs) xs.length xs.length) (arl (h:=[]) (k:=1) (dy:=8) (y:= .d (.sl xs)) a rfl b e)⟩)] [(2,.vec 0 0 xs.length xs.length 1)] [.vec 3 1 (cg xs)] ?_;refine dm ?_
  repeat (first|(with_reducible refine dn ?_)|(with_reducible refine eQ ?_))
  exact xp (lW (xs:=xs) jP) (by kernel_rfl)
set_option linter.unusedSimpArgs false
theorem aqy{n:Nat}(h:n<=maxLen):i64.wrap ((n:Int)-i64.wrap (0-0))=(n:Int):=by
 rw[br,br];unfold maxLen at h;omega
theorem alS{n:Nat}(c:Nat.ble (n*48) 140737488355328=true):dt prog 286 [.d (.v (.slice none 0 0)),.d (.v (.int .i64 (Int.ofNat n)))] [] λf h1=>f= .own 0 []/\h1=[.front 80 3 0]:=by
 have a:=mB c (by decide);refine tz 1 func286 rfl (by kernel_rfl) (Zi rfl) ?_;refine nh (s':=⟨27,[(0,.d (.v (.slice none 0 0))),(1,.d (.v (.int .i64 (Int.ofNat n))))],[]⟩) (by kernel_rfl) ?_;refine aw (Cy [] [] [] ?_)
 repeat refine aw ?_
 refine Cy [] [(6,aA (decide ((n:Int)<0)))] [] ?_
 repeat refine aw ?_
 refine AO (t:=decide ((n:Int)<0)) (Zx (by omega)) ?_;refine cN ?_;refine aW ?_
 repeat refine aw ?_
 refine fU ?_;refine cp rfl ?_;refine AJ (x:= .d (.v (.int .i64 (Int.ofNat n)))) rfl rfl ?_;refine cp rfl ?_;refine AJ (x:= .d (.v (.slice none 0 0))) rfl rfl ?_;refine cp rfl ?_;refine Ox (x:= .d (.v (.int .i64 0))) (h':=[]) (by kernel_rfl) rfl rfl ?_;refine cp rfl ?_;refine AJ (x:= .d (.v (.slice none 0 0))) rfl rfl ?_;refine cp rfl ?_;refine AJ (x:= .d (.v (.int .i64 0))) rfl rfl ?_;refine cp rfl ?_;refine AJ (x:= .d (.v (.int .i64 (i64.wrap (0-0))))) rfl rfl ?_;refine cp rfl ?_;refine AJ (x:= .d (.v (.int .i64 (i64.wrap ((n:Int)-i64.wrap (0-0)))))) rfl rfl ?_;refine cp rfl ?_;refine AJ (x:= .d (.v (.int .i64 (i64.wrap ((n:Int)-i64.wrap (0-0)))))) rfl rfl ?_;rw[aqy a.1];refine aW ?_
 repeat refine aw ?_
 refine Cy [] [(16,aA (decide ((n:Int)>0)))] [] ?_
 repeat refine aw ?_
 rcases Nat.eq_zero_or_pos n with b|b
 ·subst b;refine AO (t:=decide (((0:Nat):Int)>0)) rfl ?_;refine cN ?_;refine aW ?_
  repeat refine aw ?_
  refine Cy [] [(4,.d (.v (.slice none 0 0)))] [] ?_;refine Nr 4 80 3 [] (.inr ⟨by kernel_rfl,rfl⟩) ?_;refine dm ?_
  repeat (first|(with_reducible refine dn ?_)|(with_reducible refine eQ ?_))
  exact ku (by kernel_rfl)
 ·refine Bo (t:=decide ((n:Int)>0)) (dO (by omega)) ?_;refine fU ?_;refine cp rfl ?_;refine AJ (x:= .d (.v (.slice none 0 0))) rfl rfl ?_;refine cp rfl ?_;refine AJ (x:= .d (.v (.slice none 0 0))) rfl rfl ?_;refine cp rfl ?_;refine Ox (x:= .d (.v (.int .i64 0))) (h':=[]) (by kernel_rfl) rfl rfl ?_;refine cp rfl ?_;refine Ox (x:= .d (.v (.slice none 0 0))) (h':=[]) (by kernel_rfl) rfl rfl ?_;refine cp rfl ?_;refine AJ (x:= .d (.v (.int .i64 (Int.ofNat n)))) rfl rfl ?_;refine cp rfl ?_;refine Ox (x:= .vec 0 0 n n 3) (h':=[.vec 80 3 (List.replicate n [.d (.v (.string ⟨#[]⟩)),.d (.v (.int .i64 0)),.d (.v (.slice none 0 0))])]) (apN (e:=80) (k:=3) (m:=n) (dy:=48) (kq:= .i64) (kn:= .i64) (z:= .agg #[.string ⟨#[]⟩,.int .i64 0,.slice none 0 0]) rfl rfl rfl (by kernel_rfl) (by kernel_rfl) (by kernel_rfl) (by kernel_rfl) (by kernel_rfl) (by kernel_rfl) b (by decide) rfl a.1 a.2) rfl rfl ?_;refine cp rfl ?_;refine AJ (x:= .d (.v (.slice none 0 0))) rfl rfl ?_;refine cp rfl ?_;refine AJ (x:= .d (.v (.int .i64 0))) rfl rfl ?_;refine cp rfl ?_;refine arK (.ol 0 0) (x:= .vec 0 0 0 n 3) (h':=[.vec 80 3 (List.replicate n [.d (.v (.string ⟨#[]⟩)),.d (.v (.int .i64 0)),.d (.v (.slice none 0 0))])]) (p:=(List.replicate n ([.d (.v (.string ⟨#[]⟩)),.d (.v (.int .i64 0)),.d (.v (.slice none 0 0))]:I AV)).length=n/\(0:Int)<=0/\(0:Int)<=0/\(0:Int)<=(n:Int)-(0:Nat)/\0=0+0/\0=0-0) (by kernel_rfl) ⟨Yq,Int.le_refl _,Int.le_refl _,by omega,rfl,rfl⟩ rfl rfl ?_
  refine cp rfl ?_;refine AJ (x:= .vec 0 0 0 n 3) rfl rfl ?_;refine aW ?_
  repeat refine aw ?_
  refine Cy [] [(4,.vec 0 0 0 n 3)] [.vec 80 3 (List.replicate n [.d (.v (.string ⟨#[]⟩)),.d (.v (.int .i64 0)),.d (.v (.slice none 0 0))])] ?_;refine amr (t:=4) rfl (by kernel_rfl) Yq ?_;refine dm ?_
  repeat (first|(with_reducible refine dn ?_)|(with_reducible refine eQ ?_))
  exact ku (by kernel_rfl)
end Go.Proofs.YtnnapanbbbcalaaGreatDoor
