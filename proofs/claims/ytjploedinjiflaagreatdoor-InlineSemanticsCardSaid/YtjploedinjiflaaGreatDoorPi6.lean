/-
  Part 6 of the proof.
-/
import Derived.Test.YtjploedinjiflaaGreatDoorPi5
namespace Go.Proofs.YtjploedinjiflaaGreatDoor
open IntKind (u64 i64)
open Tryz
open Go.RowKit
set_option maxRecDepth 100000
theorem ai1{xs:U (U D)}(a:∀c∈xs,c.length=1)(b:xs.length<=maxLen)(e:xs.length*8<=140737488355328):gq prog 38 [.d (.sl xs)] (·= .d (.sl xs)):=by
 refine qZ func38 rfl km ?_;refine fR [0] 0 (Zx _) (s':=⟨8,[(0,.d (.sl xs))],[]⟩) km ?_;refine az (CM [] [] [] ?_)
 repeat refine az ?_
 refine fq ?_;refine bX rfl ?_;refine AS (x:= .d (.sl xs)) rfl rfl ?_;refine bX rfl ?_;refine wz (xs:=xs) (q:=(3,1)) rfl rfl rfl km rfl rfl (λf=> ?_) ?_
 ·subst f;refine bx ?_;refine BE ?_
  repeat refine az ?_
  refine CM [] [(2,.d (.v (.slice none 0 0)))] [] ?_;refine cT ?_
  repeat (first|(with_reducible refine dd ?_)|(with_reducible refine eI ?_))
  exact fX km
 ·refine bx ?_;refine Bo ?_;refine dn ?_;refine bx ?_
  repeat refine az ?_
  refine CM [(7,⟨_,_,.app (xs:=[]) (ys:=xs) (zs:=xs) (len:=0) (k:=1) (dc:=8) (n:=xs.length) rfl (λ_ g=>absurd g Yt) a (by simpa using b) (by simpa using e) rfl gj⟩)] [(2,.own 0 xs)] [.front 3 1 xs.length] ?_;refine cT ?_
  repeat (first|(with_reducible refine dd ?_)|(with_reducible refine eI ?_))
  exact fX km
theorem as8{xs:U (U D)}(a:∀c∈xs,c.length=2)(b:xs.length<=maxLen)(e:xs.length*16<=140737488355328):gq prog 39 [.d (.sl xs)] (·= .d (.sl xs)):=by
 refine qZ func39 rfl km ?_;refine fR [0] 0 (Zx _) (s':=⟨8,[(0,.d (.sl xs))],[]⟩) km ?_;refine az (CM [] [] [] ?_)
 repeat refine az ?_
 refine fq ?_;refine bX rfl ?_;refine AS (x:= .d (.sl xs)) rfl rfl ?_;refine bX rfl ?_;refine wz (xs:=xs) (q:=(56,2)) rfl rfl rfl km rfl rfl (λf=> ?_) ?_
 ·subst f;refine bx ?_;refine BE ?_
  repeat refine az ?_
  refine CM [] [(2,.d (.v (.slice none 0 0)))] [] ?_;refine cT ?_
  repeat (first|(with_reducible refine dd ?_)|(with_reducible refine eI ?_))
  exact fX km
 ·refine bx ?_;refine Bo ?_;refine dn ?_;refine bx ?_
  repeat refine az ?_
  refine CM [(7,⟨_,_,.app (xs:=[]) (ys:=xs) (zs:=xs) (len:=0) (k:=2) (dc:=16) (n:=xs.length) rfl (λ_ g=>absurd g Yt) a (by simpa using b) (by simpa using e) rfl gj⟩)] [(2,.own 0 xs)] [.front 56 2 xs.length] ?_;refine cT ?_
  repeat (first|(with_reducible refine dd ?_)|(with_reducible refine eI ?_))
  exact fX km
theorem akZ{xs:U (U D)}(a:∀c∈xs,c.length=1)(b:xs.length<=maxLen)(e:xs.length*16<=140737488355328):gq prog 44 [.d (.sl xs)] (·= .d (.sl xs)):=by
 refine qZ func44 rfl km ?_;refine fR [0] 0 (Zx _) (s':=⟨8,[(0,.d (.sl xs))],[]⟩) km ?_;refine az (CM [] [] [] ?_)
 repeat refine az ?_
 refine fq ?_;refine bX rfl ?_;refine AS (x:= .d (.sl xs)) rfl rfl ?_;refine bX rfl ?_;refine wz (xs:=xs) (q:=(9,1)) rfl rfl rfl km rfl rfl (λf=> ?_) ?_
 ·subst f;refine bx ?_;refine BE ?_
  repeat refine az ?_
  refine CM [] [(2,.d (.v (.slice none 0 0)))] [] ?_;refine cT ?_
  repeat (first|(with_reducible refine dd ?_)|(with_reducible refine eI ?_))
  exact fX km
 ·refine bx ?_;refine Bo ?_;refine dn ?_;refine bx ?_
  repeat refine az ?_
  refine CM [(7,⟨_,_,.app (xs:=[]) (ys:=xs) (zs:=xs) (len:=0) (k:=1) (dc:=16) (n:=xs.length) rfl (λ_ g=>absurd g Yt) a (by simpa using b) (by simpa using e) rfl gj⟩)] [(2,.own 0 xs)] [.front 9 1 xs.length] ?_;refine cT ?_
  repeat (first|(with_reducible refine dd ?_)|(with_reducible refine eI ?_))
  exact fX km
theorem ast{xs:U (U D)}(a:∀c∈xs,c.length=2)(b:xs.length<=maxLen)(e:xs.length*24<=140737488355328):gq prog 84 [.d (.sl xs)] (·= .d (.sl xs)):=by
 refine qZ func84 rfl km ?_;refine fR [0] 0 (Zx _) (s':=⟨8,[(0,.d (.sl xs))],[]⟩) km ?_;refine az (CM [] [] [] ?_)
 repeat refine az ?_
 refine fq ?_;refine bX rfl ?_;refine AS (x:= .d (.sl xs)) rfl rfl ?_;refine bX rfl ?_;refine wz (xs:=xs) (q:=(95,2)) rfl rfl rfl km rfl rfl (λf=> ?_) ?_
 ·subst f;refine bx ?_;refine BE ?_
  repeat refine az ?_
  refine CM [] [(2,.d (.v (.slice none 0 0)))] [] ?_;refine cT ?_
  repeat (first|(with_reducible refine dd ?_)|(with_reducible refine eI ?_))
  exact fX km
 ·refine bx ?_;refine Bo ?_;refine dn ?_;refine bx ?_
  repeat refine az ?_
  refine CM [(7,⟨_,_,.app (xs:=[]) (ys:=xs) (zs:=xs) (len:=0) (k:=2) (dc:=24) (n:=xs.length) rfl (λ_ g=>absurd g Yt) a (by simpa using b) (by simpa using e) rfl gj⟩)] [(2,.own 0 xs)] [.front 95 2 xs.length] ?_;refine cT ?_
  repeat (first|(with_reducible refine dd ?_)|(with_reducible refine eI ?_))
  exact fX km
theorem amp{xs:U (U D)}(a:∀c∈xs,c.length=1)(b:xs.length<=maxLen)(e:xs.length*8<=140737488355328):da prog 38 [.d (.sl xs)] [] λf h1=>f= .vec 0 0 xs.length xs.length 1/\h1=[.vec 3 1 (bf xs)]:=by
 refine rz 1 func38 rfl km (Zh rfl) ?_;refine fR [0] 0 (Zx _) (s':=⟨8,[(0,.d (.sl xs))],[]⟩) km ?_;refine az (CM [] [] [] ?_)
 repeat refine az ?_
 refine fq ?_;refine bX rfl ?_;refine AS (x:= .d (.sl xs)) rfl rfl ?_;refine bX rfl ?_;refine wz (xs:=xs) (q:=(3,1)) rfl rfl rfl km rfl rfl (λg=> ?_) ?_
 ·subst g;refine bx ?_;refine BE ?_
  repeat refine az ?_
  refine CM [] [(2,.d (.v (.slice none 0 0)))] [] ?_;refine NG 2 3 1 km ?_;refine cT ?_
  repeat (first|(with_reducible refine dd ?_)|(with_reducible refine eI ?_))
  exact mw (ZF (xs:=[]) fM) km
 ·refine bx ?_;refine Bo ?_;refine dn ?_;refine bx ?_
  repeat refine az ?_
  refine CM [(7,⟨_,_,.pr (.ap (bf xs) (bf xs) xs.length xs.length) (Og (h:=[]) (k:=1) (dc:=8) (y:= .d (.sl xs)) a rfl b e)⟩)] [(2,.vec 0 0 xs.length xs.length 1)] [.vec 3 1 (bf xs)] ?_;refine cT ?_
  repeat (first|(with_reducible refine dd ?_)|(with_reducible refine eI ?_))
  exact mw (ZF (xs:=xs) fM) km
theorem aun{xs:U (U D)}(a:∀c∈xs,c.length=4)(b:xs.length<=maxLen)(e:xs.length*72<=140737488355328):da prog 127 [.d (.sl xs)] [] λf h1=>f= .vec 0 0 xs.length xs.length 4/\h1=[.vec 93 4 (bf xs)]:=by
 refine rz 1 func127 rfl km (Zh rfl) ?_;refine fR [0] 0 (Zx _) (s':=⟨8,[(0,.d (.sl xs))],[]⟩) km ?_;refine az (CM [] [] [] ?_)
 repeat refine az ?_
 refine fq ?_;refine bX rfl ?_;refine AS (x:= .d (.sl xs)) rfl rfl ?_;refine bX rfl ?_;refine wz (xs:=xs) (q:=(93,4)) rfl rfl rfl km rfl rfl (λg=> ?_) ?_
 ·subst g;refine bx ?_;refine BE ?_
  repeat refine az ?_
  refine CM [] [(2,.d (.v (.slice none 0 0)))] [] ?_;refine NG 2 93 4 km ?_;refine cT ?_
  repeat (first|(with_reducible refine dd ?_)|(with_reducible refine eI ?_))
  exact mw (ZF (xs:=[]) fM) km
 ·refine bx ?_;refine Bo ?_;refine dn ?_;refine bx ?_
  repeat refine az ?_
  refine CM [(7,⟨_,_,.pr (.ap (bf xs) (bf xs) xs.length xs.length) (Og (h:=[]) (k:=4) (dc:=72) (y:= .d (.sl xs)) a rfl b e)⟩)] [(2,.vec 0 0 xs.length xs.length 4)] [.vec 93 4 (bf xs)] ?_;refine cT ?_
  repeat (first|(with_reducible refine dd ?_)|(with_reducible refine eI ?_))
  exact mw (ZF (xs:=xs) fM) km
theorem aoF{xs:U (U D)}(a:∀c∈xs,c.length=2)(b:xs.length<=maxLen)(e:xs.length*32<=140737488355328):da prog 128 [.d (.sl xs)] [] λf h1=>f= .vec 0 0 xs.length xs.length 2/\h1=[.vec 45 2 (bf xs)]:=by
 refine rz 1 func128 rfl km (Zh rfl) ?_;refine fR [0] 0 (Zx _) (s':=⟨8,[(0,.d (.sl xs))],[]⟩) km ?_;refine az (CM [] [] [] ?_)
 repeat refine az ?_
 refine fq ?_;refine bX rfl ?_;refine AS (x:= .d (.sl xs)) rfl rfl ?_;refine bX rfl ?_;refine wz (xs:=xs) (q:=(45,2)) rfl rfl rfl km rfl rfl (λg=> ?_) ?_
 ·subst g;refine bx ?_;refine BE ?_
  repeat refine az ?_
  refine CM [] [(2,.d (.v (.slice none 0 0)))] [] ?_;refine NG 2 45 2 km ?_;refine cT ?_
  repeat (first|(with_reducible refine dd ?_)|(with_reducible refine eI ?_))
  exact mw (ZF (xs:=[]) fM) km
 ·refine bx ?_;refine Bo ?_;refine dn ?_;refine bx ?_
  repeat refine az ?_
  refine CM [(7,⟨_,_,.pr (.ap (bf xs) (bf xs) xs.length xs.length) (Og (h:=[]) (k:=2) (dc:=32) (y:= .d (.sl xs)) a rfl b e)⟩)] [(2,.vec 0 0 xs.length xs.length 2)] [.vec 45 2 (bf xs)] ?_;refine cT ?_
  repeat (first|(with_reducible refine dd ?_)|(with_reducible refine eI ?_))
  exact mw (ZF (xs:=xs) fM) km
theorem anR{xs:U (U D)}(a:∀c∈xs,c.length=13)(b:xs.length<=maxLen)(e:xs.length*160<=140737488355328):da prog 129 [.d (.sl xs)] [] λf h1=>f= .vec 0 0 xs.length xs.length 13/\h1=[.vec 60 13 (bf xs)]:=by
 refine rz 1 func129 rfl km (Zh rfl) ?_;refine fR [0] 0 (Zx _) (s':=⟨8,[(0,.d (.sl xs))],[]⟩) km ?_;refine az (CM [] [] [] ?_)
 repeat refine az ?_
 refine fq ?_;refine bX rfl ?_;refine AS (x:= .d (.sl xs)) rfl rfl ?_;refine bX rfl ?_;refine wz (xs:=xs) (q:=(60,13)) rfl rfl rfl km rfl rfl (λg=> ?_) ?_
 ·subst g;refine bx ?_;refine BE ?_
  repeat refine az ?_
  refine CM [] [(2,.d (.v (.slice none 0 0)))] [] ?_;refine NG 2 60 13 km ?_;refine cT ?_
  repeat (first|(with_reducible refine dd ?_)|(with_reducible refine eI ?_))
  exact mw (ZF (xs:=[]) fM) km
 ·refine bx ?_;refine Bo ?_;refine dn ?_;refine bx ?_
  repeat refine az ?_
  refine CM [(7,⟨_,_,.pr (.ap (bf xs) (bf xs) xs.length xs.length) (Og (h:=[]) (k:=13) (dc:=160) (y:= .d (.sl xs)) a rfl b e)⟩)] [(2,.vec 0 0 xs.length xs.length 13)] [.vec 60 13 (bf xs)] ?_;refine cT ?_
  repeat (first|(with_reducible refine dd ?_)|(with_reducible refine eI ?_))
  exact mw (ZF (xs:=xs) fM) km
set_option linter.unusedSimpArgs false
theorem alC{n:Nat}(h:n<=maxLen):i64.wrap ((n:Int)-i64.wrap (0-0))=(n:Int):=by
 rw[cR,cR];unfold maxLen at h;omega
theorem ap2{n:Nat}(c:Nat.ble (n*48) 140737488355328=true):da prog 175 [.d (.v (.slice none 0 0)),.d (.v (.int .i64 (Int.ofNat n)))] [] λf h1=>f= .own 0 []/\h1=[.front 65 3 0]:=by
 have a:=lG c gy;refine sJ 1 func175 rfl km (Zh rfl) ?_;refine j0 (s':=⟨27,[(0,.d (.v (.slice none 0 0))),(1,.d (.v (.int .i64 (Int.ofNat n))))],[]⟩) km ?_;refine az (CM [] [] [] ?_)
 repeat refine az ?_
 refine CM [] [(6,aG (decide ((n:Int)<0)))] [] ?_
 repeat refine az ?_
 refine AX (t:=decide ((n:Int)<0)) (Zn k7) ?_;refine dn ?_;refine bx ?_
 repeat refine az ?_
 refine fq ?_;refine bX rfl ?_;refine AS (x:= .d (.v (.int .i64 (Int.ofNat n)))) rfl rfl ?_;refine bX rfl ?_;refine AS (x:= .d (.v (.slice none 0 0))) rfl rfl ?_;refine bX rfl ?_;refine PK (x:= .d (.v (.int .i64 0))) (h':=[]) km rfl rfl ?_;refine bX rfl ?_;refine AS (x:= .d (.v (.slice none 0 0))) rfl rfl ?_;refine bX rfl ?_;refine AS (x:= .d (.v (.int .i64 0))) rfl rfl ?_;refine bX rfl ?_;refine AS (x:= .d (.v (.int .i64 (i64.wrap (0-0))))) rfl rfl ?_;refine bX rfl ?_;refine AS (x:= .d (.v (.int .i64 (i64.wrap ((n:Int)-i64.wrap (0-0)))))) rfl rfl ?_;refine bX rfl ?_;refine AS (x:= .d (.v (.int .i64 (i64.wrap ((n:Int)-i64.wrap (0-0)))))) rfl rfl ?_;rw[alC a.1];refine bx ?_
 repeat refine az ?_
 refine CM [] [(16,aG (decide ((n:Int)>0)))] [] ?_
 repeat refine az ?_
 rcases Nat.eq_zero_or_pos n with b|b
 ·subst b;refine AX (t:=decide (((0:Nat):Int)>0)) rfl ?_;refine dn ?_;refine bx ?_
  repeat refine az ?_
  refine CM [] [(4,.d (.v (.slice none 0 0)))] [] ?_;refine OW 4 65 3 [] (.inr ⟨by kernel_rfl,rfl⟩) ?_;refine cT ?_
  repeat (first|(with_reducible refine dd ?_)|(with_reducible refine eI ?_))
  exact jQ km
 ·refine AY (t:=decide ((n:Int)>0)) (eD k7) ?_;refine fq ?_;refine bX rfl ?_;refine AS (x:= .d (.v (.slice none 0 0))) rfl rfl ?_;refine bX rfl ?_;refine AS (x:= .d (.v (.slice none 0 0))) rfl rfl ?_;refine bX rfl ?_;refine PK (x:= .d (.v (.int .i64 0))) (h':=[]) km rfl rfl ?_;refine bX rfl ?_;refine PK (x:= .d (.v (.slice none 0 0))) (h':=[]) km rfl rfl ?_;refine bX rfl ?_;refine AS (x:= .d (.v (.int .i64 (Int.ofNat n)))) rfl rfl ?_;refine bX rfl ?_;refine PK (x:= .vec 0 0 n n 3) (h':=[.vec 65 3 (List.replicate n [.d (.v (.string ⟨#[]⟩)),.d (.v (.int .i64 0)),.d (.v (.slice none 0 0))])]) (amV (e:=65) (k:=3) (m:=n) (dc:=48) (kq:= .i64) (kn:= .i64) (z:= .agg #[.string ⟨#[]⟩,.int .i64 0,.slice none 0 0]) rfl rfl rfl km km km km km km b gy rfl a.1 a.2) rfl rfl ?_;refine bX rfl ?_;refine AS (x:= .d (.v (.slice none 0 0))) rfl rfl ?_;refine bX rfl ?_;refine AS (x:= .d (.v (.int .i64 0))) rfl rfl ?_;refine bX rfl ?_;refine akC (.ol 0 0) (x:= .vec 0 0 0 n 3) (h':=[.vec 65 3 (List.replicate n [.d (.v (.string ⟨#[]⟩)),.d (.v (.int .i64 0)),.d (.v (.slice none 0 0))])]) (p:=(List.replicate n ([.d (.v (.string ⟨#[]⟩)),.d (.v (.int .i64 0)),.d (.v (.slice none 0 0))]:U AV)).length=n/\(0:Int)<=0/\(0:Int)<=0/\(0:Int)<=(n:Int)-(0:Nat)/\0=0+0/\0=0-0) km ⟨Ym,Int.le_refl _,Int.le_refl _,by omega,rfl,rfl⟩ rfl rfl ?_
  refine bX rfl ?_;refine AS (x:= .vec 0 0 0 n 3) rfl rfl ?_;refine bx ?_
  repeat refine az ?_
  refine CM [] [(4,.vec 0 0 0 n 3)] [.vec 65 3 (List.replicate n [.d (.v (.string ⟨#[]⟩)),.d (.v (.int .i64 0)),.d (.v (.slice none 0 0))])] ?_;refine aml (t:=4) rfl km Ym ?_;refine cT ?_
  repeat (first|(with_reducible refine dd ?_)|(with_reducible refine eI ?_))
  exact jQ km
end Go.Proofs.YtjploedinjiflaaGreatDoor
