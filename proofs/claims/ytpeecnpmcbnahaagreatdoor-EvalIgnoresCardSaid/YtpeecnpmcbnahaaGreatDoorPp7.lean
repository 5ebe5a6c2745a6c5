/-
  Part 7 of the proof: Clones, ClonesV, Grows.
-/
import Derived.Test.YtpeecnpmcbnahaaGreatDoorPp6
namespace Go.Proofs.YtpeecnpmcbnahaaGreatDoor
open Go.RowKit
set_option maxRecDepth 100000
theorem ame{xs:apf (apf D)}(hk:∀c∈xs,c.length=1)(hm:xs.length<=maxLen)(hb:xs.length*8<=140737488355328):ga Tryz.prog 47 [.d (.sl xs)] (·= .d (.sl xs)):=by
 refine ru Tryz.func47 rfl (by kernel_rfl) ?_;refine gx [0] 0 (aoC _) (s':=⟨8,[(0, .d (.sl xs))],[]⟩) (by kernel_rfl) ?_;refine aA ?_;refine rg [] [] [] (by kernel_rfl) ?_
 repeat refine aA ?_
 refine e7 ?_;refine bJ rfl ?_;refine cD (x:= .d (.sl xs)) (by kernel_rfl) rfl rfl ?_;refine bJ rfl ?_;refine II (xs:=xs) (q:=(3,1)) rfl rfl rfl (by kernel_rfl) rfl rfl (λhe=> ?_) ?_
 ·subst he;refine bE ?_;refine lC (by kernel_rfl) ?_
  repeat refine aA ?_
  refine rg [] [(2, .d (.v (.slice none 0 0)))] [] (by kernel_rfl) ?_;refine cY ?_
  repeat (first|(with_reducible refine c9 ?_)|(with_reducible refine fa ?_))
  exact gD (by kernel_rfl)
 ·refine bE ?_;refine lP (by kernel_rfl) ?_;refine dy ?_;refine bE ?_
  repeat refine aA ?_
  refine rg [(7,⟨_,_, .app (xs:=[]) (ys:=xs) (zs:=xs) (len:=0) (k:=1) (cW:=8) (n:=xs.length) rfl (λ_ hc=>absurd hc ao7) hk (by simpa using hm) (by simpa using hb) rfl (by simp)⟩)] [(2, .own 0 xs)] [.front 3 1 xs.length] (by kernel_rfl) ?_;refine cY ?_
  repeat (first|(with_reducible refine c9 ?_)|(with_reducible refine fa ?_))
  exact gD (by kernel_rfl)
theorem agE{xs:apf (apf D)}(hk:∀c∈xs,c.length=2)(hm:xs.length<=maxLen)(hb:xs.length*16<=140737488355328):ga Tryz.prog 48 [.d (.sl xs)] (·= .d (.sl xs)):=by
 refine ru Tryz.func48 rfl (by kernel_rfl) ?_;refine gx [0] 0 (aoC _) (s':=⟨8,[(0, .d (.sl xs))],[]⟩) (by kernel_rfl) ?_;refine aA ?_;refine rg [] [] [] (by kernel_rfl) ?_
 repeat refine aA ?_
 refine e7 ?_;refine bJ rfl ?_;refine cD (x:= .d (.sl xs)) (by kernel_rfl) rfl rfl ?_;refine bJ rfl ?_;refine II (xs:=xs) (q:=(58,2)) rfl rfl rfl (by kernel_rfl) rfl rfl (λhe=> ?_) ?_
 ·subst he;refine bE ?_;refine lC (by kernel_rfl) ?_
  repeat refine aA ?_
  refine rg [] [(2, .d (.v (.slice none 0 0)))] [] (by kernel_rfl) ?_;refine cY ?_
  repeat (first|(with_reducible refine c9 ?_)|(with_reducible refine fa ?_))
  exact gD (by kernel_rfl)
 ·refine bE ?_;refine lP (by kernel_rfl) ?_;refine dy ?_;refine bE ?_
  repeat refine aA ?_
  refine rg [(7,⟨_,_, .app (xs:=[]) (ys:=xs) (zs:=xs) (len:=0) (k:=2) (cW:=16) (n:=xs.length) rfl (λ_ hc=>absurd hc ao7) hk (by simpa using hm) (by simpa using hb) rfl (by simp)⟩)] [(2, .own 0 xs)] [.front 58 2 xs.length] (by kernel_rfl) ?_;refine cY ?_
  repeat (first|(with_reducible refine c9 ?_)|(with_reducible refine fa ?_))
  exact gD (by kernel_rfl)
theorem acm{xs:apf (apf D)}(hk:∀c∈xs,c.length=2)(hm:xs.length<=maxLen)(hb:xs.length*24<=140737488355328):ga Tryz.prog 151 [.d (.sl xs)] (·= .d (.sl xs)):=by
 refine ru Tryz.func151 rfl (by kernel_rfl) ?_;refine gx [0] 0 (aoC _) (s':=⟨8,[(0, .d (.sl xs))],[]⟩) (by kernel_rfl) ?_;refine aA ?_;refine rg [] [] [] (by kernel_rfl) ?_
 repeat refine aA ?_
 refine e7 ?_;refine bJ rfl ?_;refine cD (x:= .d (.sl xs)) (by kernel_rfl) rfl rfl ?_;refine bJ rfl ?_;refine II (xs:=xs) (q:=(50,2)) rfl rfl rfl (by kernel_rfl) rfl rfl (λhe=> ?_) ?_
 ·subst he;refine bE ?_;refine lC (by kernel_rfl) ?_
  repeat refine aA ?_
  refine rg [] [(2, .d (.v (.slice none 0 0)))] [] (by kernel_rfl) ?_;refine cY ?_
  repeat (first|(with_reducible refine c9 ?_)|(with_reducible refine fa ?_))
  exact gD (by kernel_rfl)
 ·refine bE ?_;refine lP (by kernel_rfl) ?_;refine dy ?_;refine bE ?_
  repeat refine aA ?_
  refine rg [(7,⟨_,_, .app (xs:=[]) (ys:=xs) (zs:=xs) (len:=0) (k:=2) (cW:=24) (n:=xs.length) rfl (λ_ hc=>absurd hc ao7) hk (by simpa using hm) (by simpa using hb) rfl (by simp)⟩)] [(2, .own 0 xs)] [.front 50 2 xs.length] (by kernel_rfl) ?_;refine cY ?_
  repeat (first|(with_reducible refine c9 ?_)|(with_reducible refine fa ?_))
  exact gD (by kernel_rfl)
theorem adO{xs:apf (apf D)}(hk:∀c∈xs,c.length=1)(hm:xs.length<=maxLen)(hb:xs.length*8<=140737488355328):cO Tryz.prog 47 [.d (.sl xs)] [] λr1 J=>r1= .vec 0 0 xs.length xs.length 1/\J=[.vec 3 1 (cd xs)]:=by
 refine DW 1 Tryz.func47 rfl (by kernel_rfl) (aoz rfl) ?_;refine gx [0] 0 (aoC _) (s':=⟨8,[(0, .d (.sl xs))],[]⟩) (by kernel_rfl) ?_;refine aA ?_;refine rg [] [] [] (by kernel_rfl) ?_
 repeat refine aA ?_
 refine e7 ?_;refine bJ rfl ?_;refine cD (x:= .d (.sl xs)) (by kernel_rfl) rfl rfl ?_;refine bJ rfl ?_;refine II (xs:=xs) (q:=(3,1)) rfl rfl rfl (by kernel_rfl) rfl rfl (λhe=> ?_) ?_
 ·subst he;refine bE ?_;refine lC (by kernel_rfl) ?_
  repeat refine aA ?_
  refine rg [] [(2, .d (.v (.slice none 0 0)))] [] (by kernel_rfl) ?_;refine anf 2 3 1 (by kernel_rfl) ?_;refine cY ?_
  repeat (first|(with_reducible refine c9 ?_)|(with_reducible refine fa ?_))
  exact uY (lY (xs:=[]) jB) (by kernel_rfl)
 ·refine bE ?_;refine lP (by kernel_rfl) ?_;refine dy ?_;refine bE ?_
  repeat refine aA ?_
  refine rg [(7,⟨_,_, .pr (.ap (cd xs) (cd xs) xs.length xs.length) (ae7 (h:=[]) (k:=1) (cW:=8) (y:= .d (.sl xs)) hk rfl hm hb)⟩)] [(2, .vec 0 0 xs.length xs.length 1)] [.vec 3 1 (cd xs)] (by kernel_rfl) ?_;refine cY ?_
  repeat (first|(with_reducible refine c9 ?_)|(with_reducible refine fa ?_))
  exact uY (lY (xs:=xs) jB) (by kernel_rfl)
set_option linter.unusedSimpArgs false
theorem afw{n:Nat}(h:n<=maxLen):IntKind.i64.wrap ((n:Int)-IntKind.i64.wrap (0-0))=(n:Int):=by
 rw[IntKind.wrap_i64,IntKind.wrap_i64];unfold maxLen at h;omega
theorem af7{n:Nat}(hb:Nat.ble (n*48) 140737488355328=true):cO Tryz.prog 262 [.d (.v (.slice none 0 0)), .d (.v (.int .i64 (Int.ofNat n)))] [] λr1 J=>r1= .own 0 []/\J=[.front 63 3 0]:=by
 have hc:=lW hb (by decide);refine qU 1 Tryz.func262 rfl (by kernel_rfl) (aoz rfl) ?_;refine l6 (s':=⟨27,[(0, .d (.v (.slice none 0 0))),(1, .d (.v (.int .i64 (Int.ofNat n))))],[]⟩) (by kernel_rfl) ?_;refine aA ?_;refine rg [] [] [] (by kernel_rfl) ?_
 repeat refine aA ?_
 refine rg [] [(6,aL (decide ((n:Int)<0)))] [] (by kernel_rfl) ?_
 repeat refine aA ?_
 refine eH (t:=decide ((n:Int)<0)) (by kernel_rfl) (ao9 (by omega)) ?_;refine dy ?_;refine bE ?_
 repeat refine aA ?_
 refine e7 ?_;refine bJ rfl ?_;refine cD (x:= .d (.v (.int .i64 (Int.ofNat n)))) (by kernel_rfl) rfl rfl ?_;refine bJ rfl ?_;refine cD (x:= .d (.v (.slice none 0 0))) (by kernel_rfl) rfl rfl ?_;refine bJ rfl ?_;refine Iq (x:= .d (.v (.int .i64 0))) (h':=[]) (by kernel_rfl) rfl rfl ?_;refine bJ rfl ?_;refine cD (x:= .d (.v (.slice none 0 0))) (by kernel_rfl) rfl rfl ?_;refine bJ rfl ?_;refine cD (x:= .d (.v (.int .i64 0))) (by kernel_rfl) rfl rfl ?_;refine bJ rfl ?_;refine cD (x:= .d (.v (.int .i64 (IntKind.i64.wrap (0-0))))) (by kernel_rfl) rfl rfl ?_;refine bJ rfl ?_;refine cD (x:= .d (.v (.int .i64 (IntKind.i64.wrap ((n:Int)-IntKind.i64.wrap (0-0)))))) (by kernel_rfl) rfl rfl ?_;refine bJ rfl ?_;refine cD (x:= .d (.v (.int .i64 (IntKind.i64.wrap ((n:Int)-IntKind.i64.wrap (0-0)))))) (by kernel_rfl) rfl rfl ?_;rw[afw hc.1];refine bE ?_
 repeat refine aA ?_
 refine rg [] [(16,aL (decide ((n:Int)>0)))] [] (by kernel_rfl) ?_
 repeat refine aA ?_
 rcases Nat.eq_zero_or_pos n with h0|h0
 ·subst h0;refine eH (t:=decide (((0:Nat):Int)>0)) (by kernel_rfl) rfl ?_;refine dy ?_;refine bE ?_
  repeat refine aA ?_
  refine rg [] [(4, .d (.v (.slice none 0 0)))] [] (by kernel_rfl) ?_;refine Mh 4 63 3 [] (.inr ⟨by kernel_rfl,rfl⟩) ?_;refine cY ?_
  repeat (first|(with_reducible refine c9 ?_)|(with_reducible refine fa ?_))
  exact jt (by kernel_rfl)
 ·refine eK (t:=decide ((n:Int)>0)) (by kernel_rfl) (ao8 (by omega)) ?_;refine e7 ?_;refine bJ rfl ?_;refine cD (x:= .d (.v (.slice none 0 0))) (by kernel_rfl) rfl rfl ?_;refine bJ rfl ?_;refine cD (x:= .d (.v (.slice none 0 0))) (by kernel_rfl) rfl rfl ?_;refine bJ rfl ?_;refine Iq (x:= .d (.v (.int .i64 0))) (h':=[]) (by kernel_rfl) rfl rfl ?_;refine bJ rfl ?_;refine Iq (x:= .d (.v (.slice none 0 0))) (h':=[]) (by kernel_rfl) rfl rfl ?_;refine bJ rfl ?_;refine cD (x:= .d (.v (.int .i64 (Int.ofNat n)))) (by kernel_rfl) rfl rfl ?_;refine bJ rfl ?_;refine Iq (x:= .vec 0 0 n n 3) (h':=[.vec 63 3 (List.replicate n [.d (.v (.string ⟨#[]⟩)), .d (.v (.int .i64 0)), .d (.v (.slice none 0 0))])]) (ajd (e:=63) (k:=3) (m:=n) (cW:=48) (kq:= .i64) (kn:= .i64) (z:= .agg #[.string ⟨#[]⟩, .int .i64 0, .slice none 0 0]) rfl rfl rfl (by kernel_rfl) (by kernel_rfl) (by kernel_rfl) (by kernel_rfl) (by kernel_rfl) (by kernel_rfl) h0 (by decide) rfl hc.1 hc.2) rfl rfl ?_;refine bJ rfl ?_;refine cD (x:= .d (.v (.slice none 0 0))) (by kernel_rfl) rfl rfl ?_;refine bJ rfl ?_;refine cD (x:= .d (.v (.int .i64 0))) (by kernel_rfl) rfl rfl ?_;refine bJ rfl ?_;refine amL (.ol 0 0) (x:= .vec 0 0 0 n 3) (h':=[.vec 63 3 (List.replicate n [.d (.v (.string ⟨#[]⟩)), .d (.v (.int .i64 0)), .d (.v (.slice none 0 0))])]) (p:=(List.replicate n ([.d (.v (.string ⟨#[]⟩)), .d (.v (.int .i64 0)), .d (.v (.slice none 0 0))]:apf AV)).length=n/\(0:Int)<=0/\(0:Int)<=0/\(0:Int)<=(n:Int)-(0:Nat)/\0=0+0/\0=0-0) (by kernel_rfl) ⟨ao1,Int.le_refl _,Int.le_refl _,by omega,rfl,rfl⟩ rfl rfl ?_
  refine bJ rfl ?_;refine cD (x:= .vec 0 0 0 n 3) (by kernel_rfl) rfl rfl ?_;refine bE ?_
  repeat refine aA ?_
  refine rg [] [(4, .vec 0 0 0 n 3)] [.vec 63 3 (List.replicate n [.d (.v (.string ⟨#[]⟩)), .d (.v (.int .i64 0)), .d (.v (.slice none 0 0))])] (by kernel_rfl) ?_;refine ac2 (t:=4) rfl (by kernel_rfl) ao1 ?_;refine cY ?_
  repeat (first|(with_reducible refine c9 ?_)|(with_reducible refine fa ?_))
  exact jt (by kernel_rfl)
end Go.Proofs.YtpeecnpmcbnahaaGreatDoor
