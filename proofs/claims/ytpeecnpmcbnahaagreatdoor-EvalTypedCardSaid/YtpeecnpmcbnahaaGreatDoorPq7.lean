/-
  Part 7 of the proof: Clones, ClonesV, Grows.
-/
import Derived.Test.YtpeecnpmcbnahaaGreatDoorPq6
namespace Go.Proofs.YtpeecnpmcbnahaaGreatDoor
open Go.RowKit
set_option maxRecDepth 100000
theorem ad6{xs:aqP (aqP D)}(hk:∀c∈xs,c.length=1)(hm:xs.length<=maxLen)(hb:xs.length*8<=140737488355328):gi Tryz.prog 47 [.d (.sl xs)] (·= .d (.sl xs)):=by
 refine sw Tryz.func47 rfl (by kernel_rfl) ?_;refine gL [0] 0 (aqc _) (s':=⟨8,[(0, .d (.sl xs))],[]⟩) (by kernel_rfl) ?_;refine aD ?_;refine rg [] [] [] (by kernel_rfl) ?_
 repeat refine aD ?_
 refine ff ?_;refine bS rfl ?_;refine cF (x:= .d (.sl xs)) (by kernel_rfl) rfl rfl ?_;refine bS rfl ?_;refine Kr (xs:=xs) (q:=(3,1)) rfl rfl rfl (by kernel_rfl) rfl rfl (λhe=> ?_) ?_
 ·subst he;refine bK ?_;refine mg (by kernel_rfl) ?_
  repeat refine aD ?_
  refine rg [] [(2, .d (.v (.slice none 0 0)))] [] (by kernel_rfl) ?_;refine c8 ?_
  repeat (first|(with_reducible refine dg ?_)|(with_reducible refine fv ?_))
  exact gz (by kernel_rfl)
 ·refine bK ?_;refine mj (by kernel_rfl) ?_;refine dI ?_;refine bK ?_
  repeat refine aD ?_
  refine rg [(7,⟨_,_, .app (xs:=[]) (ys:=xs) (zs:=xs) (len:=0) (k:=1) (c6:=8) (n:=xs.length) rfl (λ_ hc=>absurd hc aqH) hk (by simpa using hm) (by simpa using hb) rfl (by simp)⟩)] [(2, .own 0 xs)] [.front 3 1 xs.length] (by kernel_rfl) ?_;refine c8 ?_
  repeat (first|(with_reducible refine dg ?_)|(with_reducible refine fv ?_))
  exact gz (by kernel_rfl)
theorem ajw{xs:aqP (aqP D)}(hk:∀c∈xs,c.length=2)(hm:xs.length<=maxLen)(hb:xs.length*16<=140737488355328):gi Tryz.prog 48 [.d (.sl xs)] (·= .d (.sl xs)):=by
 refine sw Tryz.func48 rfl (by kernel_rfl) ?_;refine gL [0] 0 (aqc _) (s':=⟨8,[(0, .d (.sl xs))],[]⟩) (by kernel_rfl) ?_;refine aD ?_;refine rg [] [] [] (by kernel_rfl) ?_
 repeat refine aD ?_
 refine ff ?_;refine bS rfl ?_;refine cF (x:= .d (.sl xs)) (by kernel_rfl) rfl rfl ?_;refine bS rfl ?_;refine Kr (xs:=xs) (q:=(58,2)) rfl rfl rfl (by kernel_rfl) rfl rfl (λhe=> ?_) ?_
 ·subst he;refine bK ?_;refine mg (by kernel_rfl) ?_
  repeat refine aD ?_
  refine rg [] [(2, .d (.v (.slice none 0 0)))] [] (by kernel_rfl) ?_;refine c8 ?_
  repeat (first|(with_reducible refine dg ?_)|(with_reducible refine fv ?_))
  exact gz (by kernel_rfl)
 ·refine bK ?_;refine mj (by kernel_rfl) ?_;refine dI ?_;refine bK ?_
  repeat refine aD ?_
  refine rg [(7,⟨_,_, .app (xs:=[]) (ys:=xs) (zs:=xs) (len:=0) (k:=2) (c6:=16) (n:=xs.length) rfl (λ_ hc=>absurd hc aqH) hk (by simpa using hm) (by simpa using hb) rfl (by simp)⟩)] [(2, .own 0 xs)] [.front 58 2 xs.length] (by kernel_rfl) ?_;refine c8 ?_
  repeat (first|(with_reducible refine dg ?_)|(with_reducible refine fv ?_))
  exact gz (by kernel_rfl)
theorem ahG{xs:aqP (aqP D)}(hk:∀c∈xs,c.length=2)(hm:xs.length<=maxLen)(hb:xs.length*24<=140737488355328):gi Tryz.prog 151 [.d (.sl xs)] (·= .d (.sl xs)):=by
 refine sw Tryz.func151 rfl (by kernel_rfl) ?_;refine gL [0] 0 (aqc _) (s':=⟨8,[(0, .d (.sl xs))],[]⟩) (by kernel_rfl) ?_;refine aD ?_;refine rg [] [] [] (by kernel_rfl) ?_
 repeat refine aD ?_
 refine ff ?_;refine bS rfl ?_;refine cF (x:= .d (.sl xs)) (by kernel_rfl) rfl rfl ?_;refine bS rfl ?_;refine Kr (xs:=xs) (q:=(50,2)) rfl rfl rfl (by kernel_rfl) rfl rfl (λhe=> ?_) ?_
 ·subst he;refine bK ?_;refine mg (by kernel_rfl) ?_
  repeat refine aD ?_
  refine rg [] [(2, .d (.v (.slice none 0 0)))] [] (by kernel_rfl) ?_;refine c8 ?_
  repeat (first|(with_reducible refine dg ?_)|(with_reducible refine fv ?_))
  exact gz (by kernel_rfl)
 ·refine bK ?_;refine mj (by kernel_rfl) ?_;refine dI ?_;refine bK ?_
  repeat refine aD ?_
  refine rg [(7,⟨_,_, .app (xs:=[]) (ys:=xs) (zs:=xs) (len:=0) (k:=2) (c6:=24) (n:=xs.length) rfl (λ_ hc=>absurd hc aqH) hk (by simpa using hm) (by simpa using hb) rfl (by simp)⟩)] [(2, .own 0 xs)] [.front 50 2 xs.length] (by kernel_rfl) ?_;refine c8 ?_
  repeat (first|(with_reducible refine dg ?_)|(with_reducible refine fv ?_))
  exact gz (by kernel_rfl)
theorem aiv{xs:aqP (aqP D)}(hk:∀c∈xs,c.length=1)(hm:xs.length<=maxLen)(hb:xs.length*8<=140737488355328):cV Tryz.prog 47 [.d (.sl xs)] [] λr1 J=>r1= .vec 0 0 xs.length xs.length 1/\J=[.vec 3 1 (cp xs)]:=by
 refine Gx 1 Tryz.func47 rfl (by kernel_rfl) (ap9 rfl) ?_;refine gL [0] 0 (aqc _) (s':=⟨8,[(0, .d (.sl xs))],[]⟩) (by kernel_rfl) ?_;refine aD ?_;refine rg [] [] [] (by kernel_rfl) ?_
 repeat refine aD ?_
 refine ff ?_;refine bS rfl ?_;refine cF (x:= .d (.sl xs)) (by kernel_rfl) rfl rfl ?_;refine bS rfl ?_;refine Kr (xs:=xs) (q:=(3,1)) rfl rfl rfl (by kernel_rfl) rfl rfl (λhe=> ?_) ?_
 ·subst he;refine bK ?_;refine mg (by kernel_rfl) ?_
  repeat refine aD ?_
  refine rg [] [(2, .d (.v (.slice none 0 0)))] [] (by kernel_rfl) ?_;refine aeg 2 3 1 (by kernel_rfl) ?_;refine c8 ?_
  repeat (first|(with_reducible refine dg ?_)|(with_reducible refine fv ?_))
  exact vc (mc (xs:=[]) jU) (by kernel_rfl)
 ·refine bK ?_;refine mj (by kernel_rfl) ?_;refine dI ?_;refine bK ?_
  repeat refine aD ?_
  refine rg [(7,⟨_,_, .pr (.ap (cp xs) (cp xs) xs.length xs.length) (anf (h:=[]) (k:=1) (c6:=8) (y:= .d (.sl xs)) hk rfl hm hb)⟩)] [(2, .vec 0 0 xs.length xs.length 1)] [.vec 3 1 (cp xs)] (by kernel_rfl) ?_;refine c8 ?_
  repeat (first|(with_reducible refine dg ?_)|(with_reducible refine fv ?_))
  exact vc (mc (xs:=xs) jU) (by kernel_rfl)
set_option linter.unusedSimpArgs false
theorem ajq{n:Nat}(h:n<=maxLen):IntKind.i64.wrap ((n:Int)-IntKind.i64.wrap (0-0))=(n:Int):=by
 rw[IntKind.wrap_i64,IntKind.wrap_i64];unfold maxLen at h;omega
theorem afw{n:Nat}(hb:Nat.ble (n*48) 140737488355328=true):cV Tryz.prog 262 [.d (.v (.slice none 0 0)), .d (.v (.int .i64 (Int.ofNat n)))] [] λr1 J=>r1= .own 0 []/\J=[.front 63 3 0]:=by
 have hc:=nD hb (by decide);refine rK 1 Tryz.func262 rfl (by kernel_rfl) (ap9 rfl) ?_;refine mz (s':=⟨27,[(0, .d (.v (.slice none 0 0))),(1, .d (.v (.int .i64 (Int.ofNat n))))],[]⟩) (by kernel_rfl) ?_;refine aD ?_;refine rg [] [] [] (by kernel_rfl) ?_
 repeat refine aD ?_
 refine rg [] [(6,aK (decide ((n:Int)<0)))] [] (by kernel_rfl) ?_
 repeat refine aD ?_
 refine eP (t:=decide ((n:Int)<0)) (by kernel_rfl) (aqJ (by omega)) ?_;refine dI ?_;refine bK ?_
 repeat refine aD ?_
 refine ff ?_;refine bS rfl ?_;refine cF (x:= .d (.v (.int .i64 (Int.ofNat n)))) (by kernel_rfl) rfl rfl ?_;refine bS rfl ?_;refine cF (x:= .d (.v (.slice none 0 0))) (by kernel_rfl) rfl rfl ?_;refine bS rfl ?_;refine KB (x:= .d (.v (.int .i64 0))) (h':=[]) (by kernel_rfl) rfl rfl ?_;refine bS rfl ?_;refine cF (x:= .d (.v (.slice none 0 0))) (by kernel_rfl) rfl rfl ?_;refine bS rfl ?_;refine cF (x:= .d (.v (.int .i64 0))) (by kernel_rfl) rfl rfl ?_;refine bS rfl ?_;refine cF (x:= .d (.v (.int .i64 (IntKind.i64.wrap (0-0))))) (by kernel_rfl) rfl rfl ?_;refine bS rfl ?_;refine cF (x:= .d (.v (.int .i64 (IntKind.i64.wrap ((n:Int)-IntKind.i64.wrap (0-0)))))) (by kernel_rfl) rfl rfl ?_;refine bS rfl ?_;refine cF (x:= .d (.v (.int .i64 (IntKind.i64.wrap ((n:Int)-IntKind.i64.wrap (0-0)))))) (by kernel_rfl) rfl rfl ?_;rw[ajq hc.1];refine bK ?_
 repeat refine aD ?_
 refine rg [] [(16,aK (decide ((n:Int)>0)))] [] (by kernel_rfl) ?_
 repeat refine aD ?_
 rcases Nat.eq_zero_or_pos n with h0|h0
 ·subst h0;refine eP (t:=decide (((0:Nat):Int)>0)) (by kernel_rfl) rfl ?_;refine dI ?_;refine bK ?_
  repeat refine aD ?_
  refine rg [] [(4, .d (.v (.slice none 0 0)))] [] (by kernel_rfl) ?_;refine Jp 4 63 3 [] (.inr ⟨by kernel_rfl,rfl⟩) ?_;refine c8 ?_
  repeat (first|(with_reducible refine dg ?_)|(with_reducible refine fv ?_))
  exact jA (by kernel_rfl)
 ·refine eW (t:=decide ((n:Int)>0)) (by kernel_rfl) (aqI (by omega)) ?_;refine ff ?_;refine bS rfl ?_;refine cF (x:= .d (.v (.slice none 0 0))) (by kernel_rfl) rfl rfl ?_;refine bS rfl ?_;refine cF (x:= .d (.v (.slice none 0 0))) (by kernel_rfl) rfl rfl ?_;refine bS rfl ?_;refine KB (x:= .d (.v (.int .i64 0))) (h':=[]) (by kernel_rfl) rfl rfl ?_;refine bS rfl ?_;refine KB (x:= .d (.v (.slice none 0 0))) (h':=[]) (by kernel_rfl) rfl rfl ?_;refine bS rfl ?_;refine cF (x:= .d (.v (.int .i64 (Int.ofNat n)))) (by kernel_rfl) rfl rfl ?_;refine bS rfl ?_;refine KB (x:= .vec 0 0 n n 3) (h':=[.vec 63 3 (List.replicate n [.d (.v (.string ⟨#[]⟩)), .d (.v (.int .i64 0)), .d (.v (.slice none 0 0))])]) (afu (e:=63) (k:=3) (m:=n) (c6:=48) (kq:= .i64) (kn:= .i64) (z:= .agg #[.string ⟨#[]⟩, .int .i64 0, .slice none 0 0]) rfl rfl rfl (by kernel_rfl) (by kernel_rfl) (by kernel_rfl) (by kernel_rfl) (by kernel_rfl) (by kernel_rfl) h0 (by decide) rfl hc.1 hc.2) rfl rfl ?_;refine bS rfl ?_;refine cF (x:= .d (.v (.slice none 0 0))) (by kernel_rfl) rfl rfl ?_;refine bS rfl ?_;refine cF (x:= .d (.v (.int .i64 0))) (by kernel_rfl) rfl rfl ?_;refine bS rfl ?_;refine alu (.ol 0 0) (x:= .vec 0 0 0 n 3) (h':=[.vec 63 3 (List.replicate n [.d (.v (.string ⟨#[]⟩)), .d (.v (.int .i64 0)), .d (.v (.slice none 0 0))])]) (p:=(List.replicate n ([.d (.v (.string ⟨#[]⟩)), .d (.v (.int .i64 0)), .d (.v (.slice none 0 0))]:aqP AV)).length=n/\(0:Int)<=0/\(0:Int)<=0/\(0:Int)<=(n:Int)-(0:Nat)/\0=0+0/\0=0-0) (by kernel_rfl) ⟨aqB,Int.le_refl _,Int.le_refl _,by omega,rfl,rfl⟩ rfl rfl ?_
  refine bS rfl ?_;refine cF (x:= .vec 0 0 0 n 3) (by kernel_rfl) rfl rfl ?_;refine bK ?_
  repeat refine aD ?_
  refine rg [] [(4, .vec 0 0 0 n 3)] [.vec 63 3 (List.replicate n [.d (.v (.string ⟨#[]⟩)), .d (.v (.int .i64 0)), .d (.v (.slice none 0 0))])] (by kernel_rfl) ?_;refine ago (t:=4) rfl (by kernel_rfl) aqB ?_;refine c8 ?_
  repeat (first|(with_reducible refine dg ?_)|(with_reducible refine fv ?_))
  exact jA (by kernel_rfl)
end Go.Proofs.YtpeecnpmcbnahaaGreatDoor
