/-
  Part 7 of the proof: Clones, ClonesV, Grows.
-/
import Derived.Test.YtpeecnpmcbnahaaGreatDoorPr6
namespace Go.Proofs.YtpeecnpmcbnahaaGreatDoor
open Go.RowKit
set_option maxRecDepth 100000
theorem afO{xs:an3 (an3 D)}(hk:∀c∈xs,c.length=1)(hm:xs.length<=maxLen)(hb:xs.length*8<=140737488355328):fP Tryz.prog 47 [.d (.sl xs)] (·= .d (.sl xs)):=by
 refine qj Tryz.func47 rfl (by kernel_rfl) ?_;refine gq [0] 0 (anp _) (s':=⟨8,[(0, .d (.sl xs))],[]⟩) (by kernel_rfl) ?_;refine aA ?_;refine rg [] [] [] (by kernel_rfl) ?_
 repeat refine aA ?_
 refine eW ?_;refine bG rfl ?_;refine cy (x:= .d (.sl xs)) (by kernel_rfl) rfl rfl ?_;refine bG rfl ?_;refine Ib (xs:=xs) (q:=(3,1)) rfl rfl rfl (by kernel_rfl) rfl rfl (λhe=> ?_) ?_
 ·subst he;refine bC ?_;refine lM (by kernel_rfl) ?_
  repeat refine aA ?_
  refine rg [] [(2, .d (.v (.slice none 0 0)))] [] (by kernel_rfl) ?_;refine cQ ?_
  repeat (first|(with_reducible refine cZ ?_)|(with_reducible refine fe ?_))
  exact gk (by kernel_rfl)
 ·refine bC ?_;refine lA (by kernel_rfl) ?_;refine dt ?_;refine bC ?_
  repeat refine aA ?_
  refine rg [(7,⟨_,_, .app (xs:=[]) (ys:=xs) (zs:=xs) (len:=0) (k:=1) (cN:=8) (n:=xs.length) rfl (λ_ hc=>absurd hc anV) hk (by simpa using hm) (by simpa using hb) rfl (by simp)⟩)] [(2, .own 0 xs)] [.front 3 1 xs.length] (by kernel_rfl) ?_;refine cQ ?_
  repeat (first|(with_reducible refine cZ ?_)|(with_reducible refine fe ?_))
  exact gk (by kernel_rfl)
theorem ak7{xs:an3 (an3 D)}(hk:∀c∈xs,c.length=2)(hm:xs.length<=maxLen)(hb:xs.length*16<=140737488355328):fP Tryz.prog 48 [.d (.sl xs)] (·= .d (.sl xs)):=by
 refine qj Tryz.func48 rfl (by kernel_rfl) ?_;refine gq [0] 0 (anp _) (s':=⟨8,[(0, .d (.sl xs))],[]⟩) (by kernel_rfl) ?_;refine aA ?_;refine rg [] [] [] (by kernel_rfl) ?_
 repeat refine aA ?_
 refine eW ?_;refine bG rfl ?_;refine cy (x:= .d (.sl xs)) (by kernel_rfl) rfl rfl ?_;refine bG rfl ?_;refine Ib (xs:=xs) (q:=(58,2)) rfl rfl rfl (by kernel_rfl) rfl rfl (λhe=> ?_) ?_
 ·subst he;refine bC ?_;refine lM (by kernel_rfl) ?_
  repeat refine aA ?_
  refine rg [] [(2, .d (.v (.slice none 0 0)))] [] (by kernel_rfl) ?_;refine cQ ?_
  repeat (first|(with_reducible refine cZ ?_)|(with_reducible refine fe ?_))
  exact gk (by kernel_rfl)
 ·refine bC ?_;refine lA (by kernel_rfl) ?_;refine dt ?_;refine bC ?_
  repeat refine aA ?_
  refine rg [(7,⟨_,_, .app (xs:=[]) (ys:=xs) (zs:=xs) (len:=0) (k:=2) (cN:=16) (n:=xs.length) rfl (λ_ hc=>absurd hc anV) hk (by simpa using hm) (by simpa using hb) rfl (by simp)⟩)] [(2, .own 0 xs)] [.front 58 2 xs.length] (by kernel_rfl) ?_;refine cQ ?_
  repeat (first|(with_reducible refine cZ ?_)|(with_reducible refine fe ?_))
  exact gk (by kernel_rfl)
theorem ahv{xs:an3 (an3 D)}(hk:∀c∈xs,c.length=2)(hm:xs.length<=maxLen)(hb:xs.length*24<=140737488355328):fP Tryz.prog 151 [.d (.sl xs)] (·= .d (.sl xs)):=by
 refine qj Tryz.func151 rfl (by kernel_rfl) ?_;refine gq [0] 0 (anp _) (s':=⟨8,[(0, .d (.sl xs))],[]⟩) (by kernel_rfl) ?_;refine aA ?_;refine rg [] [] [] (by kernel_rfl) ?_
 repeat refine aA ?_
 refine eW ?_;refine bG rfl ?_;refine cy (x:= .d (.sl xs)) (by kernel_rfl) rfl rfl ?_;refine bG rfl ?_;refine Ib (xs:=xs) (q:=(50,2)) rfl rfl rfl (by kernel_rfl) rfl rfl (λhe=> ?_) ?_
 ·subst he;refine bC ?_;refine lM (by kernel_rfl) ?_
  repeat refine aA ?_
  refine rg [] [(2, .d (.v (.slice none 0 0)))] [] (by kernel_rfl) ?_;refine cQ ?_
  repeat (first|(with_reducible refine cZ ?_)|(with_reducible refine fe ?_))
  exact gk (by kernel_rfl)
 ·refine bC ?_;refine lA (by kernel_rfl) ?_;refine dt ?_;refine bC ?_
  repeat refine aA ?_
  refine rg [(7,⟨_,_, .app (xs:=[]) (ys:=xs) (zs:=xs) (len:=0) (k:=2) (cN:=24) (n:=xs.length) rfl (λ_ hc=>absurd hc anV) hk (by simpa using hm) (by simpa using hb) rfl (by simp)⟩)] [(2, .own 0 xs)] [.front 50 2 xs.length] (by kernel_rfl) ?_;refine cQ ?_
  repeat (first|(with_reducible refine cZ ?_)|(with_reducible refine fe ?_))
  exact gk (by kernel_rfl)
theorem aef{xs:an3 (an3 D)}(hk:∀c∈xs,c.length=1)(hm:xs.length<=maxLen)(hb:xs.length*8<=140737488355328):cF Tryz.prog 47 [.d (.sl xs)] [] λr1 J=>r1= .vec 0 0 xs.length xs.length 1/\J=[.vec 3 1 (bU xs)]:=by
 refine Ez 1 Tryz.func47 rfl (by kernel_rfl) (anm rfl) ?_;refine gq [0] 0 (anp _) (s':=⟨8,[(0, .d (.sl xs))],[]⟩) (by kernel_rfl) ?_;refine aA ?_;refine rg [] [] [] (by kernel_rfl) ?_
 repeat refine aA ?_
 refine eW ?_;refine bG rfl ?_;refine cy (x:= .d (.sl xs)) (by kernel_rfl) rfl rfl ?_;refine bG rfl ?_;refine Ib (xs:=xs) (q:=(3,1)) rfl rfl rfl (by kernel_rfl) rfl rfl (λhe=> ?_) ?_
 ·subst he;refine bC ?_;refine lM (by kernel_rfl) ?_
  repeat refine aA ?_
  refine rg [] [(2, .d (.v (.slice none 0 0)))] [] (by kernel_rfl) ?_;refine ae5 2 3 1 (by kernel_rfl) ?_;refine cQ ?_
  repeat (first|(with_reducible refine cZ ?_)|(with_reducible refine fe ?_))
  exact uW (lN (xs:=[]) jK) (by kernel_rfl)
 ·refine bC ?_;refine lA (by kernel_rfl) ?_;refine dt ?_;refine bC ?_
  repeat refine aA ?_
  refine rg [(7,⟨_,_, .pr (.ap (bU xs) (bU xs) xs.length xs.length) (ah4 (h:=[]) (k:=1) (cN:=8) (y:= .d (.sl xs)) hk rfl hm hb)⟩)] [(2, .vec 0 0 xs.length xs.length 1)] [.vec 3 1 (bU xs)] (by kernel_rfl) ?_;refine cQ ?_
  repeat (first|(with_reducible refine cZ ?_)|(with_reducible refine fe ?_))
  exact uW (lN (xs:=xs) jK) (by kernel_rfl)
set_option linter.unusedSimpArgs false
theorem afl{n:Nat}(h:n<=maxLen):IntKind.i64.wrap ((n:Int)-IntKind.i64.wrap (0-0))=(n:Int):=by
 rw[IntKind.wrap_i64,IntKind.wrap_i64];unfold maxLen at h;omega
theorem aip{n:Nat}(hb:Nat.ble (n*48) 140737488355328=true):cF Tryz.prog 262 [.d (.v (.slice none 0 0)), .d (.v (.int .i64 (Int.ofNat n)))] [] λr1 J=>r1= .own 0 []/\J=[.front 63 3 0]:=by
 have hc:=mL hb (by decide);refine qG 1 Tryz.func262 rfl (by kernel_rfl) (anm rfl) ?_;refine mG (s':=⟨27,[(0, .d (.v (.slice none 0 0))),(1, .d (.v (.int .i64 (Int.ofNat n))))],[]⟩) (by kernel_rfl) ?_;refine aA ?_;refine rg [] [] [] (by kernel_rfl) ?_
 repeat refine aA ?_
 refine rg [] [(6,aK (decide ((n:Int)<0)))] [] (by kernel_rfl) ?_
 repeat refine aA ?_
 refine ee (t:=decide ((n:Int)<0)) (by kernel_rfl) (anX (by omega)) ?_;refine dt ?_;refine bC ?_
 repeat refine aA ?_
 refine eW ?_;refine bG rfl ?_;refine cy (x:= .d (.v (.int .i64 (Int.ofNat n)))) (by kernel_rfl) rfl rfl ?_;refine bG rfl ?_;refine cy (x:= .d (.v (.slice none 0 0))) (by kernel_rfl) rfl rfl ?_;refine bG rfl ?_;refine Gq (x:= .d (.v (.int .i64 0))) (h':=[]) (by kernel_rfl) rfl rfl ?_;refine bG rfl ?_;refine cy (x:= .d (.v (.slice none 0 0))) (by kernel_rfl) rfl rfl ?_;refine bG rfl ?_;refine cy (x:= .d (.v (.int .i64 0))) (by kernel_rfl) rfl rfl ?_;refine bG rfl ?_;refine cy (x:= .d (.v (.int .i64 (IntKind.i64.wrap (0-0))))) (by kernel_rfl) rfl rfl ?_;refine bG rfl ?_;refine cy (x:= .d (.v (.int .i64 (IntKind.i64.wrap ((n:Int)-IntKind.i64.wrap (0-0)))))) (by kernel_rfl) rfl rfl ?_;refine bG rfl ?_;refine cy (x:= .d (.v (.int .i64 (IntKind.i64.wrap ((n:Int)-IntKind.i64.wrap (0-0)))))) (by kernel_rfl) rfl rfl ?_;rw[afl hc.1];refine bC ?_
 repeat refine aA ?_
 refine rg [] [(16,aK (decide ((n:Int)>0)))] [] (by kernel_rfl) ?_
 repeat refine aA ?_
 rcases Nat.eq_zero_or_pos n with h0|h0
 ·subst h0;refine ee (t:=decide (((0:Nat):Int)>0)) (by kernel_rfl) rfl ?_;refine dt ?_;refine bC ?_
  repeat refine aA ?_
  refine rg [] [(4, .d (.v (.slice none 0 0)))] [] (by kernel_rfl) ?_;refine Li 4 63 3 [] (.inr ⟨by kernel_rfl,rfl⟩) ?_;refine cQ ?_
  repeat (first|(with_reducible refine cZ ?_)|(with_reducible refine fe ?_))
  exact jl (by kernel_rfl)
 ·refine eE (t:=decide ((n:Int)>0)) (by kernel_rfl) (anW (by omega)) ?_;refine eW ?_;refine bG rfl ?_;refine cy (x:= .d (.v (.slice none 0 0))) (by kernel_rfl) rfl rfl ?_;refine bG rfl ?_;refine cy (x:= .d (.v (.slice none 0 0))) (by kernel_rfl) rfl rfl ?_;refine bG rfl ?_;refine Gq (x:= .d (.v (.int .i64 0))) (h':=[]) (by kernel_rfl) rfl rfl ?_;refine bG rfl ?_;refine Gq (x:= .d (.v (.slice none 0 0))) (h':=[]) (by kernel_rfl) rfl rfl ?_;refine bG rfl ?_;refine cy (x:= .d (.v (.int .i64 (Int.ofNat n)))) (by kernel_rfl) rfl rfl ?_;refine bG rfl ?_;refine Gq (x:= .vec 0 0 n n 3) (h':=[.vec 63 3 (List.replicate n [.d (.v (.string ⟨#[]⟩)), .d (.v (.int .i64 0)), .d (.v (.slice none 0 0))])]) (akh (e:=63) (k:=3) (m:=n) (cN:=48) (kq:= .i64) (kn:= .i64) (z:= .agg #[.string ⟨#[]⟩, .int .i64 0, .slice none 0 0]) rfl rfl rfl (by kernel_rfl) (by kernel_rfl) (by kernel_rfl) (by kernel_rfl) (by kernel_rfl) (by kernel_rfl) h0 (by decide) rfl hc.1 hc.2) rfl rfl ?_;refine bG rfl ?_;refine cy (x:= .d (.v (.slice none 0 0))) (by kernel_rfl) rfl rfl ?_;refine bG rfl ?_;refine cy (x:= .d (.v (.int .i64 0))) (by kernel_rfl) rfl rfl ?_;refine bG rfl ?_;refine adB (.ol 0 0) (x:= .vec 0 0 0 n 3) (h':=[.vec 63 3 (List.replicate n [.d (.v (.string ⟨#[]⟩)), .d (.v (.int .i64 0)), .d (.v (.slice none 0 0))])]) (p:=(List.replicate n ([.d (.v (.string ⟨#[]⟩)), .d (.v (.int .i64 0)), .d (.v (.slice none 0 0))]:an3 AV)).length=n/\(0:Int)<=0/\(0:Int)<=0/\(0:Int)<=(n:Int)-(0:Nat)/\0=0+0/\0=0-0) (by kernel_rfl) ⟨anP,Int.le_refl _,Int.le_refl _,by omega,rfl,rfl⟩ rfl rfl ?_
  refine bG rfl ?_;refine cy (x:= .vec 0 0 0 n 3) (by kernel_rfl) rfl rfl ?_;refine bC ?_
  repeat refine aA ?_
  refine rg [] [(4, .vec 0 0 0 n 3)] [.vec 63 3 (List.replicate n [.d (.v (.string ⟨#[]⟩)), .d (.v (.int .i64 0)), .d (.v (.slice none 0 0))])] (by kernel_rfl) ?_;refine ajM (t:=4) rfl (by kernel_rfl) anP ?_;refine cQ ?_
  repeat (first|(with_reducible refine cZ ?_)|(with_reducible refine fe ?_))
  exact jl (by kernel_rfl)
end Go.Proofs.YtpeecnpmcbnahaaGreatDoor
