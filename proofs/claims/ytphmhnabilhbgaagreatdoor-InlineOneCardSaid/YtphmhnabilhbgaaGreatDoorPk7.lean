/-
  Part 7 of the proof: KwS, Clones, ClonesV, Grows.
-/
import Derived.Test.YtphmhnabilhbgaaGreatDoorPk6
namespace Go.Proofs.YtphmhnabilhbgaaGreatDoor
open Go.RowKit
def D7:List ByteArray:=[bs [115,105,122,101],bs [119,104,101,114,101],bs [105,110],bs [100,101,102],bs [111,117,116],bs [115,117,109],bs [112,114,111,100],bs [109,105,110],bs [109,97,120],bs [115,99,97,110],bs [111,118,101,114],bs [105,102],bs [99,97,115,116],bs [102,114,97,99],bs [105,110,116],bs [102,105,120],bs [99,101,105,108],bs [102,108,111,111,114],bs [122,101,114,111],bs [101,118,101,110],bs [115,97,116],bs [119,114,97,112]]
theorem aeq:bm Tryz.prog 162 [] (·= .d (.sl (ax D7))):=abe
set_option maxRecDepth 100000
theorem aa7{xs:List (List D)}(hk:∀c∈xs,c.length=1)(hm:xs.length≤maxLen)(hb:xs.length*16≤140737488355328):bm Tryz.prog 51 [.d (.sl xs)] (·= .d (.sl xs)):=by
 refine pY Tryz.func51 rfl (by kernel_rfl) ?_;refine gP [0] 0 (agE _) (s':=⟨8,[(0, .d (.sl xs))],[]⟩) (by kernel_rfl) ?_;refine aN ?_;refine rg [] [] [] (by kernel_rfl) ?_
 repeat refine aN ?_
 refine fq ?_;refine cH rfl ?_;refine du (x:= .d (.sl xs)) (by kernel_rfl) rfl rfl ?_;refine cH rfl ?_;refine Cx (xs:=xs) (q:=(9,1)) rfl rfl rfl (by kernel_rfl) rfl rfl (fun he=> ?_) ?_
 ·subst he;refine cm ?_;refine lA (by kernel_rfl) ?_
  repeat refine aN ?_
  refine rg [] [(2, .d (.v (.slice none 0 0)))] [] (by kernel_rfl) ?_;refine dM ?_
  repeat (first|(with_reducible refine ej ?_)|(with_reducible refine fg ?_))
  exact gi (by kernel_rfl)
 ·refine cm ?_;refine ld (by kernel_rfl) ?_;refine et ?_;refine cm ?_
  repeat refine aN ?_
  refine rg [(7,⟨_,_, .app (xs:=[]) (ys:=xs) (zs:=xs) (len:=0) (k:=1) (c9:=16) (n:=xs.length) rfl (fun _ hc=>absurd hc ag9) hk (by simpa using hm) (by simpa using hb) rfl (by simp)⟩)] [(2, .own 0 xs)] [.front 9 1 xs.length] (by kernel_rfl) ?_;refine dM ?_
  repeat (first|(with_reducible refine ej ?_)|(with_reducible refine fg ?_))
  exact gi (by kernel_rfl)
theorem Wh{xs:List (List D)}(hk:∀c∈xs,c.length=2)(hm:xs.length≤maxLen)(hb:xs.length*24≤140737488355328):bm Tryz.prog 85 [.d (.sl xs)] (·= .d (.sl xs)):=by
 refine pY Tryz.func85 rfl (by kernel_rfl) ?_;refine gP [0] 0 (agE _) (s':=⟨8,[(0, .d (.sl xs))],[]⟩) (by kernel_rfl) ?_;refine aN ?_;refine rg [] [] [] (by kernel_rfl) ?_
 repeat refine aN ?_
 refine fq ?_;refine cH rfl ?_;refine du (x:= .d (.sl xs)) (by kernel_rfl) rfl rfl ?_;refine cH rfl ?_;refine Cx (xs:=xs) (q:=(92,2)) rfl rfl rfl (by kernel_rfl) rfl rfl (fun he=> ?_) ?_
 ·subst he;refine cm ?_;refine lA (by kernel_rfl) ?_
  repeat refine aN ?_
  refine rg [] [(2, .d (.v (.slice none 0 0)))] [] (by kernel_rfl) ?_;refine dM ?_
  repeat (first|(with_reducible refine ej ?_)|(with_reducible refine fg ?_))
  exact gi (by kernel_rfl)
 ·refine cm ?_;refine ld (by kernel_rfl) ?_;refine et ?_;refine cm ?_
  repeat refine aN ?_
  refine rg [(7,⟨_,_, .app (xs:=[]) (ys:=xs) (zs:=xs) (len:=0) (k:=2) (c9:=24) (n:=xs.length) rfl (fun _ hc=>absurd hc ag9) hk (by simpa using hm) (by simpa using hb) rfl (by simp)⟩)] [(2, .own 0 xs)] [.front 92 2 xs.length] (by kernel_rfl) ?_;refine dM ?_
  repeat (first|(with_reducible refine ej ?_)|(with_reducible refine fg ?_))
  exact gi (by kernel_rfl)
theorem afC{xs:List (List D)}(hk:∀c∈xs,c.length=4)(hm:xs.length≤maxLen)(hb:xs.length*72≤140737488355328):bW Tryz.prog 120 [.d (.sl xs)] [] fun r1 h1=>r1= .vec 0 0 xs.length xs.length 4∧h1=[.vec 80 4 (aK xs)]:=by
 refine sK 1 Tryz.func120 rfl (by kernel_rfl) (agB rfl) ?_;refine gP [0] 0 (agE _) (s':=⟨8,[(0, .d (.sl xs))],[]⟩) (by kernel_rfl) ?_;refine aN ?_;refine rg [] [] [] (by kernel_rfl) ?_
 repeat refine aN ?_
 refine fq ?_;refine cH rfl ?_;refine du (x:= .d (.sl xs)) (by kernel_rfl) rfl rfl ?_;refine cH rfl ?_;refine Cx (xs:=xs) (q:=(80,4)) rfl rfl rfl (by kernel_rfl) rfl rfl (fun he=> ?_) ?_
 ·subst he;refine cm ?_;refine lA (by kernel_rfl) ?_
  repeat refine aN ?_
  refine rg [] [(2, .d (.v (.slice none 0 0)))] [] (by kernel_rfl) ?_;refine Fv 2 80 4 (by kernel_rfl) ?_;refine dM ?_
  repeat (first|(with_reducible refine ej ?_)|(with_reducible refine fg ?_))
  exact lX (gb (xs:=[]) fh) (by kernel_rfl)
 ·refine cm ?_;refine ld (by kernel_rfl) ?_;refine et ?_;refine cm ?_
  repeat refine aN ?_
  refine rg [(7,⟨_,_, .pr (.ap (aK xs) (aK xs) xs.length xs.length) (MB (h:=[]) (k:=4) (c9:=72) (y:= .d (.sl xs)) hk rfl hm hb)⟩)] [(2, .vec 0 0 xs.length xs.length 4)] [.vec 80 4 (aK xs)] (by kernel_rfl) ?_;refine dM ?_
  repeat (first|(with_reducible refine ej ?_)|(with_reducible refine fg ?_))
  exact lX (gb (xs:=xs) fh) (by kernel_rfl)
theorem abP{xs:List (List D)}(hk:∀c∈xs,c.length=2)(hm:xs.length≤maxLen)(hb:xs.length*32≤140737488355328):bW Tryz.prog 121 [.d (.sl xs)] [] fun r1 h1=>r1= .vec 0 0 xs.length xs.length 2∧h1=[.vec 48 2 (aK xs)]:=by
 refine sK 1 Tryz.func121 rfl (by kernel_rfl) (agB rfl) ?_;refine gP [0] 0 (agE _) (s':=⟨8,[(0, .d (.sl xs))],[]⟩) (by kernel_rfl) ?_;refine aN ?_;refine rg [] [] [] (by kernel_rfl) ?_
 repeat refine aN ?_
 refine fq ?_;refine cH rfl ?_;refine du (x:= .d (.sl xs)) (by kernel_rfl) rfl rfl ?_;refine cH rfl ?_;refine Cx (xs:=xs) (q:=(48,2)) rfl rfl rfl (by kernel_rfl) rfl rfl (fun he=> ?_) ?_
 ·subst he;refine cm ?_;refine lA (by kernel_rfl) ?_
  repeat refine aN ?_
  refine rg [] [(2, .d (.v (.slice none 0 0)))] [] (by kernel_rfl) ?_;refine Fv 2 48 2 (by kernel_rfl) ?_;refine dM ?_
  repeat (first|(with_reducible refine ej ?_)|(with_reducible refine fg ?_))
  exact lX (gb (xs:=[]) fh) (by kernel_rfl)
 ·refine cm ?_;refine ld (by kernel_rfl) ?_;refine et ?_;refine cm ?_
  repeat refine aN ?_
  refine rg [(7,⟨_,_, .pr (.ap (aK xs) (aK xs) xs.length xs.length) (MB (h:=[]) (k:=2) (c9:=32) (y:= .d (.sl xs)) hk rfl hm hb)⟩)] [(2, .vec 0 0 xs.length xs.length 2)] [.vec 48 2 (aK xs)] (by kernel_rfl) ?_;refine dM ?_
  repeat (first|(with_reducible refine ej ?_)|(with_reducible refine fg ?_))
  exact lX (gb (xs:=xs) fh) (by kernel_rfl)
theorem afg{xs:List (List D)}(hk:∀c∈xs,c.length=13)(hm:xs.length≤maxLen)(hb:xs.length*160≤140737488355328):bW Tryz.prog 122 [.d (.sl xs)] [] fun r1 h1=>r1= .vec 0 0 xs.length xs.length 13∧h1=[.vec 52 13 (aK xs)]:=by
 refine sK 1 Tryz.func122 rfl (by kernel_rfl) (agB rfl) ?_;refine gP [0] 0 (agE _) (s':=⟨8,[(0, .d (.sl xs))],[]⟩) (by kernel_rfl) ?_;refine aN ?_;refine rg [] [] [] (by kernel_rfl) ?_
 repeat refine aN ?_
 refine fq ?_;refine cH rfl ?_;refine du (x:= .d (.sl xs)) (by kernel_rfl) rfl rfl ?_;refine cH rfl ?_;refine Cx (xs:=xs) (q:=(52,13)) rfl rfl rfl (by kernel_rfl) rfl rfl (fun he=> ?_) ?_
 ·subst he;refine cm ?_;refine lA (by kernel_rfl) ?_
  repeat refine aN ?_
  refine rg [] [(2, .d (.v (.slice none 0 0)))] [] (by kernel_rfl) ?_;refine Fv 2 52 13 (by kernel_rfl) ?_;refine dM ?_
  repeat (first|(with_reducible refine ej ?_)|(with_reducible refine fg ?_))
  exact lX (gb (xs:=[]) fh) (by kernel_rfl)
 ·refine cm ?_;refine ld (by kernel_rfl) ?_;refine et ?_;refine cm ?_
  repeat refine aN ?_
  refine rg [(7,⟨_,_, .pr (.ap (aK xs) (aK xs) xs.length xs.length) (MB (h:=[]) (k:=13) (c9:=160) (y:= .d (.sl xs)) hk rfl hm hb)⟩)] [(2, .vec 0 0 xs.length xs.length 13)] [.vec 52 13 (aK xs)] (by kernel_rfl) ?_;refine dM ?_
  repeat (first|(with_reducible refine ej ?_)|(with_reducible refine fg ?_))
  exact lX (gb (xs:=xs) fh) (by kernel_rfl)
set_option linter.unusedSimpArgs false
theorem afL{n:Nat}(h:n≤maxLen):IntKind.i64.wrap ((n:Int)-IntKind.i64.wrap (0-0))=(n:Int):=by
 rw[IntKind.wrap_i64,IntKind.wrap_i64];unfold maxLen at h;omega
theorem Zc{n:Nat}(hb:Nat.ble (n*48) 140737488355328=true):bW Tryz.prog 165 [.d (.v (.slice none 0 0)), .d (.v (.int .i64 (Int.ofNat n)))] [] fun r1 h1=>r1= .own 0 []∧h1=[.front 64 3 0]:=by
 have hc:=cY hb (by decide);refine BX 1 Tryz.func165 rfl (by kernel_rfl) (agB rfl) ?_;refine lS (s':=⟨27,[(0, .d (.v (.slice none 0 0))),(1, .d (.v (.int .i64 (Int.ofNat n))))],[]⟩) (by kernel_rfl) ?_;refine aN ?_;refine rg [] [] [] (by kernel_rfl) ?_
 repeat refine aN ?_
 refine rg [] [(6,aM (decide ((n:Int)<0)))] [] (by kernel_rfl) ?_
 repeat refine aN ?_
 refine ft (t:=decide ((n:Int)<0)) (by kernel_rfl) (ahb (by omega)) ?_;refine et ?_;refine cm ?_
 repeat refine aN ?_
 refine fq ?_;refine cH rfl ?_;refine du (x:= .d (.v (.int .i64 (Int.ofNat n)))) (by kernel_rfl) rfl rfl ?_;refine cH rfl ?_;refine du (x:= .d (.v (.slice none 0 0))) (by kernel_rfl) rfl rfl ?_;refine cH rfl ?_;refine H3 (x:= .d (.v (.int .i64 0))) (h':=[]) (by kernel_rfl) rfl rfl ?_;refine cH rfl ?_;refine du (x:= .d (.v (.slice none 0 0))) (by kernel_rfl) rfl rfl ?_;refine cH rfl ?_;refine du (x:= .d (.v (.int .i64 0))) (by kernel_rfl) rfl rfl ?_;refine cH rfl ?_;refine du (x:= .d (.v (.int .i64 (IntKind.i64.wrap (0-0))))) (by kernel_rfl) rfl rfl ?_;refine cH rfl ?_;refine du (x:= .d (.v (.int .i64 (IntKind.i64.wrap ((n:Int)-IntKind.i64.wrap (0-0)))))) (by kernel_rfl) rfl rfl ?_;refine cH rfl ?_;refine du (x:= .d (.v (.int .i64 (IntKind.i64.wrap ((n:Int)-IntKind.i64.wrap (0-0)))))) (by kernel_rfl) rfl rfl ?_;rw[afL hc.1];refine cm ?_
 repeat refine aN ?_
 refine rg [] [(16,aM (decide ((n:Int)>0)))] [] (by kernel_rfl) ?_
 repeat refine aN ?_
 rcases Nat.eq_zero_or_pos n with h0|h0
 ·subst h0;refine ft (t:=decide (((0:Nat):Int)>0)) (by kernel_rfl) rfl ?_;refine et ?_;refine cm ?_
  repeat refine aN ?_
  refine rg [] [(4, .d (.v (.slice none 0 0)))] [] (by kernel_rfl) ?_;refine Tz 4 64 3 [] (.inr ⟨by kernel_rfl,rfl⟩) ?_;refine dM ?_
  repeat (first|(with_reducible refine ej ?_)|(with_reducible refine fg ?_))
  exact A0 (by kernel_rfl)
 ·refine fz (t:=decide ((n:Int)>0)) (by kernel_rfl) (aha (by omega)) ?_;refine fq ?_;refine cH rfl ?_;refine du (x:= .d (.v (.slice none 0 0))) (by kernel_rfl) rfl rfl ?_;refine cH rfl ?_;refine du (x:= .d (.v (.slice none 0 0))) (by kernel_rfl) rfl rfl ?_;refine cH rfl ?_;refine H3 (x:= .d (.v (.int .i64 0))) (h':=[]) (by kernel_rfl) rfl rfl ?_;refine cH rfl ?_;refine H3 (x:= .d (.v (.slice none 0 0))) (h':=[]) (by kernel_rfl) rfl rfl ?_;refine cH rfl ?_;refine du (x:= .d (.v (.int .i64 (Int.ofNat n)))) (by kernel_rfl) rfl rfl ?_;refine cH rfl ?_;refine H3 (x:= .vec 0 0 n n 3) (h':=[.vec 64 3 (List.replicate n [.d (.v (.string ⟨#[]⟩)), .d (.v (.int .i64 0)), .d (.v (.slice none 0 0))])]) (Vh (e:=64) (k:=3) (m:=n) (c9:=48) (kq:= .i64) (kn:= .i64) (z:= .agg #[.string ⟨#[]⟩, .int .i64 0, .slice none 0 0]) rfl rfl rfl (by kernel_rfl) (by kernel_rfl) (by kernel_rfl) (by kernel_rfl) (by kernel_rfl) (by kernel_rfl) h0 (by decide) rfl hc.1 hc.2) rfl rfl ?_;refine cH rfl ?_;refine du (x:= .d (.v (.slice none 0 0))) (by kernel_rfl) rfl rfl ?_;refine cH rfl ?_;refine du (x:= .d (.v (.int .i64 0))) (by kernel_rfl) rfl rfl ?_;refine cH rfl ?_;refine abI (.ol 0 0) (x:= .vec 0 0 0 n 3) (h':=[.vec 64 3 (List.replicate n [.d (.v (.string ⟨#[]⟩)), .d (.v (.int .i64 0)), .d (.v (.slice none 0 0))])]) (p:=(List.replicate n ([.d (.v (.string ⟨#[]⟩)), .d (.v (.int .i64 0)), .d (.v (.slice none 0 0))]:List AV)).length=n∧(0:Int)≤0∧(0:Int)≤0∧(0:Int)≤(n:Int)-(0:Nat)∧0=0+0∧0=0-0) (by kernel_rfl) ⟨ag3,Int.le_refl _,Int.le_refl _,by omega,rfl,rfl⟩ rfl rfl ?_
  refine cH rfl ?_;refine du (x:= .vec 0 0 0 n 3) (by kernel_rfl) rfl rfl ?_;refine cm ?_
  repeat refine aN ?_
  refine rg [] [(4, .vec 0 0 0 n 3)] [.vec 64 3 (List.replicate n [.d (.v (.string ⟨#[]⟩)), .d (.v (.int .i64 0)), .d (.v (.slice none 0 0))])] (by kernel_rfl) ?_;refine adn (t:=4) rfl (by kernel_rfl) ag3 ?_;refine dM ?_
  repeat (first|(with_reducible refine ej ?_)|(with_reducible refine fg ?_))
  exact A0 (by kernel_rfl)
end Go.Proofs.YtphmhnabilhbgaaGreatDoor
