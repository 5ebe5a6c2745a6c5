/-
  Part 6 of the proof: Clones, ClonesV, Grows.
-/
import Derived.Test.YtdchibpnjpnkoaaGreatDoorPp5
namespace Go.Proofs.YtdchibpnjpnkoaaGreatDoor
open Go.RowKit
set_option maxRecDepth 100000
theorem apr{xs:asn (asn D)}(hk:∀c∈xs,c.length=1)(hm:xs.length<=maxLen)(hb:xs.length*16<=140737488355328):gD Tryz.prog 35 [.d (.sl xs)] (·= .d (.sl xs)):=by
 refine xU Tryz.func35 rfl (by kernel_rfl) ?_;refine kj [0] 0 (arJ _) (s':=⟨8,[(0, .d (.sl xs))],[]⟩) (by kernel_rfl) ?_;refine bk ?_;refine rg [] [] [] (by kernel_rfl) ?_
 repeat refine bk ?_
 refine fD ?_;refine cw rfl ?_;refine cX (x:= .d (.sl xs)) (by kernel_rfl) rfl rfl ?_;refine cw rfl ?_;refine Gp (xs:=xs) (q:=(9,1)) rfl rfl rfl (by kernel_rfl) rfl rfl (λhe=> ?_) ?_
 ·subst he;refine cy ?_;refine nq (by kernel_rfl) ?_
  repeat refine bk ?_
  refine rg [] [(2, .d (.v (.slice none 0 0)))] [] (by kernel_rfl) ?_;refine eG ?_
  repeat (first|(with_reducible refine fV ?_)|(with_reducible refine gW ?_))
  exact ky (by kernel_rfl)
 ·refine cy ?_;refine nk (by kernel_rfl) ?_;refine fU ?_;refine cy ?_
  repeat refine bk ?_
  refine rg [(7,⟨_,_, .app (xs:=[]) (ys:=xs) (zs:=xs) (len:=0) (k:=1) (cE:=16) (n:=xs.length) rfl (λ_ hc=>absurd hc ase) hk (by simpa using hm) (by simpa using hb) rfl (by simp)⟩)] [(2, .own 0 xs)] [.front 9 1 xs.length] (by kernel_rfl) ?_;refine eG ?_
  repeat (first|(with_reducible refine fV ?_)|(with_reducible refine gW ?_))
  exact ky (by kernel_rfl)
theorem ahI{xs:asn (asn D)}(hk:∀c∈xs,c.length=2)(hm:xs.length<=maxLen)(hb:xs.length*24<=140737488355328):gD Tryz.prog 62 [.d (.sl xs)] (·= .d (.sl xs)):=by
 refine xU Tryz.func62 rfl (by kernel_rfl) ?_;refine kj [0] 0 (arJ _) (s':=⟨8,[(0, .d (.sl xs))],[]⟩) (by kernel_rfl) ?_;refine bk ?_;refine rg [] [] [] (by kernel_rfl) ?_
 repeat refine bk ?_
 refine fD ?_;refine cw rfl ?_;refine cX (x:= .d (.sl xs)) (by kernel_rfl) rfl rfl ?_;refine cw rfl ?_;refine Gp (xs:=xs) (q:=(79,2)) rfl rfl rfl (by kernel_rfl) rfl rfl (λhe=> ?_) ?_
 ·subst he;refine cy ?_;refine nq (by kernel_rfl) ?_
  repeat refine bk ?_
  refine rg [] [(2, .d (.v (.slice none 0 0)))] [] (by kernel_rfl) ?_;refine eG ?_
  repeat (first|(with_reducible refine fV ?_)|(with_reducible refine gW ?_))
  exact ky (by kernel_rfl)
 ·refine cy ?_;refine nk (by kernel_rfl) ?_;refine fU ?_;refine cy ?_
  repeat refine bk ?_
  refine rg [(7,⟨_,_, .app (xs:=[]) (ys:=xs) (zs:=xs) (len:=0) (k:=2) (cE:=24) (n:=xs.length) rfl (λ_ hc=>absurd hc ase) hk (by simpa using hm) (by simpa using hb) rfl (by simp)⟩)] [(2, .own 0 xs)] [.front 79 2 xs.length] (by kernel_rfl) ?_;refine eG ?_
  repeat (first|(with_reducible refine fV ?_)|(with_reducible refine gW ?_))
  exact ky (by kernel_rfl)
theorem alw{xs:asn (asn D)}(hk:∀c∈xs,c.length=4)(hm:xs.length<=maxLen)(hb:xs.length*72<=140737488355328):cG Tryz.prog 96 [.d (.sl xs)] [] λr1 h1=>r1= .vec 0 0 xs.length xs.length 4/\h1=[.vec 59 4 (bn xs)]:=by
 refine Ao 1 Tryz.func96 rfl (by kernel_rfl) (arG rfl) ?_;refine kj [0] 0 (arJ _) (s':=⟨8,[(0, .d (.sl xs))],[]⟩) (by kernel_rfl) ?_;refine bk ?_;refine rg [] [] [] (by kernel_rfl) ?_
 repeat refine bk ?_
 refine fD ?_;refine cw rfl ?_;refine cX (x:= .d (.sl xs)) (by kernel_rfl) rfl rfl ?_;refine cw rfl ?_;refine Gp (xs:=xs) (q:=(59,4)) rfl rfl rfl (by kernel_rfl) rfl rfl (λhe=> ?_) ?_
 ·subst he;refine cy ?_;refine nq (by kernel_rfl) ?_
  repeat refine bk ?_
  refine rg [] [(2, .d (.v (.slice none 0 0)))] [] (by kernel_rfl) ?_;refine L6 2 59 4 (by kernel_rfl) ?_;refine eG ?_
  repeat (first|(with_reducible refine fV ?_)|(with_reducible refine gW ?_))
  exact qx (jh (xs:=[]) gJ) (by kernel_rfl)
 ·refine cy ?_;refine nk (by kernel_rfl) ?_;refine fU ?_;refine cy ?_
  repeat refine bk ?_
  refine rg [(7,⟨_,_, .pr (.ap (bn xs) (bn xs) xs.length xs.length) (P6 (h:=[]) (k:=4) (cE:=72) (y:= .d (.sl xs)) hk rfl hm hb)⟩)] [(2, .vec 0 0 xs.length xs.length 4)] [.vec 59 4 (bn xs)] (by kernel_rfl) ?_;refine eG ?_
  repeat (first|(with_reducible refine fV ?_)|(with_reducible refine gW ?_))
  exact qx (jh (xs:=xs) gJ) (by kernel_rfl)
theorem aiC{xs:asn (asn D)}(hk:∀c∈xs,c.length=2)(hm:xs.length<=maxLen)(hb:xs.length*32<=140737488355328):cG Tryz.prog 97 [.d (.sl xs)] [] λr1 h1=>r1= .vec 0 0 xs.length xs.length 2/\h1=[.vec 36 2 (bn xs)]:=by
 refine Ao 1 Tryz.func97 rfl (by kernel_rfl) (arG rfl) ?_;refine kj [0] 0 (arJ _) (s':=⟨8,[(0, .d (.sl xs))],[]⟩) (by kernel_rfl) ?_;refine bk ?_;refine rg [] [] [] (by kernel_rfl) ?_
 repeat refine bk ?_
 refine fD ?_;refine cw rfl ?_;refine cX (x:= .d (.sl xs)) (by kernel_rfl) rfl rfl ?_;refine cw rfl ?_;refine Gp (xs:=xs) (q:=(36,2)) rfl rfl rfl (by kernel_rfl) rfl rfl (λhe=> ?_) ?_
 ·subst he;refine cy ?_;refine nq (by kernel_rfl) ?_
  repeat refine bk ?_
  refine rg [] [(2, .d (.v (.slice none 0 0)))] [] (by kernel_rfl) ?_;refine L6 2 36 2 (by kernel_rfl) ?_;refine eG ?_
  repeat (first|(with_reducible refine fV ?_)|(with_reducible refine gW ?_))
  exact qx (jh (xs:=[]) gJ) (by kernel_rfl)
 ·refine cy ?_;refine nk (by kernel_rfl) ?_;refine fU ?_;refine cy ?_
  repeat refine bk ?_
  refine rg [(7,⟨_,_, .pr (.ap (bn xs) (bn xs) xs.length xs.length) (P6 (h:=[]) (k:=2) (cE:=32) (y:= .d (.sl xs)) hk rfl hm hb)⟩)] [(2, .vec 0 0 xs.length xs.length 2)] [.vec 36 2 (bn xs)] (by kernel_rfl) ?_;refine eG ?_
  repeat (first|(with_reducible refine fV ?_)|(with_reducible refine gW ?_))
  exact qx (jh (xs:=xs) gJ) (by kernel_rfl)
theorem ak1{xs:asn (asn D)}(hk:∀c∈xs,c.length=13)(hm:xs.length<=maxLen)(hb:xs.length*160<=140737488355328):cG Tryz.prog 98 [.d (.sl xs)] [] λr1 h1=>r1= .vec 0 0 xs.length xs.length 13/\h1=[.vec 51 13 (bn xs)]:=by
 refine Ao 1 Tryz.func98 rfl (by kernel_rfl) (arG rfl) ?_;refine kj [0] 0 (arJ _) (s':=⟨8,[(0, .d (.sl xs))],[]⟩) (by kernel_rfl) ?_;refine bk ?_;refine rg [] [] [] (by kernel_rfl) ?_
 repeat refine bk ?_
 refine fD ?_;refine cw rfl ?_;refine cX (x:= .d (.sl xs)) (by kernel_rfl) rfl rfl ?_;refine cw rfl ?_;refine Gp (xs:=xs) (q:=(51,13)) rfl rfl rfl (by kernel_rfl) rfl rfl (λhe=> ?_) ?_
 ·subst he;refine cy ?_;refine nq (by kernel_rfl) ?_
  repeat refine bk ?_
  refine rg [] [(2, .d (.v (.slice none 0 0)))] [] (by kernel_rfl) ?_;refine L6 2 51 13 (by kernel_rfl) ?_;refine eG ?_
  repeat (first|(with_reducible refine fV ?_)|(with_reducible refine gW ?_))
  exact qx (jh (xs:=[]) gJ) (by kernel_rfl)
 ·refine cy ?_;refine nk (by kernel_rfl) ?_;refine fU ?_;refine cy ?_
  repeat refine bk ?_
  refine rg [(7,⟨_,_, .pr (.ap (bn xs) (bn xs) xs.length xs.length) (P6 (h:=[]) (k:=13) (cE:=160) (y:= .d (.sl xs)) hk rfl hm hb)⟩)] [(2, .vec 0 0 xs.length xs.length 13)] [.vec 51 13 (bn xs)] (by kernel_rfl) ?_;refine eG ?_
  repeat (first|(with_reducible refine fV ?_)|(with_reducible refine gW ?_))
  exact qx (jh (xs:=xs) gJ) (by kernel_rfl)
set_option linter.unusedSimpArgs false
theorem ah0{n:Nat}(h:n<=maxLen):IntKind.i64.wrap ((n:Int)-IntKind.i64.wrap (0-0))=(n:Int):=by
 rw[IntKind.wrap_i64,IntKind.wrap_i64];unfold maxLen at h;omega
theorem amP{n:Nat}(hb:Nat.ble (n*48) 140737488355328=true):cG Tryz.prog 158 [.d (.v (.slice none 0 0)), .d (.v (.int .i64 (Int.ofNat n)))] [] λr1 h1=>r1= .own 0 []/\h1=[.front 56 3 0]:=by
 have hc:=nv hb (by decide);refine Ki 1 Tryz.func158 rfl (by kernel_rfl) (arG rfl) ?_;refine zx (s':=⟨27,[(0, .d (.v (.slice none 0 0))),(1, .d (.v (.int .i64 (Int.ofNat n))))],[]⟩) (by kernel_rfl) ?_;refine bk ?_;refine rg [] [] [] (by kernel_rfl) ?_
 repeat refine bk ?_
 refine rg [] [(6,az (decide ((n:Int)<0)))] [] (by kernel_rfl) ?_
 repeat refine bk ?_
 refine jx (t:=decide ((n:Int)<0)) (by kernel_rfl) (asg (by omega)) ?_;refine fU ?_;refine cy ?_
 repeat refine bk ?_
 refine fD ?_;refine cw rfl ?_;refine cX (x:= .d (.v (.int .i64 (Int.ofNat n)))) (by kernel_rfl) rfl rfl ?_;refine cw rfl ?_;refine cX (x:= .d (.v (.slice none 0 0))) (by kernel_rfl) rfl rfl ?_;refine cw rfl ?_;refine Iz (x:= .d (.v (.int .i64 0))) (h':=[]) (by kernel_rfl) rfl rfl ?_;refine cw rfl ?_;refine cX (x:= .d (.v (.slice none 0 0))) (by kernel_rfl) rfl rfl ?_;refine cw rfl ?_;refine cX (x:= .d (.v (.int .i64 0))) (by kernel_rfl) rfl rfl ?_;refine cw rfl ?_;refine cX (x:= .d (.v (.int .i64 (IntKind.i64.wrap (0-0))))) (by kernel_rfl) rfl rfl ?_;refine cw rfl ?_;refine cX (x:= .d (.v (.int .i64 (IntKind.i64.wrap ((n:Int)-IntKind.i64.wrap (0-0)))))) (by kernel_rfl) rfl rfl ?_;refine cw rfl ?_;refine cX (x:= .d (.v (.int .i64 (IntKind.i64.wrap ((n:Int)-IntKind.i64.wrap (0-0)))))) (by kernel_rfl) rfl rfl ?_;rw[ah0 hc.1];refine cy ?_
 repeat refine bk ?_
 refine rg [] [(16,az (decide ((n:Int)>0)))] [] (by kernel_rfl) ?_
 repeat refine bk ?_
 rcases Nat.eq_zero_or_pos n with h0|h0
 ·subst h0;refine jx (t:=decide (((0:Nat):Int)>0)) (by kernel_rfl) rfl ?_;refine fU ?_;refine cy ?_
  repeat refine bk ?_
  refine rg [] [(4, .d (.v (.slice none 0 0)))] [] (by kernel_rfl) ?_;refine abp 4 56 3 [] (.inr ⟨by kernel_rfl,rfl⟩) ?_;refine eG ?_
  repeat (first|(with_reducible refine fV ?_)|(with_reducible refine gW ?_))
  exact Ky (by kernel_rfl)
 ·refine jJ (t:=decide ((n:Int)>0)) (by kernel_rfl) (asf (by omega)) ?_;refine fD ?_;refine cw rfl ?_;refine cX (x:= .d (.v (.slice none 0 0))) (by kernel_rfl) rfl rfl ?_;refine cw rfl ?_;refine cX (x:= .d (.v (.slice none 0 0))) (by kernel_rfl) rfl rfl ?_;refine cw rfl ?_;refine Iz (x:= .d (.v (.int .i64 0))) (h':=[]) (by kernel_rfl) rfl rfl ?_;refine cw rfl ?_;refine Iz (x:= .d (.v (.slice none 0 0))) (h':=[]) (by kernel_rfl) rfl rfl ?_;refine cw rfl ?_;refine cX (x:= .d (.v (.int .i64 (Int.ofNat n)))) (by kernel_rfl) rfl rfl ?_;refine cw rfl ?_;refine Iz (x:= .vec 0 0 n n 3) (h':=[.vec 56 3 (List.replicate n [.d (.v (.string ⟨#[]⟩)), .d (.v (.int .i64 0)), .d (.v (.slice none 0 0))])]) (alI (e:=56) (k:=3) (m:=n) (cE:=48) (kq:= .i64) (kn:= .i64) (z:= .agg #[.string ⟨#[]⟩, .int .i64 0, .slice none 0 0]) rfl rfl rfl (by kernel_rfl) (by kernel_rfl) (by kernel_rfl) (by kernel_rfl) (by kernel_rfl) (by kernel_rfl) h0 (by decide) rfl hc.1 hc.2) rfl rfl ?_;refine cw rfl ?_;refine cX (x:= .d (.v (.slice none 0 0))) (by kernel_rfl) rfl rfl ?_;refine cw rfl ?_;refine cX (x:= .d (.v (.int .i64 0))) (by kernel_rfl) rfl rfl ?_;refine cw rfl ?_;refine ajp (.ol 0 0) (x:= .vec 0 0 0 n 3) (h':=[.vec 56 3 (List.replicate n [.d (.v (.string ⟨#[]⟩)), .d (.v (.int .i64 0)), .d (.v (.slice none 0 0))])]) (p:=(List.replicate n ([.d (.v (.string ⟨#[]⟩)), .d (.v (.int .i64 0)), .d (.v (.slice none 0 0))]:asn AV)).length=n/\(0:Int)<=0/\(0:Int)<=0/\(0:Int)<=(n:Int)-(0:Nat)/\0=0+0/\0=0-0) (by kernel_rfl) ⟨ar8,Int.le_refl _,Int.le_refl _,by omega,rfl,rfl⟩ rfl rfl ?_
  refine cw rfl ?_;refine cX (x:= .vec 0 0 0 n 3) (by kernel_rfl) rfl rfl ?_;refine cy ?_
  repeat refine bk ?_
  refine rg [] [(4, .vec 0 0 0 n 3)] [.vec 56 3 (List.replicate n [.d (.v (.string ⟨#[]⟩)), .d (.v (.int .i64 0)), .d (.v (.slice none 0 0))])] (by kernel_rfl) ?_;refine aow (t:=4) rfl (by kernel_rfl) ar8 ?_;refine eG ?_
  repeat (first|(with_reducible refine fV ?_)|(with_reducible refine gW ?_))
  exact Ky (by kernel_rfl)
end Go.Proofs.YtdchibpnjpnkoaaGreatDoor
