/-
  Part 7 of the proof: Clones, ClonesV, Grows.
-/
import Derived.Test.YtnnapanbbbcalaaGreatDoorPp6
namespace Go.Proofs.YtnnapanbbbcalaaGreatDoor
open Go.RowKit
set_option maxRecDepth 100000
theorem aez{xs:amT (amT D)}(hk:∀c∈xs,c.length=1)(hm:xs.length<=maxLen)(hb:xs.length*8<=140737488355328):ga Tryz.prog 64 [.d (.sl xs)] (·= .d (.sl xs)):=by
 refine lO Tryz.func64 rfl (by kernel_rfl) ?_;refine ft [0] 0 (amg _) (s':=⟨8,[(0, .d (.sl xs))],[]⟩) (by kernel_rfl) ?_;refine au ?_;refine rg [] [] [] (by kernel_rfl) ?_
 repeat refine au ?_
 refine e9 ?_;refine bO rfl ?_;refine cN (x:= .d (.sl xs)) (by kernel_rfl) rfl rfl ?_;refine bO rfl ?_;refine Ge (xs:=xs) (q:=(3,1)) rfl rfl rfl (by kernel_rfl) rfl rfl (λhe=> ?_) ?_
 ·subst he;refine aM ?_;refine lS (by kernel_rfl) ?_
  repeat refine au ?_
  refine rg [] [(2, .d (.v (.slice none 0 0)))] [] (by kernel_rfl) ?_;refine cU ?_
  repeat (first|(with_reducible refine cT ?_)|(with_reducible refine dS ?_))
  exact eJ (by kernel_rfl)
 ·refine aM ?_;refine lL (by kernel_rfl) ?_;refine ct ?_;refine aM ?_
  repeat refine au ?_
  refine rg [(7,⟨_,_, .app (xs:=[]) (ys:=xs) (zs:=xs) (len:=0) (k:=1) (dd:=8) (n:=xs.length) rfl (λ_ hc=>absurd hc amL) hk (by simpa using hm) (by simpa using hb) rfl (by simp)⟩)] [(2, .own 0 xs)] [.front 3 1 xs.length] (by kernel_rfl) ?_;refine cU ?_
  repeat (first|(with_reducible refine cT ?_)|(with_reducible refine dS ?_))
  exact eJ (by kernel_rfl)
theorem ahx{xs:amT (amT D)}(hk:∀c∈xs,c.length=2)(hm:xs.length<=maxLen)(hb:xs.length*16<=140737488355328):ga Tryz.prog 86 [.d (.sl xs)] (·= .d (.sl xs)):=by
 refine lO Tryz.func86 rfl (by kernel_rfl) ?_;refine ft [0] 0 (amg _) (s':=⟨8,[(0, .d (.sl xs))],[]⟩) (by kernel_rfl) ?_;refine au ?_;refine rg [] [] [] (by kernel_rfl) ?_
 repeat refine au ?_
 refine e9 ?_;refine bO rfl ?_;refine cN (x:= .d (.sl xs)) (by kernel_rfl) rfl rfl ?_;refine bO rfl ?_;refine Ge (xs:=xs) (q:=(45,2)) rfl rfl rfl (by kernel_rfl) rfl rfl (λhe=> ?_) ?_
 ·subst he;refine aM ?_;refine lS (by kernel_rfl) ?_
  repeat refine au ?_
  refine rg [] [(2, .d (.v (.slice none 0 0)))] [] (by kernel_rfl) ?_;refine cU ?_
  repeat (first|(with_reducible refine cT ?_)|(with_reducible refine dS ?_))
  exact eJ (by kernel_rfl)
 ·refine aM ?_;refine lL (by kernel_rfl) ?_;refine ct ?_;refine aM ?_
  repeat refine au ?_
  refine rg [(7,⟨_,_, .app (xs:=[]) (ys:=xs) (zs:=xs) (len:=0) (k:=2) (dd:=16) (n:=xs.length) rfl (λ_ hc=>absurd hc amL) hk (by simpa using hm) (by simpa using hb) rfl (by simp)⟩)] [(2, .own 0 xs)] [.front 45 2 xs.length] (by kernel_rfl) ?_;refine cU ?_
  repeat (first|(with_reducible refine cT ?_)|(with_reducible refine dS ?_))
  exact eJ (by kernel_rfl)
theorem aeR{xs:amT (amT D)}(hk:∀c∈xs,c.length=2)(hm:xs.length<=maxLen)(hb:xs.length*24<=140737488355328):ga Tryz.prog 222 [.d (.sl xs)] (·= .d (.sl xs)):=by
 refine lO Tryz.func222 rfl (by kernel_rfl) ?_;refine ft [0] 0 (amg _) (s':=⟨8,[(0, .d (.sl xs))],[]⟩) (by kernel_rfl) ?_;refine au ?_;refine rg [] [] [] (by kernel_rfl) ?_
 repeat refine au ?_
 refine e9 ?_;refine bO rfl ?_;refine cN (x:= .d (.sl xs)) (by kernel_rfl) rfl rfl ?_;refine bO rfl ?_;refine Ge (xs:=xs) (q:=(78,2)) rfl rfl rfl (by kernel_rfl) rfl rfl (λhe=> ?_) ?_
 ·subst he;refine aM ?_;refine lS (by kernel_rfl) ?_
  repeat refine au ?_
  refine rg [] [(2, .d (.v (.slice none 0 0)))] [] (by kernel_rfl) ?_;refine cU ?_
  repeat (first|(with_reducible refine cT ?_)|(with_reducible refine dS ?_))
  exact eJ (by kernel_rfl)
 ·refine aM ?_;refine lL (by kernel_rfl) ?_;refine ct ?_;refine aM ?_
  repeat refine au ?_
  refine rg [(7,⟨_,_, .app (xs:=[]) (ys:=xs) (zs:=xs) (len:=0) (k:=2) (dd:=24) (n:=xs.length) rfl (λ_ hc=>absurd hc amL) hk (by simpa using hm) (by simpa using hb) rfl (by simp)⟩)] [(2, .own 0 xs)] [.front 78 2 xs.length] (by kernel_rfl) ?_;refine cU ?_
  repeat (first|(with_reducible refine cT ?_)|(with_reducible refine dS ?_))
  exact eJ (by kernel_rfl)
theorem Z0{xs:amT (amT D)}(hk:∀c∈xs,c.length=1)(hm:xs.length<=maxLen)(hb:xs.length*8<=140737488355328):cZ Tryz.prog 64 [.d (.sl xs)] [] λr1 h1=>r1= .vec 0 0 xs.length xs.length 1/\h1=[.vec 3 1 (cg xs)]:=by
 refine E1 1 Tryz.func64 rfl (by kernel_rfl) (amd rfl) ?_;refine ft [0] 0 (amg _) (s':=⟨8,[(0, .d (.sl xs))],[]⟩) (by kernel_rfl) ?_;refine au ?_;refine rg [] [] [] (by kernel_rfl) ?_
 repeat refine au ?_
 refine e9 ?_;refine bO rfl ?_;refine cN (x:= .d (.sl xs)) (by kernel_rfl) rfl rfl ?_;refine bO rfl ?_;refine Ge (xs:=xs) (q:=(3,1)) rfl rfl rfl (by kernel_rfl) rfl rfl (λhe=> ?_) ?_
 ·subst he;refine aM ?_;refine lS (by kernel_rfl) ?_
  repeat refine au ?_
  refine rg [] [(2, .d (.v (.slice none 0 0)))] [] (by kernel_rfl) ?_;refine afp 2 3 1 (by kernel_rfl) ?_;refine cU ?_
  repeat (first|(with_reducible refine cT ?_)|(with_reducible refine dS ?_))
  exact uh (lC (xs:=[]) jD) (by kernel_rfl)
 ·refine aM ?_;refine lL (by kernel_rfl) ?_;refine ct ?_;refine aM ?_
  repeat refine au ?_
  refine rg [(7,⟨_,_, .pr (.ap (cg xs) (cg xs) xs.length xs.length) (adF (h:=[]) (k:=1) (dd:=8) (y:= .d (.sl xs)) hk rfl hm hb)⟩)] [(2, .vec 0 0 xs.length xs.length 1)] [.vec 3 1 (cg xs)] (by kernel_rfl) ?_;refine cU ?_
  repeat (first|(with_reducible refine cT ?_)|(with_reducible refine dS ?_))
  exact uh (lC (xs:=xs) jD) (by kernel_rfl)
set_option linter.unusedSimpArgs false
theorem agY{n:Nat}(h:n<=maxLen):IntKind.i64.wrap ((n:Int)-IntKind.i64.wrap (0-0))=(n:Int):=by
 rw[IntKind.wrap_i64,IntKind.wrap_i64];unfold maxLen at h;omega
theorem akZ{n:Nat}(hb:Nat.ble (n*48) 140737488355328=true):cZ Tryz.prog 286 [.d (.v (.slice none 0 0)), .d (.v (.int .i64 (Int.ofNat n)))] [] λr1 h1=>r1= .own 0 []/\h1=[.front 80 3 0]:=by
 have hc:=mJ hb (by decide);refine qn 1 Tryz.func286 rfl (by kernel_rfl) (amd rfl) ?_;refine mq (s':=⟨27,[(0, .d (.v (.slice none 0 0))),(1, .d (.v (.int .i64 (Int.ofNat n))))],[]⟩) (by kernel_rfl) ?_;refine au ?_;refine rg [] [] [] (by kernel_rfl) ?_
 repeat refine au ?_
 refine rg [] [(6,az (decide ((n:Int)<0)))] [] (by kernel_rfl) ?_
 repeat refine au ?_
 refine dm (t:=decide ((n:Int)<0)) (by kernel_rfl) (amN (by omega)) ?_;refine ct ?_;refine aM ?_
 repeat refine au ?_
 refine e9 ?_;refine bO rfl ?_;refine cN (x:= .d (.v (.int .i64 (Int.ofNat n)))) (by kernel_rfl) rfl rfl ?_;refine bO rfl ?_;refine cN (x:= .d (.v (.slice none 0 0))) (by kernel_rfl) rfl rfl ?_;refine bO rfl ?_;refine Fs (x:= .d (.v (.int .i64 0))) (h':=[]) (by kernel_rfl) rfl rfl ?_;refine bO rfl ?_;refine cN (x:= .d (.v (.slice none 0 0))) (by kernel_rfl) rfl rfl ?_;refine bO rfl ?_;refine cN (x:= .d (.v (.int .i64 0))) (by kernel_rfl) rfl rfl ?_;refine bO rfl ?_;refine cN (x:= .d (.v (.int .i64 (IntKind.i64.wrap (0-0))))) (by kernel_rfl) rfl rfl ?_;refine bO rfl ?_;refine cN (x:= .d (.v (.int .i64 (IntKind.i64.wrap ((n:Int)-IntKind.i64.wrap (0-0)))))) (by kernel_rfl) rfl rfl ?_;refine bO rfl ?_;refine cN (x:= .d (.v (.int .i64 (IntKind.i64.wrap ((n:Int)-IntKind.i64.wrap (0-0)))))) (by kernel_rfl) rfl rfl ?_;rw[agY hc.1];refine aM ?_
 repeat refine au ?_
 refine rg [] [(16,az (decide ((n:Int)>0)))] [] (by kernel_rfl) ?_
 repeat refine au ?_
 rcases Nat.eq_zero_or_pos n with h0|h0
 ·subst h0;refine dm (t:=decide (((0:Nat):Int)>0)) (by kernel_rfl) rfl ?_;refine ct ?_;refine aM ?_
  repeat refine au ?_
  refine rg [] [(4, .d (.v (.slice none 0 0)))] [] (by kernel_rfl) ?_;refine JY 4 80 3 [] (.inr ⟨by kernel_rfl,rfl⟩) ?_;refine cU ?_
  repeat (first|(with_reducible refine cT ?_)|(with_reducible refine dS ?_))
  exact jj (by kernel_rfl)
 ·refine cS (t:=decide ((n:Int)>0)) (by kernel_rfl) (amM (by omega)) ?_;refine e9 ?_;refine bO rfl ?_;refine cN (x:= .d (.v (.slice none 0 0))) (by kernel_rfl) rfl rfl ?_;refine bO rfl ?_;refine cN (x:= .d (.v (.slice none 0 0))) (by kernel_rfl) rfl rfl ?_;refine bO rfl ?_;refine Fs (x:= .d (.v (.int .i64 0))) (h':=[]) (by kernel_rfl) rfl rfl ?_;refine bO rfl ?_;refine Fs (x:= .d (.v (.slice none 0 0))) (h':=[]) (by kernel_rfl) rfl rfl ?_;refine bO rfl ?_;refine cN (x:= .d (.v (.int .i64 (Int.ofNat n)))) (by kernel_rfl) rfl rfl ?_;refine bO rfl ?_;refine Fs (x:= .vec 0 0 n n 3) (h':=[.vec 80 3 (List.replicate n [.d (.v (.string ⟨#[]⟩)), .d (.v (.int .i64 0)), .d (.v (.slice none 0 0))])]) (aaw (e:=80) (k:=3) (m:=n) (dd:=48) (kq:= .i64) (kn:= .i64) (z:= .agg #[.string ⟨#[]⟩, .int .i64 0, .slice none 0 0]) rfl rfl rfl (by kernel_rfl) (by kernel_rfl) (by kernel_rfl) (by kernel_rfl) (by kernel_rfl) (by kernel_rfl) h0 (by decide) rfl hc.1 hc.2) rfl rfl ?_;refine bO rfl ?_;refine cN (x:= .d (.v (.slice none 0 0))) (by kernel_rfl) rfl rfl ?_;refine bO rfl ?_;refine cN (x:= .d (.v (.int .i64 0))) (by kernel_rfl) rfl rfl ?_;refine bO rfl ?_;refine ais (.ol 0 0) (x:= .vec 0 0 0 n 3) (h':=[.vec 80 3 (List.replicate n [.d (.v (.string ⟨#[]⟩)), .d (.v (.int .i64 0)), .d (.v (.slice none 0 0))])]) (p:=(List.replicate n ([.d (.v (.string ⟨#[]⟩)), .d (.v (.int .i64 0)), .d (.v (.slice none 0 0))]:amT AV)).length=n/\(0:Int)<=0/\(0:Int)<=0/\(0:Int)<=(n:Int)-(0:Nat)/\0=0+0/\0=0-0) (by kernel_rfl) ⟨amF,Int.le_refl _,Int.le_refl _,by omega,rfl,rfl⟩ rfl rfl ?_
  refine bO rfl ?_;refine cN (x:= .vec 0 0 0 n 3) (by kernel_rfl) rfl rfl ?_;refine aM ?_
  repeat refine au ?_
  refine rg [] [(4, .vec 0 0 0 n 3)] [.vec 80 3 (List.replicate n [.d (.v (.string ⟨#[]⟩)), .d (.v (.int .i64 0)), .d (.v (.slice none 0 0))])] (by kernel_rfl) ?_;refine ahH (t:=4) rfl (by kernel_rfl) amF ?_;refine cU ?_
  repeat (first|(with_reducible refine cT ?_)|(with_reducible refine dS ?_))
  exact jj (by kernel_rfl)
end Go.Proofs.YtnnapanbbbcalaaGreatDoor
