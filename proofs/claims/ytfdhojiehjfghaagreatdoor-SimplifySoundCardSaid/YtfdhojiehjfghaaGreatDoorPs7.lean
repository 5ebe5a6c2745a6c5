/-
  Part 7 of the proof: Clones, ClonesV, Grows.
-/
import Derived.Test.YtfdhojiehjfghaaGreatDoorPs6
namespace Go.Proofs.YtfdhojiehjfghaaGreatDoor
open Go.RowKit
set_option maxRecDepth 100000
theorem aeR{xs:anD (anD D)}(hk:∀c∈xs,c.length=2)(hm:xs.length<=maxLen)(hb:xs.length*24<=140737488355328):gn Tryz.prog 57 [.d (.sl xs)] (·= .d (.sl xs)):=by
 refine Ar Tryz.func57 rfl (by kernel_rfl) ?_;refine jZ [0] 0 (amY _) (s':=⟨8,[(0, .d (.sl xs))],[]⟩) (by kernel_rfl) ?_;refine aR ?_;refine rg [] [] [] (by kernel_rfl) ?_
 repeat refine aR ?_
 refine fQ ?_;refine cy rfl ?_;refine dp (x:= .d (.sl xs)) (by kernel_rfl) rfl rfl ?_;refine cy rfl ?_;refine JE (xs:=xs) (q:=(133,2)) rfl rfl rfl (by kernel_rfl) rfl rfl (λhe=> ?_) ?_
 ·subst he;refine cw ?_;refine m8 (by kernel_rfl) ?_
  repeat refine aR ?_
  refine rg [] [(2, .d (.v (.slice none 0 0)))] [] (by kernel_rfl) ?_;refine dz ?_
  repeat (first|(with_reducible refine dO ?_)|(with_reducible refine gO ?_))
  exact jI (by kernel_rfl)
 ·refine cw ?_;refine nH (by kernel_rfl) ?_;refine fj ?_;refine cw ?_
  repeat refine aR ?_
  refine rg [(7,⟨_,_, .app (xs:=[]) (ys:=xs) (zs:=xs) (len:=0) (k:=2) (cr:=24) (n:=xs.length) rfl (λ_ hc=>absurd hc anu) hk (by simpa using hm) (by simpa using hb) rfl (by simp)⟩)] [(2, .own 0 xs)] [.front 133 2 xs.length] (by kernel_rfl) ?_;refine dz ?_
  repeat (first|(with_reducible refine dO ?_)|(with_reducible refine gO ?_))
  exact jI (by kernel_rfl)
theorem aiD{xs:anD (anD D)}(hk:∀c∈xs,c.length=4)(hm:xs.length<=maxLen)(hb:xs.length*72<=140737488355328):cp Tryz.prog 99 [.d (.sl xs)] [] λr1 h1=>r1= .vec 0 0 xs.length xs.length 4/\h1=[.vec 73 4 (bG xs)]:=by
 refine DA 1 Tryz.func99 rfl (by kernel_rfl) (amV rfl) ?_;refine jZ [0] 0 (amY _) (s':=⟨8,[(0, .d (.sl xs))],[]⟩) (by kernel_rfl) ?_;refine aR ?_;refine rg [] [] [] (by kernel_rfl) ?_
 repeat refine aR ?_
 refine fQ ?_;refine cy rfl ?_;refine dp (x:= .d (.sl xs)) (by kernel_rfl) rfl rfl ?_;refine cy rfl ?_;refine JE (xs:=xs) (q:=(73,4)) rfl rfl rfl (by kernel_rfl) rfl rfl (λhe=> ?_) ?_
 ·subst he;refine cw ?_;refine m8 (by kernel_rfl) ?_
  repeat refine aR ?_
  refine rg [] [(2, .d (.v (.slice none 0 0)))] [] (by kernel_rfl) ?_;refine NM 2 73 4 (by kernel_rfl) ?_;refine dz ?_
  repeat (first|(with_reducible refine dO ?_)|(with_reducible refine gO ?_))
  exact uo (vX (xs:=[]) pf) (by kernel_rfl)
 ·refine cw ?_;refine nH (by kernel_rfl) ?_;refine fj ?_;refine cw ?_
  repeat refine aR ?_
  refine rg [(7,⟨_,_, .pr (.ap (bG xs) (bG xs) xs.length xs.length) (Lm (h:=[]) (k:=4) (cr:=72) (y:= .d (.sl xs)) hk rfl hm hb)⟩)] [(2, .vec 0 0 xs.length xs.length 4)] [.vec 73 4 (bG xs)] (by kernel_rfl) ?_;refine dz ?_
  repeat (first|(with_reducible refine dO ?_)|(with_reducible refine gO ?_))
  exact uo (vX (xs:=xs) pf) (by kernel_rfl)
theorem acP{xs:anD (anD D)}(hk:∀c∈xs,c.length=2)(hm:xs.length<=maxLen)(hb:xs.length*32<=140737488355328):cp Tryz.prog 100 [.d (.sl xs)] [] λr1 h1=>r1= .vec 0 0 xs.length xs.length 2/\h1=[.vec 28 2 (bG xs)]:=by
 refine DA 1 Tryz.func100 rfl (by kernel_rfl) (amV rfl) ?_;refine jZ [0] 0 (amY _) (s':=⟨8,[(0, .d (.sl xs))],[]⟩) (by kernel_rfl) ?_;refine aR ?_;refine rg [] [] [] (by kernel_rfl) ?_
 repeat refine aR ?_
 refine fQ ?_;refine cy rfl ?_;refine dp (x:= .d (.sl xs)) (by kernel_rfl) rfl rfl ?_;refine cy rfl ?_;refine JE (xs:=xs) (q:=(28,2)) rfl rfl rfl (by kernel_rfl) rfl rfl (λhe=> ?_) ?_
 ·subst he;refine cw ?_;refine m8 (by kernel_rfl) ?_
  repeat refine aR ?_
  refine rg [] [(2, .d (.v (.slice none 0 0)))] [] (by kernel_rfl) ?_;refine NM 2 28 2 (by kernel_rfl) ?_;refine dz ?_
  repeat (first|(with_reducible refine dO ?_)|(with_reducible refine gO ?_))
  exact uo (vX (xs:=[]) pf) (by kernel_rfl)
 ·refine cw ?_;refine nH (by kernel_rfl) ?_;refine fj ?_;refine cw ?_
  repeat refine aR ?_
  refine rg [(7,⟨_,_, .pr (.ap (bG xs) (bG xs) xs.length xs.length) (Lm (h:=[]) (k:=2) (cr:=32) (y:= .d (.sl xs)) hk rfl hm hb)⟩)] [(2, .vec 0 0 xs.length xs.length 2)] [.vec 28 2 (bG xs)] (by kernel_rfl) ?_;refine dz ?_
  repeat (first|(with_reducible refine dO ?_)|(with_reducible refine gO ?_))
  exact uo (vX (xs:=xs) pf) (by kernel_rfl)
theorem afn{xs:anD (anD D)}(hk:∀c∈xs,c.length=13)(hm:xs.length<=maxLen)(hb:xs.length*160<=140737488355328):cp Tryz.prog 101 [.d (.sl xs)] [] λr1 h1=>r1= .vec 0 0 xs.length xs.length 13/\h1=[.vec 32 13 (bG xs)]:=by
 refine DA 1 Tryz.func101 rfl (by kernel_rfl) (amV rfl) ?_;refine jZ [0] 0 (amY _) (s':=⟨8,[(0, .d (.sl xs))],[]⟩) (by kernel_rfl) ?_;refine aR ?_;refine rg [] [] [] (by kernel_rfl) ?_
 repeat refine aR ?_
 refine fQ ?_;refine cy rfl ?_;refine dp (x:= .d (.sl xs)) (by kernel_rfl) rfl rfl ?_;refine cy rfl ?_;refine JE (xs:=xs) (q:=(32,13)) rfl rfl rfl (by kernel_rfl) rfl rfl (λhe=> ?_) ?_
 ·subst he;refine cw ?_;refine m8 (by kernel_rfl) ?_
  repeat refine aR ?_
  refine rg [] [(2, .d (.v (.slice none 0 0)))] [] (by kernel_rfl) ?_;refine NM 2 32 13 (by kernel_rfl) ?_;refine dz ?_
  repeat (first|(with_reducible refine dO ?_)|(with_reducible refine gO ?_))
  exact uo (vX (xs:=[]) pf) (by kernel_rfl)
 ·refine cw ?_;refine nH (by kernel_rfl) ?_;refine fj ?_;refine cw ?_
  repeat refine aR ?_
  refine rg [(7,⟨_,_, .pr (.ap (bG xs) (bG xs) xs.length xs.length) (Lm (h:=[]) (k:=13) (cr:=160) (y:= .d (.sl xs)) hk rfl hm hb)⟩)] [(2, .vec 0 0 xs.length xs.length 13)] [.vec 32 13 (bG xs)] (by kernel_rfl) ?_;refine dz ?_
  repeat (first|(with_reducible refine dO ?_)|(with_reducible refine gO ?_))
  exact uo (vX (xs:=xs) pf) (by kernel_rfl)
set_option linter.unusedSimpArgs false
end Go.Proofs.YtfdhojiehjfghaaGreatDoor
