/-
  Part 6 of the proof: Clones, ClonesV, Grows.
-/
import Derived.Test.YtpgmcallngdceaaGreatDoorSe5
namespace Go.Proofs.YtpgmcallngdceaaGreatDoor
open Go.RowKit
set_option maxRecDepth 100000
theorem aif{xs:ak3 (ak3 D)}(hk:∀c∈xs,c.length=2)(hm:xs.length≤maxLen)(hb:xs.length*24≤140737488355328):aG Tryz.prog 55 [.d (.sl xs)] (·= .d (.sl xs)):=by
 refine AG Tryz.func55 rfl (by kernel_rfl) ?_;refine jf [0] 0 (akq _) (s':=⟨8,[(0, .d (.sl xs))],[]⟩) (by kernel_rfl) ?_;refine bH ?_;refine rg [] [] [] (by kernel_rfl) ?_
 repeat refine bH ?_
 refine fg ?_;refine cv rfl ?_;refine dd (x:= .d (.sl xs)) (by kernel_rfl) rfl rfl ?_;refine cv rfl ?_;refine Io (xs:=xs) (q:=(114,2)) rfl rfl rfl (by kernel_rfl) rfl rfl (fun he=> ?_) ?_
 ·subst he;refine cA ?_;refine me (by kernel_rfl) ?_
  repeat refine bH ?_
  refine rg [] [(2, .d (.v (.slice none 0 0)))] [] (by kernel_rfl) ?_;refine dU ?_
  repeat (first|(with_reducible refine fu ?_)|(with_reducible refine gv ?_))
  exact jV (by kernel_rfl)
 ·refine cA ?_;refine mg (by kernel_rfl) ?_;refine fM ?_;refine cA ?_
  repeat refine bH ?_
  refine rg [(7,⟨_,_, .app (xs:=[]) (ys:=xs) (zs:=xs) (len:=0) (k:=2) (ct:=24) (n:=xs.length) rfl (fun _ hc=>absurd hc akV) hk (by simpa using hm) (by simpa using hb) rfl (by simp)⟩)] [(2, .own 0 xs)] [.front 114 2 xs.length] (by kernel_rfl) ?_;refine dU ?_
  repeat (first|(with_reducible refine fu ?_)|(with_reducible refine gv ?_))
  exact jV (by kernel_rfl)
theorem aeb{xs:ak3 (ak3 D)}(hk:∀c∈xs,c.length=4)(hm:xs.length≤maxLen)(hb:xs.length*72≤140737488355328):bQ Tryz.prog 101 [.d (.sl xs)] [] fun r1 h1=>r1= .vec 0 0 xs.length xs.length 4∧h1=[.vec 60 4 (bq xs)]:=by
 refine D9 1 Tryz.func101 rfl (by kernel_rfl) (akn rfl) ?_;refine jf [0] 0 (akq _) (s':=⟨8,[(0, .d (.sl xs))],[]⟩) (by kernel_rfl) ?_;refine bH ?_;refine rg [] [] [] (by kernel_rfl) ?_
 repeat refine bH ?_
 refine fg ?_;refine cv rfl ?_;refine dd (x:= .d (.sl xs)) (by kernel_rfl) rfl rfl ?_;refine cv rfl ?_;refine Io (xs:=xs) (q:=(60,4)) rfl rfl rfl (by kernel_rfl) rfl rfl (fun he=> ?_) ?_
 ·subst he;refine cA ?_;refine me (by kernel_rfl) ?_
  repeat refine bH ?_
  refine rg [] [(2, .d (.v (.slice none 0 0)))] [] (by kernel_rfl) ?_;refine HJ 2 60 4 (by kernel_rfl) ?_;refine dU ?_
  repeat (first|(with_reducible refine fu ?_)|(with_reducible refine gv ?_))
  exact o9 (iL (xs:=[]) vmN) (by kernel_rfl)
 ·refine cA ?_;refine mg (by kernel_rfl) ?_;refine fM ?_;refine cA ?_
  repeat refine bH ?_
  refine rg [(7,⟨_,_, .pr (.ap (bq xs) (bq xs) xs.length xs.length) (Nk (h:=[]) (k:=4) (ct:=72) (y:= .d (.sl xs)) hk rfl hm hb)⟩)] [(2, .vec 0 0 xs.length xs.length 4)] [.vec 60 4 (bq xs)] (by kernel_rfl) ?_;refine dU ?_
  repeat (first|(with_reducible refine fu ?_)|(with_reducible refine gv ?_))
  exact o9 (iL (xs:=xs) vmN) (by kernel_rfl)
theorem aca{xs:ak3 (ak3 D)}(hk:∀c∈xs,c.length=2)(hm:xs.length≤maxLen)(hb:xs.length*32≤140737488355328):bQ Tryz.prog 102 [.d (.sl xs)] [] fun r1 h1=>r1= .vec 0 0 xs.length xs.length 2∧h1=[.vec 28 2 (bq xs)]:=by
 refine D9 1 Tryz.func102 rfl (by kernel_rfl) (akn rfl) ?_;refine jf [0] 0 (akq _) (s':=⟨8,[(0, .d (.sl xs))],[]⟩) (by kernel_rfl) ?_;refine bH ?_;refine rg [] [] [] (by kernel_rfl) ?_
 repeat refine bH ?_
 refine fg ?_;refine cv rfl ?_;refine dd (x:= .d (.sl xs)) (by kernel_rfl) rfl rfl ?_;refine cv rfl ?_;refine Io (xs:=xs) (q:=(28,2)) rfl rfl rfl (by kernel_rfl) rfl rfl (fun he=> ?_) ?_
 ·subst he;refine cA ?_;refine me (by kernel_rfl) ?_
  repeat refine bH ?_
  refine rg [] [(2, .d (.v (.slice none 0 0)))] [] (by kernel_rfl) ?_;refine HJ 2 28 2 (by kernel_rfl) ?_;refine dU ?_
  repeat (first|(with_reducible refine fu ?_)|(with_reducible refine gv ?_))
  exact o9 (iL (xs:=[]) vmN) (by kernel_rfl)
 ·refine cA ?_;refine mg (by kernel_rfl) ?_;refine fM ?_;refine cA ?_
  repeat refine bH ?_
  refine rg [(7,⟨_,_, .pr (.ap (bq xs) (bq xs) xs.length xs.length) (Nk (h:=[]) (k:=2) (ct:=32) (y:= .d (.sl xs)) hk rfl hm hb)⟩)] [(2, .vec 0 0 xs.length xs.length 2)] [.vec 28 2 (bq xs)] (by kernel_rfl) ?_;refine dU ?_
  repeat (first|(with_reducible refine fu ?_)|(with_reducible refine gv ?_))
  exact o9 (iL (xs:=xs) vmN) (by kernel_rfl)
theorem XQ{xs:ak3 (ak3 D)}(hk:∀c∈xs,c.length=13)(hm:xs.length≤maxLen)(hb:xs.length*160≤140737488355328):bQ Tryz.prog 103 [.d (.sl xs)] [] fun r1 h1=>r1= .vec 0 0 xs.length xs.length 13∧h1=[.vec 32 13 (bq xs)]:=by
 refine D9 1 Tryz.func103 rfl (by kernel_rfl) (akn rfl) ?_;refine jf [0] 0 (akq _) (s':=⟨8,[(0, .d (.sl xs))],[]⟩) (by kernel_rfl) ?_;refine bH ?_;refine rg [] [] [] (by kernel_rfl) ?_
 repeat refine bH ?_
 refine fg ?_;refine cv rfl ?_;refine dd (x:= .d (.sl xs)) (by kernel_rfl) rfl rfl ?_;refine cv rfl ?_;refine Io (xs:=xs) (q:=(32,13)) rfl rfl rfl (by kernel_rfl) rfl rfl (fun he=> ?_) ?_
 ·subst he;refine cA ?_;refine me (by kernel_rfl) ?_
  repeat refine bH ?_
  refine rg [] [(2, .d (.v (.slice none 0 0)))] [] (by kernel_rfl) ?_;refine HJ 2 32 13 (by kernel_rfl) ?_;refine dU ?_
  repeat (first|(with_reducible refine fu ?_)|(with_reducible refine gv ?_))
  exact o9 (iL (xs:=[]) vmN) (by kernel_rfl)
 ·refine cA ?_;refine mg (by kernel_rfl) ?_;refine fM ?_;refine cA ?_
  repeat refine bH ?_
  refine rg [(7,⟨_,_, .pr (.ap (bq xs) (bq xs) xs.length xs.length) (Nk (h:=[]) (k:=13) (ct:=160) (y:= .d (.sl xs)) hk rfl hm hb)⟩)] [(2, .vec 0 0 xs.length xs.length 13)] [.vec 32 13 (bq xs)] (by kernel_rfl) ?_;refine dU ?_
  repeat (first|(with_reducible refine fu ?_)|(with_reducible refine gv ?_))
  exact o9 (iL (xs:=xs) vmN) (by kernel_rfl)
set_option linter.unusedSimpArgs false
end Go.Proofs.YtpgmcallngdceaaGreatDoor
