/-
  Part 7 of the proof: Clones, ClonesV, Grows.
-/
import Derived.Test.YtmkmibahjanejaaGreatDoorPr6
namespace Go.Proofs.YtmkmibahjanejaaGreatDoor
open Go.RowKit
set_option maxRecDepth 100000
theorem agO{xs:apH (apH D)}(hk:∀c∈xs,c.length=2)(hm:xs.length<=maxLen)(hb:xs.length*24<=140737488355328):ic Tryz.prog 267 [.d (.sl xs)] (·= .d (.sl xs)):=by
 refine ER Tryz.func267 rfl (by kernel_rfl) ?_;refine mc [0] 0 (ao3 _) (s':=⟨8,[(0, .d (.sl xs))],[]⟩) (by kernel_rfl) ?_;refine bP ?_;refine rg [] [] [] (by kernel_rfl) ?_
 repeat refine bP ?_
 refine fy ?_;refine cn rfl ?_;refine cY (x:= .d (.sl xs)) (by kernel_rfl) rfl rfl ?_;refine cn rfl ?_;refine amM (xs:=xs) (q:=(115,2)) rfl rfl rfl (by kernel_rfl) rfl rfl (λhe=> ?_) ?_
 ·subst he;refine dJ ?_;refine qN (by kernel_rfl) ?_
  repeat refine bP ?_
  refine rg [] [(2, .d (.v (.slice none 0 0)))] [] (by kernel_rfl) ?_;refine gM ?_
  repeat (first|(with_reducible refine jU ?_)|(with_reducible refine lz ?_))
  exact mj (by kernel_rfl)
 ·refine dJ ?_;refine ra (by kernel_rfl) ?_;refine jG ?_;refine dJ ?_
  repeat refine bP ?_
  refine rg [(7,⟨_,_, .app (xs:=[]) (ys:=xs) (zs:=xs) (len:=0) (k:=2) (cX:=24) (n:=xs.length) rfl (λ_ hc=>absurd hc apz) hk (by simpa using hm) (by simpa using hb) rfl (by simp)⟩)] [(2, .own 0 xs)] [.front 115 2 xs.length] (by kernel_rfl) ?_;refine gM ?_
  repeat (first|(with_reducible refine jU ?_)|(with_reducible refine lz ?_))
  exact mj (by kernel_rfl)
set_option linter.unusedSimpArgs false
theorem aj0{n:Nat}(h:n<=maxLen):IntKind.i64.wrap ((n:Int)-IntKind.i64.wrap (0-0))=(n:Int):=by
 rw[IntKind.wrap_i64,IntKind.wrap_i64];unfold maxLen at h;omega
theorem ahT{n:Nat}(hb:Nat.ble (n*48) 140737488355328=true):cx Tryz.prog 153 [.d (.v (.slice none 0 0)), .d (.v (.int .i64 (Int.ofNat n)))] [] λr1 h1=>r1= .own 0 []/\h1=[.front 72 3 0]:=by
 have hc:=HJ hb (by decide);refine BJ 1 Tryz.func153 rfl (by kernel_rfl) (ao0 rfl) ?_;refine zf (s':=⟨27,[(0, .d (.v (.slice none 0 0))),(1, .d (.v (.int .i64 (Int.ofNat n))))],[]⟩) (by kernel_rfl) ?_;refine bP ?_;refine rg [] [] [] (by kernel_rfl) ?_
 repeat refine bP ?_
 refine rg [] [(6,aZ (decide ((n:Int)<0)))] [] (by kernel_rfl) ?_
 repeat refine bP ?_
 refine jg (t:=decide ((n:Int)<0)) (by kernel_rfl) (apB (by omega)) ?_;refine jG ?_;refine dJ ?_
 repeat refine bP ?_
 refine fy ?_;refine cn rfl ?_;refine cY (x:= .d (.v (.int .i64 (Int.ofNat n)))) (by kernel_rfl) rfl rfl ?_;refine cn rfl ?_;refine cY (x:= .d (.v (.slice none 0 0))) (by kernel_rfl) rfl rfl ?_;refine cn rfl ?_;refine LK (x:= .d (.v (.int .i64 0))) (h':=[]) (by kernel_rfl) rfl rfl ?_;refine cn rfl ?_;refine cY (x:= .d (.v (.slice none 0 0))) (by kernel_rfl) rfl rfl ?_;refine cn rfl ?_;refine cY (x:= .d (.v (.int .i64 0))) (by kernel_rfl) rfl rfl ?_;refine cn rfl ?_;refine cY (x:= .d (.v (.int .i64 (IntKind.i64.wrap (0-0))))) (by kernel_rfl) rfl rfl ?_;refine cn rfl ?_;refine cY (x:= .d (.v (.int .i64 (IntKind.i64.wrap ((n:Int)-IntKind.i64.wrap (0-0)))))) (by kernel_rfl) rfl rfl ?_;refine cn rfl ?_;refine cY (x:= .d (.v (.int .i64 (IntKind.i64.wrap ((n:Int)-IntKind.i64.wrap (0-0)))))) (by kernel_rfl) rfl rfl ?_;rw[aj0 hc.1];refine dJ ?_
 repeat refine bP ?_
 refine rg [] [(16,aZ (decide ((n:Int)>0)))] [] (by kernel_rfl) ?_
 repeat refine bP ?_
 rcases Nat.eq_zero_or_pos n with h0|h0
 ·subst h0;refine jg (t:=decide (((0:Nat):Int)>0)) (by kernel_rfl) rfl ?_;refine jG ?_;refine dJ ?_
  repeat refine bP ?_
  refine rg [] [(4, .d (.v (.slice none 0 0)))] [] (by kernel_rfl) ?_;refine UI 4 72 3 [] (.inr ⟨by kernel_rfl,rfl⟩) ?_;refine gM ?_
  repeat (first|(with_reducible refine jU ?_)|(with_reducible refine lz ?_))
  exact Cj (by kernel_rfl)
 ·refine jA (t:=decide ((n:Int)>0)) (by kernel_rfl) (apA (by omega)) ?_;refine fy ?_;refine cn rfl ?_;refine cY (x:= .d (.v (.slice none 0 0))) (by kernel_rfl) rfl rfl ?_;refine cn rfl ?_;refine cY (x:= .d (.v (.slice none 0 0))) (by kernel_rfl) rfl rfl ?_;refine cn rfl ?_;refine LK (x:= .d (.v (.int .i64 0))) (h':=[]) (by kernel_rfl) rfl rfl ?_;refine cn rfl ?_;refine LK (x:= .d (.v (.slice none 0 0))) (h':=[]) (by kernel_rfl) rfl rfl ?_;refine cn rfl ?_;refine cY (x:= .d (.v (.int .i64 (Int.ofNat n)))) (by kernel_rfl) rfl rfl ?_;refine cn rfl ?_;refine LK (x:= .vec 0 0 n n 3) (h':=[.vec 72 3 (List.replicate n [.d (.v (.string ⟨#[]⟩)), .d (.v (.int .i64 0)), .d (.v (.slice none 0 0))])]) (anM (e:=72) (k:=3) (m:=n) (cX:=48) (kq:= .i64) (kn:= .i64) (z:= .agg #[.string ⟨#[]⟩, .int .i64 0, .slice none 0 0]) rfl rfl rfl (by kernel_rfl) (by kernel_rfl) (by kernel_rfl) (by kernel_rfl) (by kernel_rfl) (by kernel_rfl) h0 (by decide) rfl hc.1 hc.2) rfl rfl ?_;refine cn rfl ?_;refine cY (x:= .d (.v (.slice none 0 0))) (by kernel_rfl) rfl rfl ?_;refine cn rfl ?_;refine cY (x:= .d (.v (.int .i64 0))) (by kernel_rfl) rfl rfl ?_;refine cn rfl ?_;refine afO (.ol 0 0) (x:= .vec 0 0 0 n 3) (h':=[.vec 72 3 (List.replicate n [.d (.v (.string ⟨#[]⟩)), .d (.v (.int .i64 0)), .d (.v (.slice none 0 0))])]) (p:=(List.replicate n ([.d (.v (.string ⟨#[]⟩)), .d (.v (.int .i64 0)), .d (.v (.slice none 0 0))]:apH AV)).length=n/\(0:Int)<=0/\(0:Int)<=0/\(0:Int)<=(n:Int)-(0:Nat)/\0=0+0/\0=0-0) (by kernel_rfl) ⟨apt,Int.le_refl _,Int.le_refl _,by omega,rfl,rfl⟩ rfl rfl ?_
  refine cn rfl ?_;refine cY (x:= .vec 0 0 0 n 3) (by kernel_rfl) rfl rfl ?_;refine dJ ?_
  repeat refine bP ?_
  refine rg [] [(4, .vec 0 0 0 n 3)] [.vec 72 3 (List.replicate n [.d (.v (.string ⟨#[]⟩)), .d (.v (.int .i64 0)), .d (.v (.slice none 0 0))])] (by kernel_rfl) ?_;refine adK (t:=4) rfl (by kernel_rfl) apt ?_;refine gM ?_
  repeat (first|(with_reducible refine jU ?_)|(with_reducible refine lz ?_))
  exact Cj (by kernel_rfl)
end Go.Proofs.YtmkmibahjanejaaGreatDoor
