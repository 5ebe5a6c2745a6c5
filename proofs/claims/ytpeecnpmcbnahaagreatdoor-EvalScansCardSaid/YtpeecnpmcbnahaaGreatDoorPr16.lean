/-
  Part 16 of the proof: EvScansCarda.
-/
import Derived.Test.YtpeecnpmcbnahaaGreatDoorPr15
import Derived.Test.YtpeecnpmcbnahaaGreatDoorCards
import Derived.Test.YtpeecnpmcbnahaaGreatDoorTie
import Derived.SevenTiedAt
import Derived.Carry
namespace Go.Proofs.YtpeecnpmcbnahaaGreatDoor
open Go.ChangeShapes Go.WideShapes Go.ChangeAt Go.RowKit
open Go.ChangeMaps (open_string shut_string)
set_option maxRecDepth 100000
set_option linter.unusedVariables false
theorem Us:laidOutB Tryz.prog=true:=by kernel_rfl
theorem ajv(os:Os)(started:os.Started)(H:Type)(enc:TypeId×an7->H):
 ReturnsInHanded {} Tryz.checked os 4 .any (λw args=>(Rows.evalScansSpec.pre enc Tryz.prog Tryz.f4 [] false w args/\laidMetH Tryz.prog tH w)/\sizedMet enc Tryz.prog Tryz.f4 (OpenSpec.ofChange Rows.evalScansSpec) false w args)
  (Rows.evalScansSpec.post enc Tryz.prog Tryz.f4 false true false false):=by
 refine returnsInHanded_of_change_and (C:=Tryz.checked) (X:=λw _=>laidMetH Tryz.prog tH w) (λ_ _ _ hh h=>h.of_heap hh) acT started (by kernel_rfl) Tryz.func4
  (abu (enc:=enc) (os:=os) false #[.slice none 0 0] 8 (by kernel_rfl) (by kernel_rfl) (by kernel_rfl)) ?_
 intro W base args ds gs before VH hW _ xU hL _;have wI:∀(j:Nat) t v,Tryz.f4.params[j]?=some t->args[j]?=some v->Value.okWide Tryz.prog W .any base t v:=VH;have hW':=hW;obtain⟨p,q,Zj,hV,rfl,hfz,j5⟩:=hW;have hA:DataW.TrodAll enc Tryz.prog W 0 (λ_=>true) true Tryz.f4.params.toList args.toList ds p:=Zj;rw[Tryz.params4]at hA wI;obtain⟨v0,vs0,d0,ds0,p0,q0,rG,rfl,rfl,h0,r0⟩:=trodAll_cons hA;obtain⟨rfl,rfl,rfl⟩:=trodAll_nil r0;obtain rfl:args= #[v0]:=by cases args;simp_all
 obtain⟨rfl,rfl⟩:=trodVars_none hV;have wt0:∀n∈d0.weights Tryz.prog 36,n<=reachBytes:=λn hn=>of_decide_eq_true (anF.1 xU n (DataW.weights_mem_each (j:=0) (t:=36) (d:=d0) (by rw[Tryz.params4];rfl) rfl n hn));have lt0:∀x∈p0,x.block<W.heap.size:=by obtain⟨m,hm⟩:=h0;exact DataW.trod_lt m _ _ _ hm
 obtain⟨b0,l0,c0,rfl⟩:=okWide_slice Tryz.underlying36 (wI 0 36 v0 rfl rfl);obtain⟨x0,s0,e0⟩:=agI afBq (by decide) wt0 h0;obtain⟨a0,rfl,w0⟩:=agz s0;clear Zj VH;refine(ah9 (ajA a0 w0) (ajw hL) _ rfl λi u c hu hc=> ?_).mono λe W' ⟨he,YY⟩=> ?_
 ·match i with
  |0=>cases hu;cases hc;exact adG rfl e0
  |i+1=>simp at hu
 ·subst he;exact⟨_,rfl,_,_,_,[],_,[],hW',trodAll_mk1 (shut_bool Tryz.underlying4 _),(trodAll_cons_mk (Below.trod Us (by kernel_rfl) (of_decide_eq_true (by kernel_rfl)) h0 YY lt0) trodAll_mk0),rfl,YY.frame _,λh=>by cases h⟩
end Go.Proofs.YtpeecnpmcbnahaaGreatDoor
