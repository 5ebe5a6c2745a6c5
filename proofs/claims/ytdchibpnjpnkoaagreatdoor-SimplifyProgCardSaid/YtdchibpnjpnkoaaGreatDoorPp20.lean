/-
  Part 20 of the proof: SmProgCarda.
-/
import Derived.Test.YtdchibpnjpnkoaaGreatDoorPp19
import Derived.Test.YtdchibpnjpnkoaaGreatDoorCards
import Derived.Test.YtdchibpnjpnkoaaGreatDoorTie
import Derived.SevenTiedAt
import Derived.Carry
namespace Go.Proofs.YtdchibpnjpnkoaaGreatDoor
open Go.ChangeShapes Go.WideShapes Go.ChangeAt Go.RowKit
open Go.ChangeMaps (open_string shut_string)
set_option maxRecDepth 100000
set_option linter.unusedVariables false
theorem UU:laidOutB Tryz.prog=true:=by kernel_rfl
theorem aiW(os:Os)(started:os.Started)(H:Type)(enc:TypeId×asr->H):
 ReturnsInHanded {} Tryz.checked os 3 .any (λw args=>(Rows.simplifyProgSpec.pre enc Tryz.prog Tryz.f3 [] false w args/\laidMetH Tryz.prog ug w)/\sizedMet enc Tryz.prog Tryz.f3 (OpenSpec.ofChange Rows.simplifyProgSpec) false w args)
  (Rows.simplifyProgSpec.post enc Tryz.prog Tryz.f3 false true false false):=by
 refine returnsInHanded_of_change_and (C:=Tryz.checked) (X:=λw _=>laidMetH Tryz.prog ug w) (λ_ _ _ hh h=>h.of_heap hh) alY started (by kernel_rfl) Tryz.func3
  (apB (enc:=enc) (os:=os) false #[.agg #[.slice none 0 0, .slice none 0 0, .slice none 0 0, .slice none 0 0, .slice none 0 0]] 8 (by kernel_rfl) (by kernel_rfl) (by kernel_rfl)) ?_
 intro W base args ds gs before ab3 hW _ w7 hL _;have mU:∀(j:Nat) t v,Tryz.f3.params[j]?=some t->args[j]?=some v->Value.okWide Tryz.prog W .any base t v:=ab3;have hW':=hW;obtain⟨p,q,Vn,hV,rfl,hfz,lD⟩:=hW;have hA:DataW.TrodAll enc Tryz.prog W 0 (λ_=>true) true Tryz.f3.params.toList args.toList ds p:=Vn;rw[Tryz.params3]at hA mU;obtain⟨v0,vs0,d0,ds0,p0,q0,xE,rfl,rfl,h0,r0⟩:=trodAll_cons hA;obtain⟨rfl,rfl,rfl⟩:=trodAll_nil r0;obtain rfl:args= #[v0]:=by cases args;simp_all
 obtain⟨rfl,rfl⟩:=trodVars_none hV;have wt0:∀n∈d0.weights Tryz.prog 27,n<=reachBytes:=λn hn=>of_decide_eq_true (arY.1 w7 n (DataW.weights_mem_each (j:=0) (t:=27) (d:=d0) (by rw[Tryz.params3];rfl) rfl n hn));have lt0:∀x∈p0,x.block<W.heap.size:=by obtain⟨m,hm⟩:=h0;exact DataW.trod_lt m _ _ _ hm
 obtain⟨c0,rfl⟩:=arh Tryz.underlying27 (mU 0 27 v0 rfl rfl);obtain⟨x0,s0,e0⟩:=ait akb (by decide) wt0 h0;obtain⟨a0,rfl,w0⟩:=aiw s0;clear Vn ab3;refine(alq (aiF a0 w0) (ams hL) _ rfl λi u c hu hc=> ?_).mono λe W' ⟨he,V0⟩=> ?_
 ·match i with
  |0=>cases hu;cases hc;exact alx rfl e0
  |i+1=>simp at hu
 ·subst he;exact⟨_,rfl,_,_,_,[],_,[],hW',trodAll_mk1 (shut_bool Tryz.underlying4 _),(trodAll_cons_mk (Below.trod UU (by kernel_rfl) (of_decide_eq_true (by kernel_rfl)) h0 V0 lt0) trodAll_mk0),rfl,V0.frame _,λh=>by cases h⟩
end Go.Proofs.YtdchibpnjpnkoaaGreatDoor
