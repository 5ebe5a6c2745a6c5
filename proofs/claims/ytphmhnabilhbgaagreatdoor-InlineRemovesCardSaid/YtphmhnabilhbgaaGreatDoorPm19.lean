/-
  The statement InlineRemoves: for every input the law answers true, and each argument reads afterwards as it read before; the listed tables hold what the program's text lays in them (the card ties that). No other condition.
-/
import Derived.Test.YtphmhnabilhbgaaGreatDoorPm18
import Derived.Test.YtphmhnabilhbgaaGreatDoorCards
import Derived.Test.YtphmhnabilhbgaaGreatDoorTie
import Derived.SevenTiedAt
import Derived.Carry
namespace Go.Proofs.YtphmhnabilhbgaaGreatDoor
open Go.ChangeShapes Go.WideShapes Go.ChangeAt Go.RowKit
open Go.ChangeMaps (open_string shut_string)
set_option maxRecDepth 100000
set_option linter.unusedVariables false
theorem Z8:laidOutB Tryz.prog=true:=by kernel_rfl
theorem X4(os:Os)(started:os.Started)(H:Type)(enc:TypeId×agY→H):
 ReturnsInHanded {} Tryz.checked os 5 .any (fun w args=>(Rows.inlineRemovesSpec.pre enc Tryz.prog Tryz.f5 [] false w args∧laidMetH Tryz.prog rY w)∧sizedMet enc Tryz.prog Tryz.f5 (OpenSpec.ofChange Rows.inlineRemovesSpec) false w args)
  (Rows.inlineRemovesSpec.post enc Tryz.prog Tryz.f5 false true false false):=by
 refine returnsInHanded_of_change_and (C:=Tryz.checked) (X:=fun w _=>laidMetH Tryz.prog rY w) (fun _ _ _ hh h=>h.of_heap hh) YJ started (by kernel_rfl) Tryz.func5
  (X0 (enc:=enc) (os:=os) false #[.agg #[.slice none 0 0, .slice none 0 0, .slice none 0 0, .slice none 0 0, .slice none 0 0], .string ⟨#[]⟩] 8 (by kernel_rfl) (by kernel_rfl) (by kernel_rfl)) ?_
 intro W base args ds gs before SS hW _ ub hL _;have mY:∀(j:Nat) t v,Tryz.f5.params[j]?=some t→args[j]?=some v→Value.okWide Tryz.prog W .any base t v:=SS;have hW':=hW;obtain⟨p,q,Q0,hV,rfl,hfz,jw⟩:=hW;have hA:DataW.TrodAll enc Tryz.prog W 0 (fun _=>true) true Tryz.f5.params.toList args.toList ds p:=Q0;rw[Tryz.params5]at hA mY;obtain⟨v0,vs0,d0,ds0,p0,q0,tZ,rfl,rfl,h0,r0⟩:=trodAll_cons hA;obtain⟨v1,vs1,d1,ds1,p1,q1,rfl,rfl,rfl,h1,r1⟩:=trodAll_cons r0;obtain⟨rfl,rfl,rfl⟩:=trodAll_nil r1;obtain rfl:args= #[v0,v1]:=by cases args;simp_all
 obtain⟨rfl,rfl⟩:=trodVars_none hV;have Yc:∀n∈d0.weights Tryz.prog 27,n≤reachBytes:=fun n hn=>of_decide_eq_true (agw.1 ub n (DataW.weights_mem_each (j:=0) (t:=27) (d:=d0) (by rw[Tryz.params5];rfl) rfl n hn));have Zf:∀x∈p0,x.block<W.heap.size:=by obtain⟨m,hm⟩:=h0;exact DataW.trod_lt m _ _ _ hm
 obtain⟨c0,rfl⟩:=afB Tryz.underlying27 (mY 0 27 v0 rfl rfl);obtain⟨x0,s0,e0⟩:=Y2 afj (by decide) Yc h0;obtain⟨a0,rfl,w0⟩:=Xm s0;obtain⟨a1,rfl,rfl,rfl,w1⟩:=open_string Tryz.underlying9 (mY 1 9 v1 rfl rfl) h1;clear Q0 SS;refine(Zh (ac1 a0 a1 w0 w1) (adM hL) _ rfl fun i u c hu hc=> ?_).mono fun e W' ⟨he,M8⟩=> ?_
 ·match i with
  |0=>cases hu;cases hc;exact ae6 rfl e0
  |1=>cases hu;cases hc;exact .d (.v _)
  |i+2=>simp at hu
 ·subst he;exact⟨_,rfl,_,_,_,[],_,[],hW',trodAll_mk1 (shut_bool Tryz.underlying4 _),(trodAll_cons_mk (Below.trod Z8 (by kernel_rfl) (of_decide_eq_true (by kernel_rfl)) h0 M8 Zf) (trodAll_cons_mk (shut_string Tryz.underlying9 w1) trodAll_mk0)),rfl,M8.frame _,fun h=>by cases h⟩
theorem VF:Rows.InlineRemovesSaid:=
 OpenClaim.holds_of_wide 5 Tryz.f5 rfl rfl rfl rfl rfl rfl rfl ⟨rfl,rfl,rfl,rfl,rfl⟩ rfl rfl rfl rfl rfl (by kernel_rfl) Tryz.func5 (by kernel_rfl)
  (of_decide_eq_true (by kernel_rfl)) (by unfold Func.isWrapper;first|(rw[if_pos (by decide+kernel)];kernel_rfl)|(rw[if_neg (by decide+kernel)];exact⟨rfl,rfl⟩))
  (fun os started H enc _=>X4 os started H enc)
theorem inlineRemoves_proved:Rows.InlineRemovesCardSaid:=
 Claim7.holds_tied_plain_at .later [] [.listed, .data] true (true, "b635f33b1122466a4c56001e551bebf97937cbfc09d11db6209f6c43253ad8ed") false
  VF (fun _ h=>by cases h) (by kernel_rfl) (fun _ h=>by cases h) inlineRemoves_row_tie rfl ⟨rfl,rfl⟩ (by kernel_rfl) rfl
  (fun f fn hf Y0=>by
   obtain rfl:f=5:=(agp ((show Tryz.prog.funcNamed "brocade/brocadelaw24.InlineRemoves" =some 5 by kernel_rfl).symm.trans hf)).symm;obtain rfl:fn=Tryz.f5:=(agp (Tryz.func5.symm.trans Y0)).symm;refine⟨by kernel_rfl,fun j t ht=> ?_⟩;rw[Tryz.params5]at ht
   match j with
   |0=>cases ht;exact(show Tryz.prog.wantsStandIn 27=false by kernel_rfl)
   |1=>cases ht;exact(show Tryz.prog.wantsStandIn 9=false by kernel_rfl)
   |j+2=>simp at ht)
  (by kernel_rfl)
#print axioms inlineRemoves_proved
end Go.Proofs.YtphmhnabilhbgaaGreatDoor
