/-
  The statement InlineAll: for every input the law answers true, and each argument reads afterwards as it read before; the listed tables hold what the program's text lays in them (the card ties that). No other condition.
-/
import Derived.Test.YtphmhnabilhbgaaGreatDoorPk18
import Derived.Test.YtphmhnabilhbgaaGreatDoorCards
import Derived.Test.YtphmhnabilhbgaaGreatDoorTie
import Derived.SevenTiedAt
import Derived.Carry
namespace Go.Proofs.YtphmhnabilhbgaaGreatDoor
open Go.ChangeShapes Go.WideShapes Go.ChangeAt Go.RowKit
open Go.ChangeMaps (open_string shut_string)
set_option maxRecDepth 100000
set_option linter.unusedVariables false
theorem abY:laidOutB Tryz.prog=true:=by kernel_rfl
theorem aeP(os:Os)(started:os.Started)(H:Type)(enc:TypeId×aiI→H):
 ReturnsInHanded {} Tryz.checked os 4 .any (fun w args=>(Rows.inlineAllSpec.pre enc Tryz.prog Tryz.f4 [] false w args∧laidMetH Tryz.prog tE w)∧sizedMet enc Tryz.prog Tryz.f4 (OpenSpec.ofChange Rows.inlineAllSpec) false w args)
  (Rows.inlineAllSpec.post enc Tryz.prog Tryz.f4 false true false false):=by
 refine returnsInHanded_of_change_and (C:=Tryz.checked) (X:=fun w _=>laidMetH Tryz.prog tE w) (fun _ _ _ hh h=>h.of_heap hh) aft started (by kernel_rfl) Tryz.func4
  (aax (enc:=enc) (os:=os) false #[.agg #[.slice none 0 0, .slice none 0 0, .slice none 0 0, .slice none 0 0, .slice none 0 0], .int .i64 0] 8 (by kernel_rfl) (by kernel_rfl) (by kernel_rfl)) ?_
 intro W base args ds gs before QS hW _ uU hL _;have n8:∀(j:Nat) t v,Tryz.f4.params[j]?=some t→args[j]?=some v→Value.okWide Tryz.prog W .any base t v:=QS;have hW':=hW;obtain⟨p,q,SE,hV,rfl,hfz,j5⟩:=hW;have hA:DataW.TrodAll enc Tryz.prog W 0 (fun _=>true) true Tryz.f4.params.toList args.toList ds p:=SE;rw[Tryz.params4]at hA n8;obtain⟨v0,vs0,d0,ds0,p0,q0,vF,rfl,rfl,h0,r0⟩:=trodAll_cons hA;obtain⟨v1,vs1,d1,ds1,p1,q1,rfl,rfl,rfl,h1,r1⟩:=trodAll_cons r0;obtain⟨rfl,rfl,rfl⟩:=trodAll_nil r1;obtain rfl:args= #[v0,v1]:=by cases args;simp_all
 obtain⟨rfl,rfl⟩:=trodVars_none hV;have wt0:∀n∈d0.weights Tryz.prog 27,n≤reachBytes:=fun n hn=>of_decide_eq_true (aif.1 uU n (DataW.weights_mem_each (j:=0) (t:=27) (d:=d0) (by rw[Tryz.params4];rfl) rfl n hn));have lt0:∀x∈p0,x.block<W.heap.size:=by obtain⟨m,hm⟩:=h0;exact DataW.trod_lt m _ _ _ hm
 obtain⟨c0,rfl⟩:=ahy Tryz.underlying27 (n8 0 27 v0 rfl rfl);obtain⟨x0,s0,e0⟩:=afZ Xx (by decide) wt0 h0;obtain⟨a0,rfl,w0⟩:=afS s0;obtain⟨a1,rfl,rfl,rfl,w1⟩:=open_int Tryz.underlying3 (n8 1 3 v1 rfl rfl) h1;clear SE QS;refine(ag1 (aaR a0 a1 w0 w1) (X4 hL) _ rfl fun i u c hu hc=> ?_).mono fun e W' ⟨he,U6⟩=> ?_
 ·match i with
  |0=>cases hu;cases hc;exact adE rfl e0
  |1=>cases hu;cases hc;exact .d (.v _)
  |i+2=>simp at hu
 ·subst he;exact⟨_,rfl,_,_,_,[],_,[],hW',trodAll_mk1 (shut_bool Tryz.underlying4 _),(trodAll_cons_mk (Below.trod abY (by kernel_rfl) (of_decide_eq_true (by kernel_rfl)) h0 U6 lt0) (trodAll_cons_mk (shut_int Tryz.underlying3 w1) trodAll_mk0)),rfl,U6.frame _,fun h=>by cases h⟩
theorem Wz:Rows.InlineAllSaid:=
 OpenClaim.holds_of_wide 4 Tryz.f4 rfl rfl rfl rfl rfl rfl rfl ⟨rfl,rfl,rfl,rfl,rfl⟩ rfl rfl rfl rfl rfl (by kernel_rfl) Tryz.func4 (by kernel_rfl)
  (of_decide_eq_true (by kernel_rfl)) (by unfold Func.isWrapper;first|(rw[if_pos (by decide+kernel)];kernel_rfl)|(rw[if_neg (by decide+kernel)];exact⟨rfl,rfl⟩))
  (fun os started H enc _=>aeP os started H enc)
theorem inlineAll_proved:Rows.InlineAllCardSaid:=
 Claim7.holds_tied_plain_at .later [] [.listed, .data] true (true, "b635f33b1122466a4c56001e551bebf97937cbfc09d11db6209f6c43253ad8ed") false
  Wz (fun _ h=>by cases h) (by kernel_rfl) (fun _ h=>by cases h) inlineAll_row_tie rfl ⟨rfl,rfl⟩ (by kernel_rfl) rfl
  (fun f fn hf hfn=>by
   obtain rfl:f=4:=(ah8 ((show Tryz.prog.funcNamed "brocade/brocadelaw24.InlineAll" =some 4 by kernel_rfl).symm.trans hf)).symm;obtain rfl:fn=Tryz.f4:=(ah8 (Tryz.func4.symm.trans hfn)).symm;refine⟨by kernel_rfl,fun j t ht=> ?_⟩;rw[Tryz.params4]at ht
   match j with
   |0=>cases ht;exact(show Tryz.prog.wantsStandIn 27=false by kernel_rfl)
   |1=>cases ht;exact(show Tryz.prog.wantsStandIn 3=false by kernel_rfl)
   |j+2=>simp at ht)
  (by kernel_rfl)
#print axioms inlineAll_proved
end Go.Proofs.YtphmhnabilhbgaaGreatDoor
