/-
  Part 10 of the proof: Rnd.
-/
import Derived.Test.YtnnapanbbbcalaaGreatDoorPr9
import Derived.WalkKit
import Derived.Scope
import Derived.WalkMore
import Derived.LoopN
namespace Go.Proofs.YtnnapanbbbcalaaGreatDoor
open Go.RowKit
set_option maxRecDepth 100000
set_option maxHeartbeats 0
theorem rc1{a b how:Int}{neg:Bool}(h:a.tmod b=0):ib a b neg how=true:=by simp [ib,h]
theorem rc2{a b how:Int}{neg:Bool}(h:(a.tmod b==0)=true\/(how==3)=true):ib a b neg how=true:=by
 unfold ib;rcases h with h|h<;>simp [h]
theorem rc3{a b how:Int}{neg:Bool}(J:how=1)(h:(!neg)=true):ib a b neg how=true:=by simp [ib,J,h]
theorem rc5{a b how:Int}{neg:Bool}(h0:(a.tmod b==0)=false/\(how==3)=false)(J:how=1)(h:(!neg)=false):ib a b neg how=false:=by
 unfold ib;simp only[h0.1,h,J];rfl
theorem rc6{a b how:Int}{neg:Bool}(J:how=2)(h:neg=true):ib a b neg how=true:=by simp [ib,J,h]
theorem rc7{a b how:Int}{neg:Bool}(h0:(a.tmod b==0)=false/\(how==3)=false)(J:how=2)(h:neg=false):ib a b neg how=false:=by
 unfold ib;simp only[h0.1,h,J];rfl
theorem rc8{a b how:Int}{neg:Bool}(J:how=4)(h2:IntKind.u64.wrap (2*a.tmod b)=b)(h3:((IntKind.u64.wrap (a.tdiv b)).tmod 2==0)=true):ib a b neg how=true:=by
 unfold ib;simp only[J,h3,beq_iff_eq.2 h2];simp
theorem YL{a b how:Int}{neg:Bool}(h0:(a.tmod b==0)=false/\(how==3)=false)(J:how=4)(h2:b<=IntKind.u64.wrap (2*a.tmod b))(h3:((IntKind.u64.wrap (a.tdiv b)).tmod 2==0)=false):ib a b neg how=false:=by
 unfold ib;simp only[h0.1,J,h3,akY (Int.not_lt.2 h2)];simp
theorem ag9{a b how:Int}{neg:Bool}(h0:(a.tmod b==0)=false/\(how==3)=false)(J:how=4)(h2:b<=IntKind.u64.wrap (2*a.tmod b))(h3:¬IntKind.u64.wrap (2*a.tmod b)=b):ib a b neg how=false:=by
 unfold ib;simp only[h0.1,J,beq_false_of_ne h3,akY (Int.not_lt.2 h2)];simp
theorem abH{a b how:Int}{neg:Bool}(J:how=4)(h2:IntKind.u64.wrap (2*a.tmod b)<b):ib a b neg how=true:=by
 unfold ib;simp only[J,akX h2];simp
theorem afE{a b how:Int}{neg:Bool}(h0:(a.tmod b==0)=false/\(how==3)=false)(J:¬how=1)(h2:¬how=2)(h3:¬how=4):ib a b neg how=false:=by
 unfold ib;simp only[h0.1,h0.2,beq_false_of_ne J,beq_false_of_ne h2,beq_false_of_ne h3];rfl
theorem zX{a b how:Int}{neg:Bool}{w w':ak9}(h:ib a b neg how=true)(hw:w=w'):Ending.returned (Value.int .u64 (IntKind.u64.wrap (a.tdiv b)))=Ending.returned (Value.int .u64 (uW a b neg how))/\w=w':=by
 unfold uW;rw[h];exact⟨rfl,hw⟩
theorem BW{a b how:Int}{neg:Bool}{w w':ak9}(h:ib a b neg how=false)(hw:w=w'):Ending.returned (Value.int .u64 (IntKind.u64.wrap (IntKind.u64.wrap (a.tdiv b)+1)))=Ending.returned (Value.int .u64 (uW a b neg how))/\w=w':=by
 unfold uW;rw[h];exact⟨rfl,hw⟩
theorem abx(x y:ak8)(w:ak9):(Instr.index 311 (.agg #[x,y]) (.int .i64 0)).run Tryz.prog w= .ok x w:=by
 simp [Instr.index,run_underlying Tryz.underlying311,asIntOf,go_sem]
theorem Yr(x y:ak8)(w:ak9):(Instr.index 311 (.agg #[x,y]) (.int .i64 1)).run Tryz.prog w= .ok y w:=by
 simp [Instr.index,run_underlying Tryz.underlying311,asIntOf,go_sem]
theorem Zo(a b how:Int)(neg:Bool)(w:ak9)(hb:b≠0):Calls Tryz.prog 320 #[.int .u64 a, .int .u64 b, .bool neg, .int .i64 how] w λe w'=>e= .returned (.int .u64 (uW a b neg how))/\w'=w.drew:=by
 go_enter Tryz.func320,Tryz.ntmps320
 go_wp2
 go_step3
 have gV:(b==0)=false:=beq_eq_false_iff_ne.2 hb
 go_wp2
 go_region
 go_wp2
 go_step3
 go_wp2
 refine wp_loop_rounds 3 ?_;unfold Code.rounds
 go_wp2
 rw[abx];simp only[Result.andThen];rw[Oper.upon_value]
 go_wp2
 all_goals try (rw[rounds_succ];go_wp2;rw[Yr];simp only[Result.andThen];rw[Oper.upon_value];go_wp2)
 all_goals try (rw[rounds_succ];go_wp2)
 all_goals try (rw[Exit.noGoto_ret])
 all_goals try go_ret
 all_goals first
  |exact absurd ((show(!neg)=true by assumption).symm.trans (show(!neg)=false by assumption)) (by decide)
  |exact zX (rc1 (by assumption)) rfl
  |exact zX (rc2 (by assumption)) rfl
  |exact zX (rc3 (by assumption) (by assumption)) rfl
  |exact BW (rc5 (by assumption) (by assumption) (by assumption)) rfl
  |exact zX (rc6 (by assumption) (by assumption)) rfl
  |exact BW (rc7 (by assumption) (by assumption) (by assumption)) rfl
  |exact zX (rc8 (by assumption) (by assumption) (by assumption)) rfl
  |exact BW (YL (by assumption) (by assumption) (by assumption) (by assumption)) rfl
  |exact BW (ag9 (by assumption) (by assumption) (by assumption) (by assumption)) rfl
  |exact zX (abH (by assumption) (by assumption)) rfl
  |exact BW (afE (by assumption) (by assumption) (by assumption) (by assumption)) rfl
theorem agY(a b:Int)(neg:Bool)(how:Int)(r:Int)(hF:(bif b !=0then some (uW a b neg how)else none)=some r):fX Tryz.prog 320 [(.d (.v (.int .u64 a))),(.d (.v (.int .u64 b))),(ax neg),(aq how)] (·=(.d (.v (.int .u64 r)))):=by
 have hb:b≠0:=by
  rintro rfl;cases hF
 rw[bne_iff_ne.2 hb]at hF;cases hF
 refine⟨by kernel_rfl,λG w vs hi hl hr=> ?_⟩;have h0:∃x y z u,vs= #[x,y,z,u]:=⟨vs[0]'(by rw[hl];exact ako rfl),vs[1]'(by rw[hl];exact ako rfl),vs[2]'(by rw[hl];exact ako rfl),vs[3]'(by rw[hl];exact ako rfl),Array.ext hl λi J h2=>by
  match i,h2 with
  |0,_=>rfl
  |1,_=>rfl
  |2,_=>rfl
  |3,_=>rfl⟩
 obtain⟨x,y,z,u,rfl⟩:=h0;have e0:=(hr 0 x _ rfl rfl).val;have e1:=(hr 1 y _ rfl rfl).val;have e2:=(hr 2 z _ rfl rfl).val;have e3:=(hr 3 u _ rfl rfl).val;subst e0;subst e1;subst e2;subst e3;refine(Zo a b how neg w hb).mono λe w' hp=> ?_;obtain⟨rfl,rfl⟩:=hp;have hd:=Sk hi;exact⟨_,G,_,_,rfl,hd.1,akr _,hd.2, .d (.v _),rfl,rfl⟩
end Go.Proofs.YtnnapanbbbcalaaGreatDoor
