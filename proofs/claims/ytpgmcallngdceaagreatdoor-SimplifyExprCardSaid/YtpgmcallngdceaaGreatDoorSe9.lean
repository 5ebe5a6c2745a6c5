/-
  Part 9 of the proof: Rnd.
-/
import Derived.Test.YtpgmcallngdceaaGreatDoorSe8
import Derived.WalkKit
import Derived.Scope
import Derived.WalkMore
import Derived.LoopN
namespace Go.Proofs.YtpgmcallngdceaaGreatDoor
open Go.RowKit
set_option maxRecDepth 100000
set_option maxHeartbeats 0
theorem rc1{a b how:Int}{neg:Bool}(h:a.tmod b=0):fG a b neg how=true:=by simp [fG,h]
theorem rc2{a b how:Int}{neg:Bool}(h:(a.tmod b==0)=true∨(how==3)=true):fG a b neg how=true:=by
 unfold fG;rcases h with h|h<;>simp [h]
theorem rc3{a b how:Int}{neg:Bool}(h1:how=1)(h:(!neg)=true):fG a b neg how=true:=by simp [fG,h1,h]
theorem rc5{a b how:Int}{neg:Bool}(h0:(a.tmod b==0)=false∧(how==3)=false)(h1:how=1)(h:(!neg)=false):fG a b neg how=false:=by
 unfold fG;simp only[h0.1,h,h1];rfl
theorem rc6{a b how:Int}{neg:Bool}(h1:how=2)(h:neg=true):fG a b neg how=true:=by simp [fG,h1,h]
theorem rc7{a b how:Int}{neg:Bool}(h0:(a.tmod b==0)=false∧(how==3)=false)(h1:how=2)(h:neg=false):fG a b neg how=false:=by
 unfold fG;simp only[h0.1,h,h1];rfl
theorem rc8{a b how:Int}{neg:Bool}(h1:how=4)(h2:IntKind.u64.wrap (2*a.tmod b)=b)(h3:((IntKind.u64.wrap (a.tdiv b)).tmod 2==0)=true):fG a b neg how=true:=by
 unfold fG;simp only[h1,h3,beq_iff_eq.2 h2];simp
theorem Yc{a b how:Int}{neg:Bool}(h0:(a.tmod b==0)=false∧(how==3)=false)(h1:how=4)(h2:b≤IntKind.u64.wrap (2*a.tmod b))(h3:((IntKind.u64.wrap (a.tdiv b)).tmod 2==0)=false):fG a b neg how=false:=by
 unfold fG;simp only[h0.1,h1,h3,akX (Int.not_lt.2 h2)];simp
theorem YN{a b how:Int}{neg:Bool}(h0:(a.tmod b==0)=false∧(how==3)=false)(h1:how=4)(h2:b≤IntKind.u64.wrap (2*a.tmod b))(h3:¬IntKind.u64.wrap (2*a.tmod b)=b):fG a b neg how=false:=by
 unfold fG;simp only[h0.1,h1,beq_false_of_ne h3,akX (Int.not_lt.2 h2)];simp
theorem adZ{a b how:Int}{neg:Bool}(h1:how=4)(h2:IntKind.u64.wrap (2*a.tmod b)<b):fG a b neg how=true:=by
 unfold fG;simp only[h1,akW h2];simp
theorem ab0{a b how:Int}{neg:Bool}(h0:(a.tmod b==0)=false∧(how==3)=false)(h1:¬how=1)(h2:¬how=2)(h3:¬how=4):fG a b neg how=false:=by
 unfold fG;simp only[h0.1,h0.2,beq_false_of_ne h1,beq_false_of_ne h2,beq_false_of_ne h3];rfl
theorem ze{a b how:Int}{neg:Bool}{w w':ak8}(h:fG a b neg how=true)(hw:w=w'):Ending.returned (Value.int .u64 (IntKind.u64.wrap (a.tdiv b)))=Ending.returned (Value.int .u64 (rQ a b neg how))∧w=w':=by
 unfold rQ;rw[h];exact⟨rfl,hw⟩
theorem EZ{a b how:Int}{neg:Bool}{w w':ak8}(h:fG a b neg how=false)(hw:w=w'):Ending.returned (Value.int .u64 (IntKind.u64.wrap (IntKind.u64.wrap (a.tdiv b)+1)))=Ending.returned (Value.int .u64 (rQ a b neg how))∧w=w':=by
 unfold rQ;rw[h];exact⟨rfl,hw⟩
theorem Z2(x y:ak7)(w:ak8):(Instr.index 306 (.agg #[x,y]) (.int .i64 0)).run Tryz.prog w= .ok x w:=by
 simp [Instr.index,run_underlying Tryz.underlying306,asIntOf,go_sem]
theorem adb(x y:ak7)(w:ak8):(Instr.index 306 (.agg #[x,y]) (.int .i64 1)).run Tryz.prog w= .ok y w:=by
 simp [Instr.index,run_underlying Tryz.underlying306,asIntOf,go_sem]
theorem aav(a b how:Int)(neg:Bool)(w:ak8)(hb:b≠0):Calls Tryz.prog 335 #[.int .u64 a, .int .u64 b, .bool neg, .int .i64 how] w fun e w'=>e= .returned (.int .u64 (rQ a b neg how))∧w'=w.drew:=by
 go_enter Tryz.func335,Tryz.ntmps335
 go_wp2
 go_step3
 have eW:(b==0)=false:=beq_eq_false_iff_ne.2 hb
 go_wp2
 go_region
 go_wp2
 go_step3
 go_wp2
 refine wp_loop_rounds 3 ?_;unfold Code.rounds
 go_wp2
 rw[Z2];simp only[Result.andThen];rw[Oper.upon_value]
 go_wp2
 all_goals try (rw[rounds_succ];go_wp2;rw[adb];simp only[Result.andThen];rw[Oper.upon_value];go_wp2)
 all_goals try (rw[rounds_succ];go_wp2)
 all_goals try (rw[Exit.noGoto_ret])
 all_goals try go_ret
 all_goals first
  |exact absurd ((show(!neg)=true by assumption).symm.trans (show(!neg)=false by assumption)) (by decide)
  |exact ze (rc1 (by assumption)) rfl
  |exact ze (rc2 (by assumption)) rfl
  |exact ze (rc3 (by assumption) (by assumption)) rfl
  |exact EZ (rc5 (by assumption) (by assumption) (by assumption)) rfl
  |exact ze (rc6 (by assumption) (by assumption)) rfl
  |exact EZ (rc7 (by assumption) (by assumption) (by assumption)) rfl
  |exact ze (rc8 (by assumption) (by assumption) (by assumption)) rfl
  |exact EZ (Yc (by assumption) (by assumption) (by assumption) (by assumption)) rfl
  |exact EZ (YN (by assumption) (by assumption) (by assumption) (by assumption)) rfl
  |exact ze (adZ (by assumption) (by assumption)) rfl
  |exact EZ (ab0 (by assumption) (by assumption) (by assumption) (by assumption)) rfl
theorem ag1(a b:Int)(neg:Bool)(how:Int)(r:Int)(hF:(bif b !=(0:Int)then some (rQ a b neg how)else none)=some r):aG Tryz.prog 335 [(.d (.v (.int .u64 a))),(.d (.v (.int .u64 b))),(aB neg),(aw how)] (·=(.d (.v (.int .u64 r)))):=by
 have hb:b≠0:=by
  rintro rfl;cases hF
 rw[bne_iff_ne.2 hb]at hF;cases hF
 refine⟨by kernel_rfl,fun G w vs hi hl hr=> ?_⟩;have h0:∃x y z u,vs= #[x,y,z,u]:=⟨vs[0]'(by rw[hl];exact akn rfl),vs[1]'(by rw[hl];exact akn rfl),vs[2]'(by rw[hl];exact akn rfl),vs[3]'(by rw[hl];exact akn rfl),Array.ext hl fun i h1 h2=>by
  match i,h2 with
  |0,_=>rfl
  |1,_=>rfl
  |2,_=>rfl
  |3,_=>rfl⟩
 obtain⟨x,y,z,u,rfl⟩:=h0;have e0:=(hr 0 x _ rfl rfl).val;have e1:=(hr 1 y _ rfl rfl).val;have e2:=(hr 2 z _ rfl rfl).val;have e3:=(hr 3 u _ rfl rfl).val;subst e0;subst e1;subst e2;subst e3;refine(aav a b how neg w hb).mono fun e w' hp=> ?_;obtain⟨rfl,rfl⟩:=hp;have hd:=abw hi;exact⟨_,G,_,_,rfl,hd.1,akq _,hd.2, .d (.v _),rfl,rfl⟩
end Go.Proofs.YtpgmcallngdceaaGreatDoor
