/-
  Part 10 of the proof: Rnd.
-/
import Derived.Test.YtpeecnpmcbnahaaGreatDoorPr9
import Derived.WalkKit
import Derived.Scope
import Derived.WalkMore
import Derived.LoopN
namespace Go.Proofs.YtpeecnpmcbnahaaGreatDoor
open Go.RowKit
set_option maxRecDepth 100000
set_option maxHeartbeats 0
theorem rc1{a b how:Int}{neg:Bool}(h:a.tmod b=0):ic a b neg how=true:=by simp [ic,h]
theorem rc2{a b how:Int}{neg:Bool}(h:(a.tmod b==0)=true\/(how==3)=true):ic a b neg how=true:=by
 unfold ic;rcases h with h|h<;>simp [h]
theorem rc3{a b how:Int}{neg:Bool}(J:how=1)(h:(!neg)=true):ic a b neg how=true:=by simp [ic,J,h]
theorem rc5{a b how:Int}{neg:Bool}(h0:(a.tmod b==0)=false/\(how==3)=false)(J:how=1)(h:(!neg)=false):ic a b neg how=false:=by
 unfold ic;simp only[h0.1,h,J];rfl
theorem rc6{a b how:Int}{neg:Bool}(J:how=2)(h:neg=true):ic a b neg how=true:=by simp [ic,J,h]
theorem rc7{a b how:Int}{neg:Bool}(h0:(a.tmod b==0)=false/\(how==3)=false)(J:how=2)(h:neg=false):ic a b neg how=false:=by
 unfold ic;simp only[h0.1,h,J];rfl
theorem rc8{a b how:Int}{neg:Bool}(J:how=4)(h2:IntKind.u64.wrap (2*a.tmod b)=b)(h3:((IntKind.u64.wrap (a.tdiv b)).tmod 2==0)=true):ic a b neg how=true:=by
 unfold ic;simp only[J,h3,beq_iff_eq.2 h2];simp
theorem rc9{a b how:Int}{neg:Bool}(h0:(a.tmod b==0)=false/\(how==3)=false)(J:how=4)(h2:b<=IntKind.u64.wrap (2*a.tmod b))(h3:((IntKind.u64.wrap (a.tdiv b)).tmod 2==0)=false):ic a b neg how=false:=by
 unfold ic;simp only[h0.1,J,h3,anX (Int.not_lt.2 h2)];simp
theorem ack{a b how:Int}{neg:Bool}(h0:(a.tmod b==0)=false/\(how==3)=false)(J:how=4)(h2:b<=IntKind.u64.wrap (2*a.tmod b))(h3:¬IntKind.u64.wrap (2*a.tmod b)=b):ic a b neg how=false:=by
 unfold ic;simp only[h0.1,J,beq_false_of_ne h3,anX (Int.not_lt.2 h2)];simp
theorem aek{a b how:Int}{neg:Bool}(J:how=4)(h2:IntKind.u64.wrap (2*a.tmod b)<b):ic a b neg how=true:=by
 unfold ic;simp only[J,anW h2];simp
theorem agx{a b how:Int}{neg:Bool}(h0:(a.tmod b==0)=false/\(how==3)=false)(J:¬how=1)(h2:¬how=2)(h3:¬how=4):ic a b neg how=false:=by
 unfold ic;simp only[h0.1,h0.2,beq_false_of_ne J,beq_false_of_ne h2,beq_false_of_ne h3];rfl
theorem yc{a b how:Int}{neg:Bool}{w w':an8}(h:ic a b neg how=true)(hw:w=w'):Ending.returned (Value.int .u64 (IntKind.u64.wrap (a.tdiv b)))=Ending.returned (Value.int .u64 (sV a b neg how))/\w=w':=by
 unfold sV;rw[h];exact⟨rfl,hw⟩
theorem Dw{a b how:Int}{neg:Bool}{w w':an8}(h:ic a b neg how=false)(hw:w=w'):Ending.returned (Value.int .u64 (IntKind.u64.wrap (IntKind.u64.wrap (a.tdiv b)+1)))=Ending.returned (Value.int .u64 (sV a b neg how))/\w=w':=by
 unfold sV;rw[h];exact⟨rfl,hw⟩
theorem af9(x y:an7)(w:an8):(Instr.index 303 (.agg #[x,y]) (.int .i64 0)).run Tryz.prog w= .ok x w:=by
 simp [Instr.index,run_underlying Tryz.underlying303,asIntOf,go_sem]
theorem adz(x y:an7)(w:an8):(Instr.index 303 (.agg #[x,y]) (.int .i64 1)).run Tryz.prog w= .ok y w:=by
 simp [Instr.index,run_underlying Tryz.underlying303,asIntOf,go_sem]
theorem ajJ(a b how:Int)(neg:Bool)(w:an8)(hb:b≠0):Calls Tryz.prog 292 #[.int .u64 a, .int .u64 b, .bool neg, .int .i64 how] w λe w'=>e= .returned (.int .u64 (sV a b neg how))/\w'=w.drew:=by
 go_enter Tryz.func292,Tryz.ntmps292
 go_wp2
 go_step3
 have fK:(b==0)=false:=beq_eq_false_iff_ne.2 hb
 go_wp2
 go_region
 go_wp2
 go_step3
 go_wp2
 refine wp_loop_rounds 3 ?_;unfold Code.rounds
 go_wp2
 rw[af9];simp only[Result.andThen];rw[Oper.upon_value]
 go_wp2
 all_goals try (rw[rounds_succ];go_wp2;rw[adz];simp only[Result.andThen];rw[Oper.upon_value];go_wp2)
 all_goals try (rw[rounds_succ];go_wp2)
 all_goals try (rw[Exit.noGoto_ret])
 all_goals try go_ret
 all_goals first
  |exact absurd ((show(!neg)=true by assumption).symm.trans (show(!neg)=false by assumption)) (by decide)
  |exact yc (rc1 (by assumption)) rfl
  |exact yc (rc2 (by assumption)) rfl
  |exact yc (rc3 (by assumption) (by assumption)) rfl
  |exact Dw (rc5 (by assumption) (by assumption) (by assumption)) rfl
  |exact yc (rc6 (by assumption) (by assumption)) rfl
  |exact Dw (rc7 (by assumption) (by assumption) (by assumption)) rfl
  |exact yc (rc8 (by assumption) (by assumption) (by assumption)) rfl
  |exact Dw (rc9 (by assumption) (by assumption) (by assumption) (by assumption)) rfl
  |exact Dw (ack (by assumption) (by assumption) (by assumption) (by assumption)) rfl
  |exact yc (aek (by assumption) (by assumption)) rfl
  |exact Dw (agx (by assumption) (by assumption) (by assumption) (by assumption)) rfl
theorem akb(a b:Int)(neg:Bool)(how:Int)(r:Int)(hF:(bif b !=0then some (sV a b neg how)else none)=some r):fP Tryz.prog 292 [(.d (.v (.int .u64 a))),(.d (.v (.int .u64 b))),(aK neg),(aq how)] (·=(.d (.v (.int .u64 r)))):=by
 have hb:b≠0:=by
  rintro rfl;cases hF
 rw[bne_iff_ne.2 hb]at hF;cases hF
 refine⟨by kernel_rfl,λG w vs hi hl hr=> ?_⟩;have h0:∃x y z u,vs= #[x,y,z,u]:=⟨vs[0]'(by rw[hl];exact anm rfl),vs[1]'(by rw[hl];exact anm rfl),vs[2]'(by rw[hl];exact anm rfl),vs[3]'(by rw[hl];exact anm rfl),Array.ext hl λi J h2=>by
  match i,h2 with
  |0,_=>rfl
  |1,_=>rfl
  |2,_=>rfl
  |3,_=>rfl⟩
 obtain⟨x,y,z,u,rfl⟩:=h0;have e0:=(hr 0 x _ rfl rfl).val;have e1:=(hr 1 y _ rfl rfl).val;have e2:=(hr 2 z _ rfl rfl).val;have e3:=(hr 3 u _ rfl rfl).val;subst e0;subst e1;subst e2;subst e3;refine(ajJ a b how neg w hb).mono λe w' hp=> ?_;obtain⟨rfl,rfl⟩:=hp;have hd:=WZ hi;exact⟨_,G,_,_,rfl,hd.1,anp _,hd.2, .d (.v _),rfl,rfl⟩
end Go.Proofs.YtpeecnpmcbnahaaGreatDoor
