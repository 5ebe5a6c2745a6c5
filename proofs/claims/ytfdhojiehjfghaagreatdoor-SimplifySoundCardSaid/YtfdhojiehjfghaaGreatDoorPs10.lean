/-
  Part 10 of the proof: Rnd.
-/
import Derived.Test.YtfdhojiehjfghaaGreatDoorPs9
import Derived.WalkKit
import Derived.Scope
import Derived.WalkMore
import Derived.LoopN
namespace Go.Proofs.YtfdhojiehjfghaaGreatDoor
open Go.RowKit
set_option maxRecDepth 100000
set_option maxHeartbeats 0
theorem rc1{a b how:Int}{neg:Bool}(h:a.tmod b=0):gz a b neg how=true:=by simp [gz,h]
theorem rc2{a b how:Int}{neg:Bool}(h:(a.tmod b==0)=true\/(how==3)=true):gz a b neg how=true:=by
 unfold gz;rcases h with h|h<;>simp [h]
theorem rc3{a b how:Int}{neg:Bool}(h1:how=1)(h:(!neg)=true):gz a b neg how=true:=by simp [gz,h1,h]
theorem rc5{a b how:Int}{neg:Bool}(h0:(a.tmod b==0)=false/\(how==3)=false)(h1:how=1)(h:(!neg)=false):gz a b neg how=false:=by
 unfold gz;simp only[h0.1,h,h1];rfl
theorem rc6{a b how:Int}{neg:Bool}(h1:how=2)(h:neg=true):gz a b neg how=true:=by simp [gz,h1,h]
theorem rc7{a b how:Int}{neg:Bool}(h0:(a.tmod b==0)=false/\(how==3)=false)(h1:how=2)(h:neg=false):gz a b neg how=false:=by
 unfold gz;simp only[h0.1,h,h1];rfl
theorem rc8{a b how:Int}{neg:Bool}(h1:how=4)(h2:IntKind.u64.wrap (2*a.tmod b)=b)(h3:((IntKind.u64.wrap (a.tdiv b)).tmod 2==0)=true):gz a b neg how=true:=by
 unfold gz;simp only[h1,h3,beq_iff_eq.2 h2];simp
theorem rc9{a b how:Int}{neg:Bool}(h0:(a.tmod b==0)=false/\(how==3)=false)(h1:how=4)(h2:b<=IntKind.u64.wrap (2*a.tmod b))(h3:((IntKind.u64.wrap (a.tdiv b)).tmod 2==0)=false):gz a b neg how=false:=by
 unfold gz;simp only[h0.1,h1,h3,anw (Int.not_lt.2 h2)];simp
theorem ack{a b how:Int}{neg:Bool}(h0:(a.tmod b==0)=false/\(how==3)=false)(h1:how=4)(h2:b<=IntKind.u64.wrap (2*a.tmod b))(h3:¬IntKind.u64.wrap (2*a.tmod b)=b):gz a b neg how=false:=by
 unfold gz;simp only[h0.1,h1,beq_false_of_ne h3,anw (Int.not_lt.2 h2)];simp
theorem ahd{a b how:Int}{neg:Bool}(h1:how=4)(h2:IntKind.u64.wrap (2*a.tmod b)<b):gz a b neg how=true:=by
 unfold gz;simp only[h1,anv h2];simp
theorem ai5{a b how:Int}{neg:Bool}(h0:(a.tmod b==0)=false/\(how==3)=false)(h1:¬how=1)(h2:¬how=2)(h3:¬how=4):gz a b neg how=false:=by
 unfold gz;simp only[h0.1,h0.2,beq_false_of_ne h1,beq_false_of_ne h2,beq_false_of_ne h3];rfl
theorem Ao{a b how:Int}{neg:Bool}{w w':anI}(h:gz a b neg how=true)(hw:w=w'):Ending.returned (Value.int .u64 (IntKind.u64.wrap (a.tdiv b)))=Ending.returned (Value.int .u64 (sG a b neg how))/\w=w':=by
 unfold sG;rw[h];exact⟨rfl,hw⟩
theorem Fp{a b how:Int}{neg:Bool}{w w':anI}(h:gz a b neg how=false)(hw:w=w'):Ending.returned (Value.int .u64 (IntKind.u64.wrap (IntKind.u64.wrap (a.tdiv b)+1)))=Ending.returned (Value.int .u64 (sG a b neg how))/\w=w':=by
 unfold sG;rw[h];exact⟨rfl,hw⟩
theorem aeV(x y:anH)(w:anI):(Instr.index 345 (.agg #[x,y]) (.int .i64 0)).run Tryz.prog w= .ok x w:=by
 simp [Instr.index,run_underlying Tryz.underlying345,asIntOf,go_sem]
theorem aiA(x y:anH)(w:anI):(Instr.index 345 (.agg #[x,y]) (.int .i64 1)).run Tryz.prog w= .ok y w:=by
 simp [Instr.index,run_underlying Tryz.underlying345,asIntOf,go_sem]
theorem adN(a b how:Int)(neg:Bool)(w:anI)(hb:b≠0):Calls Tryz.prog 353 #[.int .u64 a, .int .u64 b, .bool neg, .int .i64 how] w λe w'=>e= .returned (.int .u64 (sG a b neg how))/\w'=w.drew:=by
 go_enter Tryz.func353,Tryz.ntmps353
 go_wp2
 go_step3
 have eI:(b==0)=false:=beq_eq_false_iff_ne.2 hb
 go_wp2
 go_region
 go_wp2
 go_step3
 go_wp2
 refine wp_loop_rounds 3 ?_;unfold Code.rounds
 go_wp2
 rw[aeV];simp only[Result.andThen];rw[Oper.upon_value]
 go_wp2
 all_goals try (rw[rounds_succ];go_wp2;rw[aiA];simp only[Result.andThen];rw[Oper.upon_value];go_wp2)
 all_goals try (rw[rounds_succ];go_wp2)
 all_goals try (rw[Exit.noGoto_ret])
 all_goals try go_ret
 all_goals first
  |exact absurd ((show(!neg)=true by assumption).symm.trans (show(!neg)=false by assumption)) (by decide)
  |exact Ao (rc1 (by assumption)) rfl
  |exact Ao (rc2 (by assumption)) rfl
  |exact Ao (rc3 (by assumption) (by assumption)) rfl
  |exact Fp (rc5 (by assumption) (by assumption) (by assumption)) rfl
  |exact Ao (rc6 (by assumption) (by assumption)) rfl
  |exact Fp (rc7 (by assumption) (by assumption) (by assumption)) rfl
  |exact Ao (rc8 (by assumption) (by assumption) (by assumption)) rfl
  |exact Fp (rc9 (by assumption) (by assumption) (by assumption) (by assumption)) rfl
  |exact Fp (ack (by assumption) (by assumption) (by assumption) (by assumption)) rfl
  |exact Ao (ahd (by assumption) (by assumption)) rfl
  |exact Fp (ai5 (by assumption) (by assumption) (by assumption) (by assumption)) rfl
theorem ZV(a b:Int)(neg:Bool)(how:Int)(r:Int)(hF:(bif b !=0then some (sG a b neg how)else none)=some r):gn Tryz.prog 353 [(.d (.v (.int .u64 a))),(.d (.v (.int .u64 b))),(aC neg),(au how)] (·=(.d (.v (.int .u64 r)))):=by
 have hb:b≠0:=by
  rintro rfl;cases hF
 rw[bne_iff_ne.2 hb]at hF;cases hF
 refine⟨by kernel_rfl,λG w vs hi hl hr=> ?_⟩;have h0:∃x y z u,vs= #[x,y,z,u]:=⟨vs[0]'(by rw[hl];exact amV rfl),vs[1]'(by rw[hl];exact amV rfl),vs[2]'(by rw[hl];exact amV rfl),vs[3]'(by rw[hl];exact amV rfl),Array.ext hl λi h1 h2=>by
  match i,h2 with
  |0,_=>rfl
  |1,_=>rfl
  |2,_=>rfl
  |3,_=>rfl⟩
 obtain⟨x,y,z,u,rfl⟩:=h0;have e0:=(hr 0 x _ rfl rfl).val;have e1:=(hr 1 y _ rfl rfl).val;have e2:=(hr 2 z _ rfl rfl).val;have e3:=(hr 3 u _ rfl rfl).val;subst e0;subst e1;subst e2;subst e3;refine(adN a b how neg w hb).mono λe w' hp=> ?_;obtain⟨rfl,rfl⟩:=hp;have hd:=Sn hi;exact⟨_,G,_,_,rfl,hd.1,amY _,hd.2, .d (.v _),rfl,rfl⟩
end Go.Proofs.YtfdhojiehjfghaaGreatDoor
