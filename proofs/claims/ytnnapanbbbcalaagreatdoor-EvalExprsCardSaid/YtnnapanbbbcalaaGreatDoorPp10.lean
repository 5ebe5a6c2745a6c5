/-
  Part 10 of the proof: Rnd.
-/
import Derived.Test.YtnnapanbbbcalaaGreatDoorPp9
import Derived.WalkKit
import Derived.Scope
import Derived.WalkMore
import Derived.LoopN
namespace Go.Proofs.YtnnapanbbbcalaaGreatDoor
open Go.RowKit
set_option maxRecDepth 100000
set_option maxHeartbeats 0
theorem rc1{a b how:Int}{neg:Bool}(h:a.tmod b=0):ij a b neg how=true:=by simp [ij,h]
theorem rc2{a b how:Int}{neg:Bool}(h:(a.tmod b==0)=true\/(how==3)=true):ij a b neg how=true:=by
 unfold ij;rcases h with h|h<;>simp [h]
theorem rc3{a b how:Int}{neg:Bool}(h1:how=1)(h:(!neg)=true):ij a b neg how=true:=by simp [ij,h1,h]
theorem rc5{a b how:Int}{neg:Bool}(h0:(a.tmod b==0)=false/\(how==3)=false)(h1:how=1)(h:(!neg)=false):ij a b neg how=false:=by
 unfold ij;simp only[h0.1,h,h1];rfl
theorem rc6{a b how:Int}{neg:Bool}(h1:how=2)(h:neg=true):ij a b neg how=true:=by simp [ij,h1,h]
theorem rc7{a b how:Int}{neg:Bool}(h0:(a.tmod b==0)=false/\(how==3)=false)(h1:how=2)(h:neg=false):ij a b neg how=false:=by
 unfold ij;simp only[h0.1,h,h1];rfl
theorem rc8{a b how:Int}{neg:Bool}(h1:how=4)(h2:IntKind.u64.wrap (2*a.tmod b)=b)(h3:((IntKind.u64.wrap (a.tdiv b)).tmod 2==0)=true):ij a b neg how=true:=by
 unfold ij;simp only[h1,h3,beq_iff_eq.2 h2];simp
theorem rc9{a b how:Int}{neg:Bool}(h0:(a.tmod b==0)=false/\(how==3)=false)(h1:how=4)(h2:b<=IntKind.u64.wrap (2*a.tmod b))(h3:((IntKind.u64.wrap (a.tdiv b)).tmod 2==0)=false):ij a b neg how=false:=by
 unfold ij;simp only[h0.1,h1,h3,amN (Int.not_lt.2 h2)];simp
theorem akR{a b how:Int}{neg:Bool}(h0:(a.tmod b==0)=false/\(how==3)=false)(h1:how=4)(h2:b<=IntKind.u64.wrap (2*a.tmod b))(h3:¬IntKind.u64.wrap (2*a.tmod b)=b):ij a b neg how=false:=by
 unfold ij;simp only[h0.1,h1,beq_false_of_ne h3,amN (Int.not_lt.2 h2)];simp
theorem aeU{a b how:Int}{neg:Bool}(h1:how=4)(h2:IntKind.u64.wrap (2*a.tmod b)<b):ij a b neg how=true:=by
 unfold ij;simp only[h1,amM h2];simp
theorem abp{a b how:Int}{neg:Bool}(h0:(a.tmod b==0)=false/\(how==3)=false)(h1:¬how=1)(h2:¬how=2)(h3:¬how=4):ij a b neg how=false:=by
 unfold ij;simp only[h0.1,h0.2,beq_false_of_ne h1,beq_false_of_ne h2,beq_false_of_ne h3];rfl
theorem AE{a b how:Int}{neg:Bool}{w w':amY}(h:ij a b neg how=true)(hw:w=w'):Ending.returned (Value.int .u64 (IntKind.u64.wrap (a.tdiv b)))=Ending.returned (Value.int .u64 (rk a b neg how))/\w=w':=by
 unfold rk;rw[h];exact⟨rfl,hw⟩
theorem C4{a b how:Int}{neg:Bool}{w w':amY}(h:ij a b neg how=false)(hw:w=w'):Ending.returned (Value.int .u64 (IntKind.u64.wrap (IntKind.u64.wrap (a.tdiv b)+1)))=Ending.returned (Value.int .u64 (rk a b neg how))/\w=w':=by
 unfold rk;rw[h];exact⟨rfl,hw⟩
theorem abS(x y:amX)(w:amY):(Instr.index 311 (.agg #[x,y]) (.int .i64 0)).run Tryz.prog w= .ok x w:=by
 simp [Instr.index,run_underlying Tryz.underlying311,asIntOf,go_sem]
theorem ahE(x y:amX)(w:amY):(Instr.index 311 (.agg #[x,y]) (.int .i64 1)).run Tryz.prog w= .ok y w:=by
 simp [Instr.index,run_underlying Tryz.underlying311,asIntOf,go_sem]
theorem aky(a b how:Int)(neg:Bool)(w:amY)(hb:b≠0):Calls Tryz.prog 320 #[.int .u64 a, .int .u64 b, .bool neg, .int .i64 how] w λe w'=>e= .returned (.int .u64 (rk a b neg how))/\w'=w.drew:=by
 go_enter Tryz.func320,Tryz.ntmps320
 go_wp2
 go_step3
 have gC:(b==0)=false:=beq_eq_false_iff_ne.2 hb
 go_wp2
 go_region
 go_wp2
 go_step3
 go_wp2
 refine wp_loop_rounds 3 ?_;unfold Code.rounds
 go_wp2
 rw[abS];simp only[Result.andThen];rw[Oper.upon_value]
 go_wp2
 all_goals try (rw[rounds_succ];go_wp2;rw[ahE];simp only[Result.andThen];rw[Oper.upon_value];go_wp2)
 all_goals try (rw[rounds_succ];go_wp2)
 all_goals try (rw[Exit.noGoto_ret])
 all_goals try go_ret
 all_goals first
  |exact absurd ((show(!neg)=true by assumption).symm.trans (show(!neg)=false by assumption)) (by decide)
  |exact AE (rc1 (by assumption)) rfl
  |exact AE (rc2 (by assumption)) rfl
  |exact AE (rc3 (by assumption) (by assumption)) rfl
  |exact C4 (rc5 (by assumption) (by assumption) (by assumption)) rfl
  |exact AE (rc6 (by assumption) (by assumption)) rfl
  |exact C4 (rc7 (by assumption) (by assumption) (by assumption)) rfl
  |exact AE (rc8 (by assumption) (by assumption) (by assumption)) rfl
  |exact C4 (rc9 (by assumption) (by assumption) (by assumption) (by assumption)) rfl
  |exact C4 (akR (by assumption) (by assumption) (by assumption) (by assumption)) rfl
  |exact AE (aeU (by assumption) (by assumption)) rfl
  |exact C4 (abp (by assumption) (by assumption) (by assumption) (by assumption)) rfl
theorem afs(a b:Int)(neg:Bool)(how:Int)(r:Int)(hF:(bif b !=0then some (rk a b neg how)else none)=some r):ga Tryz.prog 320 [(.d (.v (.int .u64 a))),(.d (.v (.int .u64 b))),(az neg),(ar how)] (·=(.d (.v (.int .u64 r)))):=by
 have hb:b≠0:=by
  rintro rfl;cases hF
 rw[bne_iff_ne.2 hb]at hF;cases hF
 refine⟨by kernel_rfl,λG w vs hi hl hr=> ?_⟩;have h0:∃x y z u,vs= #[x,y,z,u]:=⟨vs[0]'(by rw[hl];exact amd rfl),vs[1]'(by rw[hl];exact amd rfl),vs[2]'(by rw[hl];exact amd rfl),vs[3]'(by rw[hl];exact amd rfl),Array.ext hl λi h1 h2=>by
  match i,h2 with
  |0,_=>rfl
  |1,_=>rfl
  |2,_=>rfl
  |3,_=>rfl⟩
 obtain⟨x,y,z,u,rfl⟩:=h0;have e0:=(hr 0 x _ rfl rfl).val;have e1:=(hr 1 y _ rfl rfl).val;have e2:=(hr 2 z _ rfl rfl).val;have e3:=(hr 3 u _ rfl rfl).val;subst e0;subst e1;subst e2;subst e3;refine(aky a b how neg w hb).mono λe w' hp=> ?_;obtain⟨rfl,rfl⟩:=hp;have hd:=S7 hi;exact⟨_,G,_,_,rfl,hd.1,amg _,hd.2, .d (.v _),rfl,rfl⟩
end Go.Proofs.YtnnapanbbbcalaaGreatDoor
