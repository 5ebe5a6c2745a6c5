/-
  Part 10 of the proof: Rnd.
-/
import Derived.Test.YtnnapanbbbcalaaGreatDoorPe9
import Derived.WalkKit
import Derived.Scope
import Derived.WalkMore
import Derived.LoopN
set_option linter.defProp false
namespace Go.Proofs.YtnnapanbbbcalaaGreatDoor
open IntKind (u64 i64)
open Tryz
open Go.RowKit
set_option maxRecDepth 100000
set_option maxHeartbeats 0
def rc1{a b how:Int}{c:Bool}(h:a.tmod b=0):iY a b c how=true:=by simp [iY,h]
def rc2{a b how:Int}{c:Bool}(h:(a.tmod b==0)=true\/(how==3)=true):iY a b c how=true:=by
 unfold iY;rcases h with h|h<;>simp [h]
def rc3{a b how:Int}{c:Bool}(h1:how=1)(h:(!c)=true):iY a b c how=true:=by simp [iY,h1,h]
def rc5{a b how:Int}{c:Bool}(d:(a.tmod b==0)=false/\(how==3)=false)(h1:how=1)(h:(!c)=false):iY a b c how=false:=by
 unfold iY;simp only[d.1,h,h1];rfl
def rc6{a b how:Int}{c:Bool}(h1:how=2)(h:c=true):iY a b c how=true:=by simp [iY,h1,h]
def rc7{a b how:Int}{c:Bool}(d:(a.tmod b==0)=false/\(how==3)=false)(h1:how=2)(h:c=false):iY a b c how=false:=by
 unfold iY;simp only[d.1,h,h1];rfl
def rc8{a b how:Int}{c:Bool}(h1:how=4)(d:u64.wrap (2*a.tmod b)=b)(e:((u64.wrap (a.tdiv b)).tmod 2==0)=true):iY a b c how=true:=by
 unfold iY;simp only[h1,e,Ua.2 d];simp
def rc9{a b how:Int}{c:Bool}(d:(a.tmod b==0)=false/\(how==3)=false)(h1:how=4)(e:b<=u64.wrap (2*a.tmod b))(f:((u64.wrap (a.tdiv b)).tmod 2==0)=false):iY a b c how=false:=by
 unfold iY;simp only[d.1,h1,f,Zx (Int.not_lt.2 e)];simp
def aqM{a b how:Int}{c:Bool}(d:(a.tmod b==0)=false/\(how==3)=false)(h1:how=4)(e:b<=u64.wrap (2*a.tmod b))(f:¬u64.wrap (2*a.tmod b)=b):iY a b c how=false:=by
 unfold iY;simp only[d.1,h1,WB f,Zx (Int.not_lt.2 e)];simp
def arM{a b how:Int}{c:Bool}(h1:how=4)(d:u64.wrap (2*a.tmod b)<b):iY a b c how=true:=by
 unfold iY;simp only[h1,dO d];simp
def apX{a b how:Int}{c:Bool}(d:(a.tmod b==0)=false/\(how==3)=false)(h1:¬how=1)(e:¬how=2)(f:¬how=4):iY a b c how=false:=by
 unfold iY;simp only[d.1,d.2,WB h1,WB e,WB f];rfl
def DH{a b how:Int}{c:Bool}{w w':Zy}(h:iY a b c how=true)(d:w=w'):Ending.returned (Value.int .u64 (u64.wrap (a.tdiv b)))=Ending.returned (Value.int .u64 (uf a b c how))/\w=w':=by
 unfold uf;rw[h];exact⟨rfl,d⟩
def EP{a b how:Int}{c:Bool}{w w':Zy}(h:iY a b c how=false)(d:w=w'):Ending.returned (Value.int .u64 (u64.wrap (u64.wrap (a.tdiv b)+1)))=Ending.returned (Value.int .u64 (uf a b c how))/\w=w':=by
 unfold uf;rw[h];exact⟨rfl,d⟩
def aqc(x y:kd)(w:Zy):(Instr.index 311 (.agg #[x,y]) (.int .i64 0)).run prog w= .ok x w:=by
 simp [Instr.index,run_underlying underlying311,asIntOf,go_sem]
def ajG(x y:kd)(w:Zy):(Instr.index 311 (.agg #[x,y]) (.int .i64 1)).run prog w= .ok y w:=by
 simp [Instr.index,run_underlying underlying311,asIntOf,go_sem]
def aqt(a b how:Int)(c:Bool)(w:Zy)(d:b≠0):Calls prog 320 #[.int .u64 a,.int .u64 b,.bool c,.int .i64 how] w λe w'=>e= .returned (.int .u64 (uf a b c how))/\w'=w.drew:=by
 go_enter func320,ntmps320
 go_wp2
 go_step3
 have f:(b==0)=false:=Tv.2 d
 go_wp2
 go_region
 go_wp2
 go_step3
 go_wp2
 refine wp_loop_rounds 3 ?_;unfold Code.rounds
 go_wp2
 rw[aqc];simp only[Result.andThen];rw[Oper.upon_value]
 go_wp2
 all_goals try (rw[rounds_succ];go_wp2;rw[ajG];simp only[Result.andThen];rw[Oper.upon_value];go_wp2)
 all_goals try (rw[rounds_succ];go_wp2)
 all_goals try (rw[Exit.noGoto_ret])
 all_goals try go_ret
 all_goals first
  |exact absurd ((show(!c)=true by assumption).symm.trans (show(!c)=false by assumption)) (by decide)
  |exact DH (rc1 (by assumption)) rfl
  |exact DH (rc2 (by assumption)) rfl
  |exact DH (rc3 (by assumption) (by assumption)) rfl
  |exact EP (rc5 (by assumption) (by assumption) (by assumption)) rfl
  |exact DH (rc6 (by assumption) (by assumption)) rfl
  |exact EP (rc7 (by assumption) (by assumption) (by assumption)) rfl
  |exact DH (rc8 (by assumption) (by assumption) (by assumption)) rfl
  |exact EP (rc9 (by assumption) (by assumption) (by assumption) (by assumption)) rfl
  |exact EP (aqM (by assumption) (by assumption) (by assumption) (by assumption)) rfl
  |exact DH (arM (by assumption) (by assumption)) rfl
  |exact EP (apX (by assumption) (by assumption) (by assumption) (by assumption)) rfl
def asz(a b:Int)(c:Bool)(how:Int)(r:Int)(j:(bif b !=0then some (uf a b c how)else none)=some r):AFn prog 320 [.d (.v (.int .u64 a)),.d (.v (.int .u64 b)),aA c,Y how] (·=(.d (.v (.int .u64 r)))):=by
 have k:b≠0:=by
  rintro rfl;cases j
 rw[Ue.2 k]at j;cases j
 refine⟨by kernel_rfl,λG w f m g h=> ?_⟩;have n:∃x y z u,f= #[x,y,z,u]:=⟨f[0]'(by rw[g];exact Zi rfl),f[1]'(by rw[g];exact Zi rfl),f[2]'(by rw[g];exact Zi rfl),f[3]'(by rw[g];exact Zi rfl),Array.ext g λi C o=>by
  match i,o with
  |0,_=>rfl
  |1,_=>rfl
  |2,_=>rfl
  |3,_=>rfl⟩
 obtain⟨x,y,z,u,rfl⟩:=n;have p:=(h 0 x _ rfl rfl).val;have q:=(h 1 y _ rfl rfl).val;have t:=(h 2 z _ rfl rfl).val;have A:=(h 3 u _ rfl rfl).val;subst p;subst q;subst t;subst A;refine(aqt a b how c w k).mono λe E B=> ?_;obtain⟨rfl,rfl⟩:=B;have l:=Y7 m;exact⟨_,G,_,_,rfl,l.1,Zv _,l.2,.d (.v _),rfl,rfl⟩
end Go.Proofs.YtnnapanbbbcalaaGreatDoor
