/-
  Part 9 of the proof.
-/
import Derived.Test.YtjploedinjiflaaGreatDoorPi8
import Derived.WalkKit
import Derived.Scope
import Derived.WalkMore
import Derived.LoopN
set_option linter.defProp false
namespace Go.Proofs.YtjploedinjiflaaGreatDoor
open IntKind (u64 i64)
open Tryz
open Go.RowKit
set_option maxRecDepth 100000
set_option maxHeartbeats 0
def rc1{a b how:Int}{c:Bool}(h:a.tmod b=0):jh a b c how=true:=by simp [jh,h]
def rc2{a b how:Int}{c:Bool}(h:(a.tmod b==0)=true\/(how==3)=true):jh a b c how=true:=by
 unfold jh;rcases h with h|h<;>simp [h]
def rc3{a b how:Int}{c:Bool}(h1:how=1)(h:(!c)=true):jh a b c how=true:=by simp [jh,h1,h]
def rc5{a b how:Int}{c:Bool}(d:(a.tmod b==0)=false/\(how==3)=false)(h1:how=1)(h:(!c)=false):jh a b c how=false:=by
 unfold jh;simp only[d.1,h,h1];rfl
def rc6{a b how:Int}{c:Bool}(h1:how=2)(h:c=true):jh a b c how=true:=by simp [jh,h1,h]
def rc7{a b how:Int}{c:Bool}(d:(a.tmod b==0)=false/\(how==3)=false)(h1:how=2)(h:c=false):jh a b c how=false:=by
 unfold jh;simp only[d.1,h,h1];rfl
def rc8{a b how:Int}{c:Bool}(h1:how=4)(d:u64.wrap (2*a.tmod b)=b)(e:((u64.wrap (a.tdiv b)).tmod 2==0)=true):jh a b c how=true:=by
 unfold jh;simp only[h1,e,TC.2 d];simp
def rc9{a b how:Int}{c:Bool}(d:(a.tmod b==0)=false/\(how==3)=false)(h1:how=4)(e:b<=u64.wrap (2*a.tmod b))(f:((u64.wrap (a.tdiv b)).tmod 2==0)=false):jh a b c how=false:=by
 unfold jh;simp only[d.1,h1,f,Zn (Int.not_lt.2 e)];simp
def akx{a b how:Int}{c:Bool}(d:(a.tmod b==0)=false/\(how==3)=false)(h1:how=4)(e:b<=u64.wrap (2*a.tmod b))(f:¬u64.wrap (2*a.tmod b)=b):jh a b c how=false:=by
 unfold jh;simp only[d.1,h1,Wn f,Zn (Int.not_lt.2 e)];simp
def anD{a b how:Int}{c:Bool}(h1:how=4)(d:u64.wrap (2*a.tmod b)<b):jh a b c how=true:=by
 unfold jh;simp only[h1,eD d];simp
def aqE{a b how:Int}{c:Bool}(d:(a.tmod b==0)=false/\(how==3)=false)(h1:¬how=1)(e:¬how=2)(f:¬how=4):jh a b c how=false:=by
 unfold jh;simp only[d.1,d.2,Wn h1,Wn e,Wn f];rfl
def Cn{a b how:Int}{c:Bool}{w w':Zy}(h:jh a b c how=true)(d:w=w'):Ending.returned (Value.int .u64 (u64.wrap (a.tdiv b)))=Ending.returned (Value.int .u64 (vu a b c how))/\w=w':=by
 unfold vu;rw[h];exact⟨rfl,d⟩
def HR{a b how:Int}{c:Bool}{w w':Zy}(h:jh a b c how=false)(d:w=w'):Ending.returned (Value.int .u64 (u64.wrap (u64.wrap (a.tdiv b)+1)))=Ending.returned (Value.int .u64 (vu a b c how))/\w=w':=by
 unfold vu;rw[h];exact⟨rfl,d⟩
def ajP(x y:oZ)(w:Zy):(Instr.index 330 (.agg #[x,y]) (.int .i64 0)).run prog w= .ok x w:=by
 simp [Instr.index,run_underlying underlying330,asIntOf,go_sem]
def aj4(x y:oZ)(w:Zy):(Instr.index 330 (.agg #[x,y]) (.int .i64 1)).run prog w= .ok y w:=by
 simp [Instr.index,run_underlying underlying330,asIntOf,go_sem]
def akJ(a b how:Int)(c:Bool)(w:Zy)(d:b≠0):Calls prog 276 #[.int .u64 a,.int .u64 b,.bool c,.int .i64 how] w λe w'=>e= .returned (.int .u64 (vu a b c how))/\w'=w.drew:=by
 go_enter func276,ntmps276
 go_wp2
 go_step3
 have f:(b==0)=false:=Tn.2 d
 go_wp2
 go_region
 go_wp2
 go_step3
 go_wp2
 refine wp_loop_rounds 3 ?_;unfold Code.rounds
 go_wp2
 rw[ajP];simp only[Result.andThen];rw[Oper.upon_value]
 go_wp2
 all_goals try (rw[rounds_succ];go_wp2;rw[aj4];simp only[Result.andThen];rw[Oper.upon_value];go_wp2)
 all_goals try (rw[rounds_succ];go_wp2)
 all_goals try (rw[Exit.noGoto_ret])
 all_goals try go_ret
 all_goals first
  |exact absurd ((show(!c)=true by assumption).symm.trans (show(!c)=false by assumption)) gy
  |exact Cn (rc1 (by assumption)) rfl
  |exact Cn (rc2 (by assumption)) rfl
  |exact Cn (rc3 (by assumption) (by assumption)) rfl
  |exact HR (rc5 (by assumption) (by assumption) (by assumption)) rfl
  |exact Cn (rc6 (by assumption) (by assumption)) rfl
  |exact HR (rc7 (by assumption) (by assumption) (by assumption)) rfl
  |exact Cn (rc8 (by assumption) (by assumption) (by assumption)) rfl
  |exact HR (rc9 (by assumption) (by assumption) (by assumption) (by assumption)) rfl
  |exact HR (akx (by assumption) (by assumption) (by assumption) (by assumption)) rfl
  |exact Cn (anD (by assumption) (by assumption)) rfl
  |exact HR (aqE (by assumption) (by assumption) (by assumption) (by assumption)) rfl
def aol(a b:Int)(c:Bool)(how:Int)(r:Int)(j:(bif b !=0then some (vu a b c how)else none)=some r):gq prog 276 [.d (.v (.int .u64 a)),.d (.v (.int .u64 b)),aG c,Y how] (·=(.d (.v (.int .u64 r)))):=by
 have k:b≠0:=by
  rintro rfl;cases j
 rw[Ui.2 k]at j;cases j
 refine⟨by kernel_rfl,λG w f m g h=> ?_⟩;have n:∃x y z u,f= #[x,y,z,u]:=⟨f[0]'(by rw[g];exact Zh rfl),f[1]'(by rw[g];exact Zh rfl),f[2]'(by rw[g];exact Zh rfl),f[3]'(by rw[g];exact Zh rfl),Array.ext g λi C o=>by
  match i,o with
  |0,_=>rfl
  |1,_=>rfl
  |2,_=>rfl
  |3,_=>rfl⟩
 obtain⟨x,y,z,u,rfl⟩:=n;have p:=(h 0 x _ rfl rfl).val;have q:=(h 1 y _ rfl rfl).val;have t:=(h 2 z _ rfl rfl).val;have A:=(h 3 u _ rfl rfl).val;subst p;subst q;subst t;subst A;refine(akJ a b how c w k).mono λe E B=> ?_;obtain⟨rfl,rfl⟩:=B;have l:=auq m;exact⟨_,G,_,_,rfl,l.1,Zx _,l.2,.d (.v _),rfl,rfl⟩
end Go.Proofs.YtjploedinjiflaaGreatDoor
