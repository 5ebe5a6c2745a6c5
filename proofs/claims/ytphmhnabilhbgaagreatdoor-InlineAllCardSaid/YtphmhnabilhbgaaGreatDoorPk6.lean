/-
  Part 6 of the proof: Cmp.
-/
import Derived.Test.YtphmhnabilhbgaaGreatDoorPk5
import Derived.WalkKit
import Derived.Lib.Bytealg
namespace Go.Proofs.YtphmhnabilhbgaaGreatDoor
open Go.RowKit
set_option maxRecDepth 100000
def F4(a b:aiF):Int:=Lib.compareBytes (bL a) (bL b)
theorem agS(a b:aiF)(w:aiJ):Calls Tryz.prog 217 #[.string a, .string b] w fun e w'=>e= .returned (.int .i64 (F4 a b))∧w'=w:=by
 go_enter Tryz.func217,Tryz.ntmps217
 go_wp2
 rw[run_callFunc_extern Tryz.func242 (by kernel_rfl) (by kernel_rfl) (by kernel_rfl) (e:=Extern.BytealgCompare.compare) (by kernel_rfl),Lib.run_compareString];simp only[Result.andThen];rw[Oper.upon_value]
 go_wp2
 go_ret
 exact⟨rfl,rfl⟩
theorem adm(a b:aiF)(w:aiJ):Calls Tryz.prog 185 #[.string a, .string b] w fun e w'=>e= .returned (.int .i64 (F4 a b))∧w'=w:=by
 go_enter Tryz.func185,Tryz.ntmps185
 go_wp2_with (go_at_call 217;refine(agS _ _ _).mono ?_;rintro e w' ⟨rfl,rfl⟩)
 go_ret
 exact⟨rfl,rfl⟩
theorem abS(a b:aiF):bg Tryz.prog 185 [bw a,bw b] (·=ak (F4 a b)):=by
 refine⟨by kernel_rfl,fun G w vs hi hl hr=> ?_⟩;have h0:∃u v,vs= #[u,v]:=⟨vs[0]'(by rw[hl];exact ahX rfl),vs[1]'(by rw[hl];exact ahX rfl),Array.ext hl fun i h1 h2=>by
  match i,h2 with
  |0,_=>rfl
  |1,_=>rfl⟩
 obtain⟨u,v,rfl⟩:=h0;have e0:=(hr 0 u _ rfl rfl).val;have e1:=(hr 1 v _ rfl rfl).val;subst e0;subst e1;refine(adm a b w).mono fun e w' hp=> ?_;obtain⟨rfl,rfl⟩:=hp;exact⟨_,G,_,_,rfl,cp.refl _ _ _,ah0 _,hi, .d (.v _),rfl,rfl⟩
end Go.Proofs.YtphmhnabilhbgaaGreatDoor
