/-
  Part 16 of the proof.
-/
import Derived.Test.YtjploedinjiflaaGreatDoorPi15
import Derived.Test.YtjploedinjiflaaGreatDoorCards
import Derived.Test.YtjploedinjiflaaGreatDoorTie
import Derived.SevenTiedAt
import Derived.Carry
namespace Go.Proofs.YtjploedinjiflaaGreatDoor
open Go.ChangeShapes Go.WideShapes Go.ChangeAt Go.RowKit
open Go.ChangeMaps (open_string shut_string)
set_option maxRecDepth 100000
set_option linter.unusedVariables false
theorem Pe:laidOutB Tryz.prog=true:=by kernel_rfl
theorem amW(os:Os)(started:os.Started)(H:Type)(enc:TypeId×oZ->H):
 ReturnsInHanded {} Tryz.checked os 3 .any (λw args=>(Rows.inlineSemanticsSpec.pre enc Tryz.prog Tryz.f3 [] false w args/\laidMetH Tryz.prog yk w)/\sizedMet enc Tryz.prog Tryz.f3 (OpenSpec.ofChange Rows.inlineSemanticsSpec) false w args)
  (Rows.inlineSemanticsSpec.post enc Tryz.prog Tryz.f3 false true false false):=by
 refine returnsInHanded_of_change_and (C:=Tryz.checked) (X:=λw _=>laidMetH Tryz.prog yk w) (λ_ _ _ hh h=>h.of_heap hh) arE started km Tryz.func3
  (arY (enc:=enc) (os:=os) false #[.agg #[.slice none 0 0,.slice none 0 0,.slice none 0 0,.slice none 0 0,.slice none 0 0],.slice none 0 0,.slice none 0 0,.string ⟨#[]⟩,.int .i64 0] 8 km km km) ?_
 intro W f args ds gs before g N _ y hL _;have a:∀(j:Nat) t v,Tryz.f3.params[j]?=some t->args[j]?=some v->Value.okWide Tryz.prog W .any f t v:=g;have z:=N;obtain⟨p,q,k,hV,rfl,hfz,mc⟩:=N;have P:DataW.TrodAll enc Tryz.prog W 0 (λ_=>true) true Tryz.f3.params.toList args.toList ds p:=k;rw[Tryz.params3]at P a;obtain⟨Q,vs0,R,ds0,p0,q0,vF,rfl,rfl,A,r0⟩:=trodAll_cons P;obtain⟨S,vs1,T,ds1,p1,q1,rfl,rfl,rfl,B,r1⟩:=trodAll_cons r0;obtain⟨v2,vs2,d2,ds2,p2,q2,rfl,rfl,rfl,E,r2⟩:=trodAll_cons r1;obtain⟨v3,vs3,d3,ds3,p3,q3,rfl,rfl,rfl,h3,r3⟩:=trodAll_cons r2;obtain⟨v4,vs4,d4,ds4,p4,q4,rfl,rfl,rfl,h4,r4⟩:=trodAll_cons r3;obtain⟨rfl,rfl,rfl⟩:=trodAll_nil r4;obtain rfl:args= #[Q,S,v2,v3,v4]:=by cases args;simp_all
 obtain⟨rfl,rfl⟩:=trodVars_none hV;have F:∀n∈R.weights Tryz.prog 27,n<=reachBytes:=λn l=>Tr (Zc.1 y n (DataW.weights_mem_each (j:=0) (t:=27) (d:=R) (by rw[Tryz.params3];rfl) rfl n l));have G:∀n∈T.weights Tryz.prog 28,n<=reachBytes:=λn l=>Tr (Zc.1 y n (DataW.weights_mem_each (j:=1) (t:=28) (d:=T) (by rw[Tryz.params3];rfl) rfl n l));have J:∀n∈d2.weights Tryz.prog 29,n<=reachBytes:=λn l=>Tr (Zc.1 y n (DataW.weights_mem_each (j:=2) (t:=29) (d:=d2) (by rw[Tryz.params3];rfl) rfl n l));have K:∀x∈p0,x.block<W.heap.size:=by obtain⟨m,o⟩:=A;exact DataW.trod_lt m _ _ _ o
 obtain⟨c0,rfl⟩:=avp Tryz.underlying27 (a 0 27 Q rfl rfl);obtain⟨x0,s0,e0⟩:=Qy RC gy F A;obtain⟨a0,rfl,w0⟩:=al2 s0;have L:∀x∈p1,x.block<W.heap.size:=by obtain⟨m,o⟩:=B;exact DataW.trod_lt m _ _ _ o
 obtain⟨b1,l1,c1,rfl⟩:=okWide_slice Tryz.underlying28 (a 1 28 S rfl rfl);obtain⟨x1,s1,e1⟩:=Qy RC gy G B;obtain⟨a1,rfl,w1⟩:=ai5 s1;have M:∀x∈p2,x.block<W.heap.size:=by obtain⟨m,o⟩:=E;exact DataW.trod_lt m _ _ _ o
 obtain⟨b2,l2,c2,rfl⟩:=okWide_slice Tryz.underlying29 (a 2 29 v2 rfl rfl);obtain⟨x2,s2,e2⟩:=Qy RC gy J E;obtain⟨a2,rfl,w2⟩:=arz s2;obtain⟨a3,rfl,rfl,rfl,w3⟩:=open_string Tryz.underlying9 (a 3 9 v3 rfl rfl) h3;obtain⟨a4,rfl,rfl,rfl,w4⟩:=open_int Tryz.underlying3 (a 4 3 v4 rfl rfl) h4;clear k g;refine(arD (al9 a0 a1 a2 a3 a4 w0 w1 w2 w3 w4) (aoM hL) _ rfl λi u c b r=> ?_).mono λe W' ⟨he,OS⟩=> ?_
 ·match i with
  |0=>cases b;cases r;exact aqe rfl e0
  |1=>cases b;cases r;exact aew rfl e1
  |2=>cases b;cases r;exact aew rfl e2
  |3=>cases b;cases r;exact .d (.v _)
  |4=>cases b;cases r;exact .d (.v _)
  |i+5=>simp at b
 ·subst he;exact⟨_,rfl,_,_,_,[],_,[],z,trodAll_mk1 (shut_bool Tryz.underlying4 _),(trodAll_cons_mk (Below.trod Pe km (Tr km) A OS K) (trodAll_cons_mk (Below.trod Pe km (Tr km) B OS L) (trodAll_cons_mk (Below.trod Pe km (Tr km) E OS M) (trodAll_cons_mk (shut_string Tryz.underlying9 w3) (trodAll_cons_mk (shut_int Tryz.underlying3 w4) trodAll_mk0))))),rfl,OS.frame _,λh=>by cases h⟩
end Go.Proofs.YtjploedinjiflaaGreatDoor
