/-
  Part 5 of the proof: Dels.
-/
import Derived.Test.YtphmhnabilhbgaaGreatDoorPm4
import Derived.Test.YtphmhnabilhbgaaGreatDoorProg
import Derived.WalkKit
import Derived.WalkSpells
import Derived.WalkLawsBesides
import Derived.Deep.RegionHeld3
namespace Go.Proofs.YtphmhnabilhbgaaGreatDoor.MK
open Go.RowKit
set_option maxRecDepth 100000
set_option linter.unusedVariables false
theorem Vf:(Tryz.prog.info? 54).map (·.size)=some 22:=by kernel_rfl
theorem ZO:∀w,(zeroValue 54).run Tryz.prog w= .ok (.agg #[.string ⟨#[]⟩, .int .i64 0, .int .i64 0, .int .i64 0, .int .i64 0, .int .i64 0, .slice none 0 0, .slice none 0 0, .int .i64 0, .int .i64 0, .string ⟨#[]⟩, .int .i64 0, .int .i64 0, .int .i64 0, .int .i64 0, .int .i64 0, .int .i64 0, .int .i64 0, .int .i64 0, .slice none 0 0, .slice none 0 0, .slice none 0 0]) w:=fun _=>by kernel_rfl
set_option maxHeartbeats 1600000 in
theorem Vi(g n cap i j:Nat)(cur:agU agY)(w:agZ)(hg:an w g 54 cur)(hc:cur.length=cap*22)(kC:i<j)(hj:j≤n)(hn:n≤cap)(im:cap≤maxLen)(h1:∀u∈cur.take (n*22),u.oneCell'=true):
 Calls Tryz.prog 29 #[.slice (some ⟨g,0,none⟩) n cap, .int .i64 i, .int .i64 j] w fun e w'=>
  ∃zs:agU agY,zs.length=(j-i)*22∧e= .returned (.slice (some ⟨g,0,none⟩) (n-(j-i)) cap)∧w'=w.drew.setRow g (Go.splice (Go.splice cur (i*22) ((cur.take (n*22)).drop (j*22))) ((n-(j-i))*22) zs).toArray:=by
 unfold maxLen at im;have hb1:(i:Int)≤(j:Int):=by omega
 have jt:(j:Int)≤(n:Int):=by omega
 have zk:((i:Int)==(j:Int))=false:=by simp;omega
 obtain⟨news,mi⟩:∃x,x=(cur.take (n*22)).drop (j*22):=⟨_,rfl⟩;have rj:news.length=(n-j)*22:=by rw[mi,List.length_drop,List.length_take];omega
 have tD:∀u∈news,u.oneCell'=true:=fun u hu=>h1 u (by rw[mi]at hu;exact List.mem_of_mem_drop hu);have nK:∀q u,news[q]?=some u→w.drew.cell? ((⟨g,j*22,none⟩:Addr).add q)=some u:=fun q u hq=>by
  rw[Addr.add_lit];rw[mi,List.getElem?_drop,List.getElem?_take]at hq;split at hq
  ·exact(hg.cell _).trans hq
  ·cases hq
 have dv:∀ad,(ad=⟨g,j*22,none⟩∨n-j=0)→∀ty c,(Builtin.append_ #[25,25] ty #[.slice (some ⟨g,0,none⟩) i cap, .slice (some ad) (n-j) c]).run Tryz.prog w.drew= .ok (.slice (some ⟨g,0,none⟩) (i+(n-j)) cap) (w.drew.setRow g (Go.splice cur (i*22) news).toArray):=fun ad had ty c=>
  X3 w.drew 25 ty 54 22 Tryz.underlying25 Vf g i cap cur hg ad (n-j) c news rj (by
   rcases had with rfl|h0
   ·exact nK
   ·intro q u hq;rw[List.eq_nil_of_length_eq_zero (l:=news) (by omega)]at hq;simp at hq) tD (by omega) (by omega)
 obtain⟨W1,DD⟩:∃W1,W1=w.drew.setRow g (Go.splice cur (i*22) news).toArray:=⟨_,rfl⟩;rw[←DD]at dv;have n4:an W1 g 54 (Go.splice cur (i*22) news):=DD▸an.setRow hg.drew _;have XG:=Lib.hid DD;clear DD;have fz:∃zs:agU agY,zs.length=(j-i)*22∧∀ty c,(Builtin.clear_ #[25] ty #[.slice (some ⟨g,(i+(n-j))*22,none⟩) (n-(i+(n-j))) c]).run Tryz.prog W1= .ok (.tuple #[]) (W1.setRow g (Go.splice (Go.splice cur (i*22) news) ((i+(n-j))*22) zs).toArray):=by
  obtain⟨zs,hz,hr⟩:=WX W1 25 54 22 _ Tryz.underlying25 ZO rfl (by decide) g ((i+(n-j))*22) (n-(i+(n-j))) _ 54 n4 (by omega) (by rw[length_splice _ _ _ (by omega)];omega);exact⟨zs,by rw[hz];congr 1;omega,hr⟩
 obtain⟨zs,iM,WU⟩:=fz;rw[←mi];have mO:i≤cap:=by omega
 have FM:i+(n-j)≤n:=by omega
 have hA:∃A:Addr,(if cap=j then some (⟨g,0,none⟩:Addr)else some ⟨g,j*22,none⟩)=some A∧(A=⟨g,j*22,none⟩∨n-j=0):=by
  by_cases h:cap=j
  ·exact⟨⟨g,0,none⟩,by rw[if_pos h],Or.inr (by omega)⟩
  ·exact⟨⟨g,j*22,none⟩,by rw[if_neg h],Or.inl rfl⟩
 obtain⟨A,hA,rf⟩:=hA;have hrun':=dv A rf;have HA':=Lib.hid rf;clear rf;have afO:=Lib.hid mi;clear mi;clear dv nK
 go_enter Tryz.func29,Tryz.ntmps29
 go_wp2
 go_region_law (refine adJ rfl (.tmp 22) (.tmp 25) 25 25 rfl _ _ (by rfl) (by rfl) (hrun' _ _) ?_)
 go_wp2_with (at_builtin;refine aeH rfl (.tmp 31) 25 rfl _ rfl (WU _ _) ?_)
 go_ret
 have rD:i+(n-j)=n-(j-i):=by omega
 refine⟨zs,iM,by rw[rD];rfl,?_⟩;rw[XG.out,setRow_setRow,rD]
end Go.Proofs.YtphmhnabilhbgaaGreatDoor.MK
namespace Go.Proofs.YtphmhnabilhbgaaGreatDoor
open Go.RowKit
set_option maxRecDepth 100000
theorem aaI{xs:agU (agU D)}{i L:Nat}(hi:i<L)(hL:xs.length=L)(eZ:∀c∈xs,c.all D.lY=true):bD Tryz.prog 29 [.vec 0 0 L L 22, .d (.v (.int .i64 (i:Int))), .d (.v (.int .i64 ((i+1:Nat):Int)))] [.vec 54 22 (aI xs)] fun r1 h1=>r1= .vec 0 0 (L-1) L 22∧h1=[.vec 54 22 (aI (xs.take i++xs.drop (i+1))++[List.replicate 22 .dead])]:=
 Zm (E:=54) (K:=22) (by kernel_rfl) (by decide) (fun g n cap i j cur w h1 h2 h3 h4 h5 h6 h7=>MK.Vi g n cap i j cur w h1 h2 h3 h4 h5 h6 h7) hi hL eZ
end Go.Proofs.YtphmhnabilhbgaaGreatDoor
