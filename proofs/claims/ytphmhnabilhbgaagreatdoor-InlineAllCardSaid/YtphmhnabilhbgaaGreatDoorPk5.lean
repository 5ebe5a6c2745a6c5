/-
  Part 5 of the proof: Dels.
-/
import Derived.Test.YtphmhnabilhbgaaGreatDoorPk4
import Derived.Test.YtphmhnabilhbgaaGreatDoorProg
import Derived.WalkKit
import Derived.WalkSpells
import Derived.WalkLawsBesides
import Derived.Deep.RegionHeld3
namespace Go.Proofs.YtphmhnabilhbgaaGreatDoor.MK
open Go.RowKit
set_option maxRecDepth 100000
set_option linter.unusedVariables false
theorem adX:(Tryz.prog.info? 54).map (·.size)=some 22:=by kernel_rfl
theorem Xj:∀w,(zeroValue 54).run Tryz.prog w= .ok (.agg #[.string ⟨#[]⟩, .int .i64 0, .int .i64 0, .int .i64 0, .int .i64 0, .int .i64 0, .slice none 0 0, .slice none 0 0, .int .i64 0, .int .i64 0, .string ⟨#[]⟩, .int .i64 0, .int .i64 0, .int .i64 0, .int .i64 0, .int .i64 0, .int .i64 0, .int .i64 0, .int .i64 0, .slice none 0 0, .slice none 0 0, .slice none 0 0]) w:=fun _=>by kernel_rfl
set_option maxHeartbeats 1600000 in
theorem abj(g n cap i j:Nat)(cur:aiE aiI)(w:aiJ)(hg:an w g 54 cur)(hc:cur.length=cap*22)(mh:i<j)(hj:j≤n)(hn:n≤cap)(jb:cap≤maxLen)(h1:∀u∈cur.take (n*22),u.oneCell'=true):
 Calls Tryz.prog 29 #[.slice (some ⟨g,0,none⟩) n cap, .int .i64 i, .int .i64 j] w fun e w'=>
  ∃zs:aiE aiI,zs.length=(j-i)*22∧e= .returned (.slice (some ⟨g,0,none⟩) (n-(j-i)) cap)∧w'=w.drew.setRow g (Go.splice (Go.splice cur (i*22) ((cur.take (n*22)).drop (j*22))) ((n-(j-i))*22) zs).toArray:=by
 unfold maxLen at jb;have jo:(i:Int)≤(j:Int):=by omega
 have kX:(j:Int)≤(n:Int):=by omega
 have CM:((i:Int)==(j:Int))=false:=by simp;omega
 obtain⟨news,m5⟩:∃x,x=(cur.take (n*22)).drop (j*22):=⟨_,rfl⟩;have uC:news.length=(n-j)*22:=by rw[m5,List.length_drop,List.length_take];omega
 have xp:∀u∈news,u.oneCell'=true:=fun u hu=>h1 u (by rw[m5]at hu;exact List.mem_of_mem_drop hu);have ox:∀q u,news[q]?=some u→w.drew.cell? ((⟨g,j*22,none⟩:Addr).add q)=some u:=fun q u hq=>by
  rw[Addr.add_lit];rw[m5,List.getElem?_drop,List.getElem?_take]at hq;split at hq
  ·exact(hg.cell _).trans hq
  ·cases hq
 have dK:∀ad,(ad=⟨g,j*22,none⟩∨n-j=0)→∀ty c,(Builtin.append_ #[25,25] ty #[.slice (some ⟨g,0,none⟩) i cap, .slice (some ad) (n-j) c]).run Tryz.prog w.drew= .ok (.slice (some ⟨g,0,none⟩) (i+(n-j)) cap) (w.drew.setRow g (Go.splice cur (i*22) news).toArray):=fun ad WV ty c=>
  W2 w.drew 25 ty 54 22 Tryz.underlying25 adX g i cap cur hg ad (n-j) c news uC (by
   rcases WV with rfl|h0
   ·exact ox
   ·intro q u hq;rw[List.eq_nil_of_length_eq_zero (l:=news) (by omega)]at hq;simp at hq) xp (by omega) (by omega)
 obtain⟨W1,H9⟩:∃W1,W1=w.drew.setRow g (Go.splice cur (i*22) news).toArray:=⟨_,rfl⟩;rw[←H9]at dK;have pe:an W1 g 54 (Go.splice cur (i*22) news):=H9▸an.setRow hg.drew _;have WK:=Lib.hid H9;clear H9;have gd:∃zs:aiE aiI,zs.length=(j-i)*22∧∀ty c,(Builtin.clear_ #[25] ty #[.slice (some ⟨g,(i+(n-j))*22,none⟩) (n-(i+(n-j))) c]).run Tryz.prog W1= .ok (.tuple #[]) (W1.setRow g (Go.splice (Go.splice cur (i*22) news) ((i+(n-j))*22) zs).toArray):=by
  obtain⟨zs,hz,hr⟩:=aaN W1 25 54 22 _ Tryz.underlying25 Xj rfl (by decide) g ((i+(n-j))*22) (n-(i+(n-j))) _ 54 pe (by omega) (by rw[length_splice _ _ _ (by omega)];omega);exact⟨zs,by rw[hz];congr 1;omega,hr⟩
 obtain⟨zs,iZ,ac3⟩:=gd;rw[←m5];have nU:i≤cap:=by omega
 have Gs:i+(n-j)≤n:=by omega
 have hA:∃A:Addr,(if cap=j then some (⟨g,0,none⟩:Addr)else some ⟨g,j*22,none⟩)=some A∧(A=⟨g,j*22,none⟩∨n-j=0):=by
  by_cases h:cap=j
  ·exact⟨⟨g,0,none⟩,by rw[if_pos h],Or.inr (by omega)⟩
  ·exact⟨⟨g,j*22,none⟩,by rw[if_neg h],Or.inl rfl⟩
 obtain⟨A,hA,ta⟩:=hA;have aet:=dK A ta;have HA':=Lib.hid ta;clear ta;have ahN:=Lib.hid m5;clear m5;clear dK ox
 go_enter Tryz.func29,Tryz.ntmps29
 go_wp2
 go_region_law (refine ac8 rfl (.tmp 22) (.tmp 25) 25 25 rfl _ _ (by rfl) (by rfl) (aet _ _) ?_)
 go_wp2_with (at_builtin;refine aa7 rfl (.tmp 31) 25 rfl _ rfl (ac3 _ _) ?_)
 go_ret
 have sW:i+(n-j)=n-(j-i):=by omega
 refine⟨zs,iZ,by rw[sW];rfl,?_⟩;rw[WK.out,setRow_setRow,sW]
end Go.Proofs.YtphmhnabilhbgaaGreatDoor.MK
namespace Go.Proofs.YtphmhnabilhbgaaGreatDoor
open Go.RowKit
set_option maxRecDepth 100000
theorem adf{xs:aiE (aiE D)}{i L:Nat}(hi:i<L)(hL:xs.length=L)(fz:∀c∈xs,c.all D.mY=true):bY Tryz.prog 29 [.vec 0 0 L L 22, .d (.v (.int .i64 (i:Int))), .d (.v (.int .i64 ((i+1:Nat):Int)))] [.vec 54 22 (aO xs)] fun r1 h1=>r1= .vec 0 0 (L-1) L 22∧h1=[.vec 54 22 (aO (xs.take i++xs.drop (i+1))++[List.replicate 22 .dead])]:=
 agI (E:=54) (K:=22) (by kernel_rfl) (by decide) (fun g n cap i j cur w h1 h2 h3 h4 h5 h6 h7=>MK.abj g n cap i j cur w h1 h2 h3 h4 h5 h6 h7) hi hL fz
end Go.Proofs.YtphmhnabilhbgaaGreatDoor
