/-
  Part 7 of the proof.
-/
import Derived.Test.YtjploedinjiflaaGreatDoorPi6
import Derived.Test.YtjploedinjiflaaGreatDoorProg
import Derived.WalkKit
import Derived.WalkSpells
import Derived.WalkLawsBesides
import Derived.Deep.RegionHeld3
namespace Go.Proofs.YtjploedinjiflaaGreatDoor.MK
open Tryz
open Go.RowKit
set_option maxRecDepth 100000
set_option linter.unusedVariables false
theorem au5:(prog.info? 62).map (·.size)=some 22:=by kernel_rfl
theorem amE:∀w,(zeroValue 62).run prog w= .ok (.agg #[.string ⟨#[]⟩,.int .i64 0,.int .i64 0,.int .i64 0,.int .i64 0,.int .i64 0,.slice none 0 0,.slice none 0 0,.int .i64 0,.int .i64 0,.string ⟨#[]⟩,.int .i64 0,.int .i64 0,.int .i64 0,.int .i64 0,.int .i64 0,.int .i64 0,.int .i64 0,.int .i64 0,.slice none 0 0,.slice none 0 0,.slice none 0 0]) w:=λ_=>by kernel_rfl
set_option maxHeartbeats 1600000 in
theorem alF(g n cap i j:Nat)(cur:U oZ)(w:Zy)(o:ao w g 62 cur)(S:cur.length=cap*22)(T:i<j)(W:j<=n)(hn:n<=cap)(F:cap<=maxLen)(h1:∀u∈cur.take (n*22),u.oneCell'=true):
 Calls prog 25 #[.slice (some ⟨g,0,none⟩) n cap,.int .i64 i,.int .i64 j] w λe w'=>
  ∃zs:U oZ,zs.length=(j-i)*22/\e= .returned (.slice (some ⟨g,0,none⟩) (n-(j-i)) cap)/\w'=w.drew.setRow g (Go.splice (Go.splice cur (i*22) ((cur.take (n*22)).drop (j*22))) ((n-(j-i))*22) zs).toArray:=by
 unfold maxLen at F;have jq:(i:Int)<=(j:Int):=by omega
 have lK:(j:Int)<=(n:Int):=by omega
 have Gx:((i:Int)==(j:Int))=false:=by simp;omega
 obtain⟨a,d⟩:∃x,x=(cur.take (n*22)).drop (j*22):=⟨_,rfl⟩;have G:a.length=(n-j)*22:=by rw[d,ca,b6];omega
 have H:∀u∈a,u.oneCell'=true:=λu z=>h1 u (by rw[d]at z;exact a6 z);have B:∀q u,a[q]?=some u->w.drew.cell? ((⟨g,j*22,none⟩:Addr).add q)=some u:=λq u b=>by
  rw[Addr.add_lit];rw[d,List.getElem?_drop,List.getElem?_take]at b;split at b;{exact(o.cell _).trans b};{cases b}
 have p:∀k,(k=⟨g,j*22,none⟩\/n-j=0)->∀f c,(Builtin.append_ #[25,25] f #[.slice (some ⟨g,0,none⟩) i cap,.slice (some k) (n-j) c]).run prog w.drew= .ok (.slice (some ⟨g,0,none⟩) (i+(n-j)) cap) (w.drew.setRow g (Go.splice cur (i*22) a).toArray):=λk r f c=>
  apO w.drew 25 f 62 22 underlying25 au5 g i cap cur o k (n-j) c a G (by
   rcases r with rfl|h0
   ·exact B
   ·intro q u b;rw[VC (l:=a) k7]at b;simp at b) H k7 k7
 obtain⟨W1,m⟩:∃W1,W1=w.drew.setRow g (Go.splice cur (i*22) a).toArray:=⟨_,rfl⟩;rw[<-m]at p;have J:ao W1 g 62 (Go.splice cur (i*22) a):=m▸ao.setRow o.drew _;have HW1:=Lib.hid m;clear m;have K:∃zs:U oZ,zs.length=(j-i)*22/\∀f c,(Builtin.clear_ #[25] f #[.slice (some ⟨g,(i+(n-j))*22,none⟩) (n-(i+(n-j))) c]).run prog W1= .ok (.tuple #[]) (W1.setRow g (Go.splice (Go.splice cur (i*22) a) ((i+(n-j))*22) zs).toArray):=by
  obtain⟨zs,L,M⟩:=aut W1 25 62 22 _ underlying25 amE rfl gy g ((i+(n-j))*22) (n-(i+(n-j))) _ 62 J k7 (by rw[length_splice _ _ _ k7];omega);exact⟨zs,by rw[L];congr 1;omega,M⟩
 obtain⟨zs,N,t⟩:=K;rw[<-d];have rQ:i<=cap:=by omega
 have JV:i+(n-j)<=n:=by omega
 have C:∃A:Addr,(if cap=j then some (⟨g,0,none⟩:Addr)else some ⟨g,j*22,none⟩)=some A/\(A=⟨g,j*22,none⟩\/n-j=0):=by
  by_cases h:cap=j;{exact⟨⟨g,0,none⟩,by rw[ae h],Or.inr k7⟩};{exact⟨⟨g,j*22,none⟩,by rw[af h],Or.inl rfl⟩}
 obtain⟨A,C,v⟩:=C;have y:=p A v;have P:=Lib.hid v;clear v;have Q:=Lib.hid d;clear d;clear p B
 go_enter func25,ntmps25
 go_wp2
 go_region_law (refine amK rfl (.tmp 22) (.tmp 25) 25 25 rfl _ _ (by rfl) (by rfl) (y _ _) ?_)
 go_wp2_with (at_builtin;refine R rfl (.tmp 31) 25 rfl _ rfl (t _ _) ?_)
 go_ret
 have E:i+(n-j)=n-(j-i):=by omega
 refine⟨zs,N,by rw[E];rfl,?_⟩;rw[HW1.out,setRow_setRow,E]
end Go.Proofs.YtjploedinjiflaaGreatDoor.MK
namespace Go.Proofs.YtjploedinjiflaaGreatDoor
open Tryz
open Go.RowKit
set_option maxRecDepth 100000
theorem anN{xs:U (U D)}{i L:Nat}(hi:i<L)(e:xs.length=L)(f:∀c∈xs,c.all D.qS=true):da prog 25 [.vec 0 0 L L 22,.d (.v (.int .i64 (i:Int))),.d (.v (.int .i64 ((i+1:Nat):Int)))] [.vec 62 22 (bf xs)] λh h1=>h= .vec 0 0 (L-1) L 22/\h1=[.vec 62 22 (bf (xs.take i++xs.drop (i+1))++[List.replicate 22 .dead])]:=
 anf (E:=62) (K:=22) km gy (λg n a i j b w h1 k l m o p q=>MK.alF g n a i j b w h1 k l m o p q) hi e f
end Go.Proofs.YtjploedinjiflaaGreatDoor
