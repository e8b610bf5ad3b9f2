/- Contracts of package paraxial,and a verified evaluator. Part 7 of 28. No condition beside the row. -/
import Derived.Maps.OwnIn
import Derived.Maps.AppendAt
import Derived.Test.YtfgmlkjibdegfaaGreatDoorA02
import Derived.Test.YtfgmlkjibdegfaaGreatDoorA03
import Derived.Test.YtfgmlkjibdegfaaGreatDoorA05
import Derived.Test.YtfgmlkjibdegfaaGreatDoorA06
set_option linter.unusedVariables false
set_option linter.unusedSimpArgs false
set_option maxRecDepth 100000
set_option maxHeartbeats 4000000
namespace Go.Mono
open Go.RowKit
theorem SlF.unique {w:World} {v:Value} {n m:Nat} {f g:Nat->Int} (h:SlF w v n f) (k:SlF w v m g):n=m∧∀i,i<n->f i=g i:=by
 rcases h with ⟨rfl,rfl⟩|⟨b,off,cap,cs,fr,rfl,_,_,hh,hi⟩
 ·rcases k with ⟨_,rfl⟩|⟨b,off,cap,cs,fr,hv,_⟩
  ·exact⟨rfl,λi hi=>Zo⟩
  ·simp at hv
 ·rcases k with ⟨hv,_⟩|⟨b',off',cap',cs',fr',hv,_,_,hh',hi'⟩
  ·simp at hv
  ·simp only[Ydm,Ybp,Addr.mk.injEq]at hv
   obtain⟨⟨rfl,rfl,_⟩,rfl,_⟩:=hv;rw[hh]at hh';simp at hh';obtain⟨rfl,_⟩:=hh';refine⟨rfl,λi h=>?_⟩;have:=(hi i h).symm.trans (hi' i h);simpa using this
theorem Sz.unique {m m':Nat} {w:World} {v:Value} {N M:Int} (h:Sz m w v N) (k:Sz m' w v M):N=M:=by
 obtain⟨n,f,s1,_,rfl,_⟩:=h;obtain⟨n',g,s2,_,rfl,_⟩:=k;obtain⟨rfl,e⟩:=s1.unique s2;exact Zbk e
noncomputable def szVal (w:World) (v:Value):Int:=Classical.epsilon λN=>∃m,Sz m w v N
theorem Sz.szVal {m:Nat} {w:World} {v:Value} {N:Int} (h:Sz m w v N):Mono.szVal w v=N:=by
 obtain⟨m',h'⟩:=Classical.epsilon_spec (p:=λN=>∃m,Sz m w v N) ⟨N,m,h⟩;exact h'.unique h
theorem Sz.zero (m:Nat) (w:World):Sz m w (.slice none 0 0) 0:=⟨0,λ_=>0,.inl ⟨rfl,rfl⟩,⟨λi hi=>Zo,λi hi=>Zo,λh=>Zo⟩,rfl,Yat _⟩
theorem Sz.len_pos {m:Nat} {w:World} {p:Option Addr} {n c:Nat} {N:Int} (h:Sz m w (.slice p n c) N):0<N↔0<n:=by
 obtain⟨n,f,s1,d,rfl,l,rfl⟩:=h.sl;exact d.pos
def gcdZ (N M:Int):Int:=(Nat.gcd N.toNat M.toNat:Nat)
theorem Zps {N:Int} (h:0<=N):gcdZ N 0=N:=by simp[gcdZ];omega
theorem Zpt {N M:Int} (h:0<=N) (hM:0<M):gcdZ M (N%M)=gcdZ N M:=by
 obtain⟨n,rfl⟩:=Int.eq_ofNat_of_zero_le h;obtain⟨m,rfl⟩:=Int.eq_ofNat_of_zero_le (Yap hM);unfold gcdZ;have e:((n:Int)%(m:Int)).toNat=n%m:=by rw[<-Int.natCast_emod,Ycb]
 rw[e,Ycb,Ycb,Nat.gcd_comm n m,Nat.gcd_rec m n,Nat.gcd_comm]
end Go.Mono
namespace Go.Proofs.W
open Go.RowKit Go.Mono
theorem Zpu (m0:Nat) (w wf:World) (hx:Ext wf w) (p q:Option Addr) (n m c1 c2:Nat) (N M:Int) (h1:Sz m0 wf (.slice p n c1) N) (h2:Sz m0 wf (.slice q m c2) M) (hM:0<M) (hm0:m0<=1000000) :
  Calls Tryz.prog 162 #[.slice p n c1,.slice q m c2] w λe w'=>∃p1 k1 c1 p2 k2 c2,e=.returned (.tuple #[.slice p1 k1 c1,.slice p2 k2 c2])∧Sz m0 w' (.slice p1 k1 c1) (N/M)∧Sz m0 w' (.slice p2 k2 c2) (N%M)∧Below w.heap.size w w':=by
 have hN:=h1.nonneg;rcases Ycz N M with hlt|hle
 ·refine(Zpq m0 m0 w wf hx p q n m c1 c2 N M h1 h2 hlt).mono ?_
  rintro e w' ⟨rfl,k,rfl⟩;refine⟨_,_,_,_,_,_,rfl,?_,?_,below_drewN (Yae _ _) k⟩
  ·rw[Int.ediv_eq_zero_of_lt hN hlt];exact Sz.zero _ _
  ·rw[Int.emod_eq_of_lt hN hlt];exact h1.ext (hx.below (below_drewN (Yae _ _) k))
 ·obtain⟨n',f,s1,d1,rfl,l1,rfl⟩:=(h1.ext hx).sl
  obtain⟨m',g,s2,d2,rfl,l2,rfl⟩:=(h2.ext hx).sl;have hml:=d2.len_le d1 hle;have hm0':=d2.pos.1 hM;by_cases hm1:m'=1
  ·subst hm1
   refine(Zst m0 w w (Ext.refl _) p q n' c1 c2 _ _ ⟨n',f,s1,d1,rfl,l1⟩ ⟨1,g,s2,d2,rfl,Yab _⟩ hM hle hm0).mono ?_;rintro e w' ⟨p1,k1,c3,p2,k2,c4,rfl,z1,z2,hb⟩;exact⟨_,_,_,_,_,_,rfl,z1,z2.mono Zo,hb⟩
  ·obtain⟨m,rfl⟩:∃m,m'=m+2:=⟨m'-2,Zo⟩
   refine(Zpr p q n' m c1 c2 f g w s1 s2 d1 d2 Zo hle).mono ?_;rintro e w' ⟨p1,k1,c3,p2,k2,c4,rfl,z1,z2,hb⟩;exact⟨_,_,_,_,_,_,rfl,z1.mono l1,z2.mono l2,hb⟩
theorem Zej (m0:Nat) (w wf:World) (hx:Ext wf w) (p q:Option Addr) (n m c1 c2:Nat) (N M:Int) (h1:Sz m0 wf (.slice p n c1) N) (h2:Sz m0 wf (.slice q m c2) M) (hm0:m0<=1000000) :
  Calls Tryz.prog 117 #[.slice p n c1,.slice q m c2] w λe w'=>∃p k c,e=.returned (.slice p k c)∧Sz m0 w' (.slice p k c) (gcdZ N M)∧Below w.heap.size w w':=by
 replace h1:=h1.ext hx;replace h2:=h2.ext hx;go_enter Tryz.func117,Tryz.ntmps117
 go_wp2_with fail
 go_loopw [0,1] (λa b wr=>∃p n c q m d A B,a=.slice p n c∧b=.slice q m d∧Sz m0 wr (.slice p n c) A∧Sz m0 wr (.slice q m d) B∧gcdZ A B=gcdZ N M∧Below w.heap.size w wr) (λ_ b wr=>(szVal wr b).toNat)
 case atStart=>exact⟨_,_,_,_,_,_,_,_,rfl,rfl,h1,h2,rfl,Yae _ _⟩
 case round=>
  clear h1 h2 hx;obtain⟨p,n,c,q,m,d,A,B,rfl,rfl,h1,h2,hg,hb⟩:=hrel;have hA:=h1.nonneg;have hv:=h2.szVal;have hl:=h2.len_pos;replace hg:=Yah hg;replace hv:=Yah hv;by_cases h0:0<m
  ·have hB:=hl.2 h0
   clear hl;have ho:=Zpu m0 wr wr (Ext.refl _) p q n m c d A B h1 h2 hB hm0;go_wp2_with (go_at_call 162;refine ho.mono ?_;rintro e w' ⟨p1,k1,c3,p2,k2,c4,rfl,z1,z2,hb2⟩)
   go_roundw
   case rel=>exact⟨_,_,_,_,_,_,_,_,rfl,rfl,h2.ext (.of_below hb2),z2,(Zpt hA hB).trans hg.out,Zdw hb hb2⟩
   case measure=>
    rw[z2.szVal,hv.out];have:=Ybu A hB;have:=Ycc A (show B≠0 by omega);omega
  ·have hB:B=0:=by have:=h2.nonneg;omega
   obtain rfl:m=0:=Zo;replace hB:=Yah hB;clear hl;go_wp2
   go_ret
   refine⟨_,_,_,rfl,?_,hb⟩;rw[<-hg.out,hB.out,Zps hA];exact h1
theorem Zc9 (m0:Nat) (w wf:World) (hx:Ext wf w) (p q:Option Addr) (n m c1 c2:Nat) (N M:Int) (h1:Sz m0 wf (.slice p n c1) N) (h2:Sz m0 wf (.slice q m c2) M) (hM:0<M) (hm0:m0<=1000000) :
  Calls Tryz.prog 118 #[.slice p n c1,.slice q m c2] w λe w'=>∃p1 k1 c1,e=.returned (.slice p1 k1 c1)∧Sz m0 w' (.slice p1 k1 c1) (N/M)∧Below w.heap.size w w':=by
 have ho:=Zpu m0 w wf hx p q n m c1 c2 N M h1 h2 hM hm0;go_enter Tryz.func118,Tryz.ntmps118
 go_wp2_with (go_at_call 162;refine ho.mono ?_;rintro e w' ⟨p1,k1,c3,p2,k2,c4,rfl,z1,z2,hb2⟩)
 go_ret
 exact⟨_,_,_,rfl,z1,hb2⟩
end Go.Proofs.W
namespace Go.Mono
open Go.RowKit
theorem Zq9 {f:Nat->Int} {k:Nat} (h0:∀i,i<k->0<=f i) (h1:∀i,i<k->f i<1000000000):(0<trimN f k)↔0<vf f k:=by
 obtain⟨a,b⟩:=Zb2 h0 h1;rw[<-b];exact a.pos.symm
theorem Zop {f:Nat->Int} {k:Nat} (h:¬(0<k∧f (k-1)=0)):trimN f k=k:=by
 by_cases hk:0<k
 ·exact Zmj f k hk (λe=>h ⟨hk,e⟩)
 ·obtain rfl:k=0:=by omega
  rfl
end Go.Mono
namespace Go.Proofs.W
open Go.RowKit Go.Mono
theorem Zae:(Tryz.prog.info? 52).map (·.size)=some 2:=Zk
theorem Zlu (neg nb:Bool) (p:Option Addr) (n c K:Nat) (f:Nat->Int) (w:World) (h:SlF w (.slice p n c) n f) (hn6:n<=1000000) (hK:Hid (trimN f n=K)) (hN:Hid ((neg&&decide (0<K))=nb)) :
  Calls Tryz.prog 180 #[.bool neg,.slice p n c] w λe w'=>∃v,e=.returned (.agg #[.bool nb,v])∧OwnF w' w.heap.size v K f∧Below w.heap.size w w':=by
 obtain⟨hc,hn,hx⟩:=h.opens;have hsl:=h;clear h;go_enter Tryz.func180,Tryz.ntmps180
 go_wp2_with fail
 refine Zbo λW hB hs b0=>?_;go_loopw [5] (λa wr=>∃k:Nat,k<=n∧a=.int .i64 (k:Int)∧trimN f k=trimN f n∧wr=W) (λa _=>(intOf a).toNat)
 case atStart=>exact⟨n,Yab _,rfl,rfl,rfl⟩
 case round=>
  obtain⟨k,hk,rfl,ht,hWe⟩:=hrel;obtain rfl:W=wr:=hWe.symm;have HT:=Yah ht;clear ht;by_cases h0:0<k∧f (k-1)=0
  ·obtain⟨hk0,hz⟩:=h0
   obtain⟨b,off,rfl,hb,hcell⟩:=hx Zo;have hcl:=(hB.cell (p:=⟨b,off+(k-1),none⟩) hb).trans (hcell (k-1) Zo);rw[hz]at hcl;obtain⟨k,rfl⟩:∃j,k=j+1:=⟨k-1,Zo⟩
   have hz':=Zht f (k+1) hk0 hz;simp only[Ybf]at hcl hz';replace hz':=Yah hz';replace hz:=Yah hz;clear hcell hx;go_wp2
   go_roundw
   case rel=>exact⟨k,Zo,Zs,by rw[<-hz'.out];exact HT.out,trivial⟩
   case measure=>simp[intOf]
  ·have hk':=Zop h0
   obtain rfl:k=K:=by rw[<-hK.out,<-HT.out,hk']
   clear hK hk' HT;have hw0:=hB.size;by_cases hk0:0<k
   ·have hz:¬f (k-1)=0:=λe=>h0 ⟨hk0,e⟩
    obtain⟨b,off,rfl,hb,hcell⟩:=hx Zo;have hcl:=(hB.cell (p:=⟨b,off+(k-1),none⟩) hb).trans (hcell (k-1) Zo);obtain⟨k,rfl⟩:∃j,k=j+1:=⟨k-1,Zo⟩
    simp only[Ybf]at hcl hz;have hz2:(f k==0)=false:=by simpa using hz
    replace hz:=Yah hz;clear h0;cases neg;all_goals
     go_wp2
     go_loopw [7] (λa W2=>∃(i:Nat) (v:Value),i<=k+1∧a=.int .i64 (i:Int)∧OwnF W2 (W.heap.size+1) v i f∧Box W2 W.heap.size 52 #[.bool nb,v]∧Box W2 w.heap.size 52 #[.bool false,.slice none 0 0]∧Below w.heap.size w W2∧W.heap.size+1<=W2.heap.size) (λa _=>(k+1-intOf a).toNat)
     case atStart=>exact⟨0,_,Yat _,rfl,OwnF.nil _ _ _,by rw[<-hN.out];exact Box.new _ _ _,b0.alloc _,Zad hB _,Zs⟩
     case round=>
      obtain⟨i,v,hi,rfl,ho,b1,b2,hB2,hs2⟩:=hrel;by_cases hik:i<k+1
      ·have hci:=(hB2.cell (p:=⟨b,off+i,none⟩) hb).trans (hcell i Zo)
       have hik':(i:Int)<k+1:=Zo;obtain⟨pv,cv,rfl⟩:=ho.shape;have hin:i<n:=Zo;have hin':(i:Int)<n:=Zo;have bX1:=b1.drew;have bX2:=b2.drew;have hoX:=ho.below (Yae wr.heap.size wr).drew;have hBX:=hB2.drew;have hX1:wr.drew.cell? ⟨W.heap.size,1,none⟩=some (.slice pv i cv):=bX1.cell 1;have hX2:wr.drew.cell? ⟨b,off+i,none⟩=some (.int .i64 (f i)):=hci;have hsX:W.heap.size+1<=wr.drew.heap.size:=hs2;clear hcell hx hcl b1 b2 ho hci;go_wp2_with fail
       refine wp_region_held_drew (S:=λw'=>Below w.heap.size w w') Zx hBX (λhHeld=>?_);generalize wr.drew=X0 at *;refine tk 0 (some 33) ?_;refine tk 2 (some 35) ?_;refine tk 3 (some 36) ?_;refine tk 4 (some 37) ?_;refine Mono.fork2 1 5 ?_ ?_
       ·intro K hK
        refine Mono.arma (some 34) hK (.slice pv i cv) X0 hHeld (λhHeld=>Mono.pt ?_) rfl Zx (by go_simp);clear hK K;refine Mono.sta 5 (some 38) (.int .i64 (f i)) X0 hHeld (λhHeld=>Mono.pt ?_) rfl rfl Zx Zx (by go_simp);refine Mono.sta 6 (some 39) (.slice (some ⟨X0.heap.size,0,none⟩) 1 1) (X0.alloc (.cells #[.int .i64 (f i)] 3)) (Zad hHeld _) (λhHeld=>Mono.pt ?_);refine Mono.st 7 ?_;intro K hK;rw[if_pos Zx];refine Zea (.tmp 34) (.tmp 39) 33 rfl Tryz.underlying33 Zbz (W.heap.size+1) (.slice pv i cv) i f rfl (hoX.below (Zad (Yae _ _) _)) X0.heap.size (f i) rfl (Box.new _ _ _) Zo (by simp;omega) ?_;intro v' X1 ho' hg;have hz:Below (W.heap.size+1) X0 X1:=((Yae (W.heap.size+1) X0).alloc hsX _).grown hg (by simp;omega) (λk hk=>hoX.low k hk);obtain⟨p',c',rfl⟩:=ho'.shape;have b1':=bX1.low hz Zo;have b2':=bX2.low hz Zo;have hB1:=hBX.trans (hz.mono Zo);have hs1:=hz.size;refine hK.out _ _ hB1 (λhHeld=>Mono.pt ?_);clear hK K hg hz bX1 bX2 hoX hBX hX1 hX2;refine tk 8 (some 41) ?_;have cb1:=b1'.cell;have fb1:=b1'.frozen;have lb1:=b1'.lt;refine Mono.st 9 ?_;intro K hK;go_simp
        refine kp hK (Zai hB1 Zo _ _) (λhHeld=>?_);clear hK K;refine wpAnyH_done Zx ?_ _;go_wp2
        go_roundw
        case rel=>
         refine⟨i+1,_,Zo,Zs,?_,b1'.set 1 _,b2'.other _ _ (by show w.heap.size≠W.heap.size;omega),hHeld,by simp;omega⟩;refine OwnF.congr (ho'.set _ _ (by show W.heap.size<_;omega)) λj hj=>?_;by_cases hji:j<i
         ·rw[if_pos hji]
         ·rw[if_neg hji]
          congr 1;omega
        case measure=>simp[intOf];omega
       ·intro K hK
        refine Mono.arma (some 38) hK (.int .i64 (f i)) X0 hHeld (λhHeld=>Mono.pt ?_) rfl Zx (by go_simp);clear hK K;refine Mono.fork2 1 6 ?_ ?_
        ·intro K hK
         refine Mono.arma (some 34) hK (.slice pv i cv) X0 hHeld (λhHeld=>Mono.pt ?_) rfl Zx (by go_simp);clear hK K;refine Mono.sta 6 (some 39) (.slice (some ⟨X0.heap.size,0,none⟩) 1 1) (X0.alloc (.cells #[.int .i64 (f i)] 3)) (Zad hHeld _) (λhHeld=>Mono.pt ?_);refine Mono.st 7 ?_;intro K hK;rw[if_pos Zx];refine Zea (.tmp 34) (.tmp 39) 33 rfl Tryz.underlying33 Zbz (W.heap.size+1) (.slice pv i cv) i f rfl (hoX.below (Zad (Yae _ _) _)) X0.heap.size (f i) rfl (Box.new _ _ _) Zo (by simp;omega) ?_;intro v' X1 ho' hg;have hz:Below (W.heap.size+1) X0 X1:=((Yae (W.heap.size+1) X0).alloc hsX _).grown hg (by simp;omega) (λk hk=>hoX.low k hk);obtain⟨p',c',rfl⟩:=ho'.shape;have b1':=bX1.low hz Zo;have b2':=bX2.low hz Zo;have hB1:=hBX.trans (hz.mono Zo);have hs1:=hz.size;refine hK.out _ _ hB1 (λhHeld=>Mono.pt ?_);clear hK K hg hz bX1 bX2 hoX hBX hX1 hX2;refine tk 8 (some 41) ?_;have cb1:=b1'.cell;have fb1:=b1'.frozen;have lb1:=b1'.lt;refine Mono.st 9 ?_;intro K hK;go_simp
         refine kp hK (Zai hB1 Zo _ _) (λhHeld=>?_);clear hK K;refine wpAnyH_done Zx ?_ _;go_wp2
         go_roundw
         case rel=>
          refine⟨i+1,_,Zo,Zs,?_,b1'.set 1 _,b2'.other _ _ (by show w.heap.size≠W.heap.size;omega),hHeld,by simp;omega⟩;refine OwnF.congr (ho'.set _ _ (by show W.heap.size<_;omega)) λj hj=>?_;by_cases hji:j<i
          ·rw[if_pos hji]
          ·rw[if_neg hji]
           congr 1;omega
         case measure=>simp[intOf];omega
        ·intro K hK
         have hX1':(X0.alloc (.cells #[.int .i64 (f i)] 3)).cell? ⟨W.heap.size,1,none⟩=some (.slice pv i cv):=(bX1.alloc _).cell 1;refine Mono.arma (some 39) hK (.slice (some ⟨X0.heap.size,0,none⟩) 1 1) (X0.alloc (.cells #[.int .i64 (f i)] 3)) (Zad hHeld _) (λhHeld=>Mono.pt ?_);clear hK K;refine Mono.sta 1 (some 34) (.slice pv i cv) (X0.alloc (.cells #[.int .i64 (f i)] 3)) hHeld (λhHeld=>Mono.pt ?_) rfl rfl Zx Zx (by go_simp);refine Mono.st 7 ?_;intro K hK;rw[if_pos Zx];refine Zea (.tmp 34) (.tmp 39) 33 rfl Tryz.underlying33 Zbz (W.heap.size+1) (.slice pv i cv) i f rfl (hoX.below (Zad (Yae _ _) _)) X0.heap.size (f i) rfl (Box.new _ _ _) Zo (by simp;omega) ?_;intro v' X1 ho' hg;have hz:Below (W.heap.size+1) X0 X1:=((Yae (W.heap.size+1) X0).alloc hsX _).grown hg (by simp;omega) (λk hk=>hoX.low k hk);obtain⟨p',c',rfl⟩:=ho'.shape;have b1':=bX1.low hz Zo;have b2':=bX2.low hz Zo;have hB1:=hBX.trans (hz.mono Zo);have hs1:=hz.size;refine hK.out _ _ hB1 (λhHeld=>Mono.pt ?_);clear hK K hg hz bX1 bX2 hoX hBX hX1 hX2;refine tk 8 (some 41) ?_;have cb1:=b1'.cell;have fb1:=b1'.frozen;have lb1:=b1'.lt;refine Mono.st 9 ?_;intro K hK;go_simp
         refine kp hK (Zai hB1 Zo _ _) (λhHeld=>?_);clear hK K;refine wpAnyH_done Zx ?_ _;go_wp2
         go_roundw
         case rel=>
          refine⟨i+1,_,Zo,Zs,?_,b1'.set 1 _,b2'.other _ _ (by show w.heap.size≠W.heap.size;omega),hHeld,by simp;omega⟩;refine OwnF.congr (ho'.set _ _ (by show W.heap.size<_;omega)) λj hj=>?_;by_cases hji:j<i
          ·rw[if_pos hji]
          ·rw[if_neg hji]
           congr 1;omega
         case measure=>simp[intOf];omega
      ·obtain rfl:i=k+1:=by omega
       obtain⟨pv,cv,rfl⟩:=ho.shape;have hlong:=Zae;have cb1:=b1.cell;have lb1:=b1.lt;have fb1:=b1.frozen;have cb2:=b2.cell;have lb2:=b2.lt;have fb2:=b2.frozen;clear hcell hx hcl;go_wp2
       have b4:=(b2.set 0 (.bool nb)).set 1 (.slice pv (k+1) cv);refine bodyPost_ret (b4.results rfl _ _ rfl Tryz.underlying52 rfl Zae) rfl ⟨.slice pv (k+1) cv,rfl,?_,Zai (Zai hB2 (Yab _) _ _) (Yab _) _ _⟩;exact((ho.set _ _ (by show w.heap.size<_;omega)).set _ _ (by show w.heap.size<_;omega)).lower Zo
   ·obtain rfl:k=0:=by omega
    cases neg;all_goals
     go_wp2
     go_loopw [7] (λa W2=>a=.int .i64 0∧Box W2 W.heap.size 52 #[.bool nb,.slice none 0 0]∧Box W2 w.heap.size 52 #[.bool false,.slice none 0 0]∧Below w.heap.size w W2) (λa _=>0)
     case atStart=>exact⟨rfl,by rw[<-hN.out];exact Box.new _ _ _,b0.alloc _,Zad hB _⟩
     case round=>
      obtain⟨rfl,b1,b2,hB2⟩:=hrel;have cb1:=b1.cell;have lb1:=b1.lt;have fb1:=b1.frozen;have cb2:=b2.cell;have lb2:=b2.lt;have fb2:=b2.frozen;clear hx;go_wp2
      have b4:=(b2.set 0 (.bool nb)).set 1 (.slice none 0 0);refine bodyPost_ret (b4.results rfl _ _ rfl Tryz.underlying52 rfl Zae) rfl ⟨.slice none 0 0,rfl,OwnF.nil _ _ _,Zai (Zai hB2 (Yab _) _ _) (Yab _) _ _⟩
theorem Zbp (neg:Bool) (p:Option Addr) (n c:Nat) (f:Nat->Int) (w:World) (h:SlF w (.slice p n c) n f) (hn6:n<=1000000) (f0:∀i,i<n->0<=f i) (f1:∀i,i<n->f i<1000000000) :
  Calls Tryz.prog 180 #[.bool neg,.slice p n c] w λe w'=>∃v,e=.returned (.agg #[.bool (neg&&decide (0<vf f n)),v])∧OwnF w' w.heap.size v (trimN f n) f∧Digs f (trimN f n)∧vf f (trimN f n)=vf f n∧Below w.heap.size w w':=by
 obtain⟨d1,d2⟩:=Zb2 f0 f1;have hp:=Zq9 f0 f1;refine(Zlu neg (neg&&decide (0<vf f n)) p n c (trimN f n) f w h hn6 (Yah rfl) (Yah (by simp only[hp]))).mono ?_;rintro e w' ⟨v,rfl,ho,hb⟩;exact⟨v,rfl,ho,d1,d2,hb⟩
end Go.Proofs.W
namespace Go.Mono
open Go.RowKit
section
section
variable {P:Program} {ops:Array Oper} {rest:List Oper} {o1 o2 o3 o4:Oper} {a:Act} {w:World} {Q:Exit->Act->World->Prop}
theorem Zec (T:TypeId) (d:Tmp) (y:Operand) (C zs:Array Value) (g1:o1.guard=none) (h1:o1.op=.alloc T) (e1:o1.dst=some d) (g2:o2.guard=none) (h2:o2.op=.store T (.tmp d) y) (e2:o2.dst=none)
  (hrun:∀w,(Instr.alloc T true (.tuple #[])).run P w=.ok (.pointer (some ⟨w.heap.size,0,none⟩)) (w.alloc (.cells zs T)))
  (hx:∀p,(a.put (some d) p).eval (.tmp d)=p) (hy:∀p,(a.put (some d) p).eval y=.agg C) (hi:(P.info? T).map (·.size)=some C.size) (hs:zs.size=C.size) (ho:C.all (·.oneCell')=true)
  (h:∀W B,w.heap.size<=B->Below w.heap.size w W->Box W B T C->wpList P ops Q rest (a.put (some d) (.pointer (some ⟨B,0,none⟩))) W):wpList P ops Q (o1::o2::rest) a w:=by
 refine Zaq g1 T h1 zs hrun ?_;intro W1 B hle hb b1;rw[e1];refine Zab g2 T (.tmp d) y h2 B 0 T zs C C (hx _) (hy _) b1 hi (by rw[Yba];exact Ybl hs.symm) ho (Zah hs) ?_;intro W2 hk b2;rw[e2];exact h W2 B hle (hk.below hb hle hb.size) b2
theorem Zcb (T:TypeId) (d d':Tmp) (y y':Operand) (C C' zs:Array Value) (g1:o1.guard=none) (h1:o1.op=.alloc T) (e1:o1.dst=some d) (g2:o2.guard=none) (h2:o2.op=.alloc T) (e2:o2.dst=some d')
  (g3:o3.guard=none) (h3:o3.op=.store T (.tmp d) y) (e3:o3.dst=none) (g4:o4.guard=none) (h4:o4.op=.store T (.tmp d') y') (e4:o4.dst=none)
  (hrun:∀w,(Instr.alloc T true (.tuple #[])).run P w=.ok (.pointer (some ⟨w.heap.size,0,none⟩)) (w.alloc (.cells zs T)))
  (hx:∀p p',((a.put (some d) p).put (some d') p').eval (.tmp d)=p) (hx':∀p p',((a.put (some d) p).put (some d') p').eval (.tmp d')=p') (hy:∀p p',((a.put (some d) p).put (some d') p').eval y=.agg C) (hy':∀p p',((a.put (some d) p).put (some d') p').eval y'=.agg C')
  (hi:(P.info? T).map (·.size)=some zs.size) (hs:zs.size=C.size) (hs':zs.size=C'.size) (ho:C.all (·.oneCell')=true) (ho':C'.all (·.oneCell')=true)
  (h:∀W B B',w.heap.size<=B->w.heap.size<=B'->B≠B'->Below w.heap.size w W->Box W B T C->Box W B' T C'->wpList P ops Q rest ((a.put (some d) (.pointer (some ⟨B,0,none⟩))).put (some d') (.pointer (some ⟨B',0,none⟩))) W):wpList P ops Q (o1::o2::o3::o4::rest) a w:=by
 refine Zaq g1 T h1 zs hrun ?_;intro W1 B hle hb b1;rw[e1];have hB1:=b1.lt;refine Zaq g2 T h2 zs hrun ?_;intro W2 B' hle' hb' b1';rw[e2];have hBB:B≠B':=Zo;have b12:=b1.below hb';refine Zab g3 T (.tmp d) y h3 B 0 T zs C C (hx _ _) (hy _ _) b12 (by rw[<-hs];exact hi) (by rw[Yba];exact Ybl hs.symm) ho (Zah hs) ?_;intro W3 hk b2;rw[e3];have b13:=hk.box b1' b1'.lt (λh=>hBB h.symm);refine Zab g4 T (.tmp d') y' h4 B' 0 T zs C' C' (hx' _ _) (hy' _ _) b13 (by rw[<-hs'];exact hi) (by rw[Yba];exact Ybl hs'.symm) ho' (Zah hs') ?_;intro W4 hk4 b4;rw[e4];have b5:=hk4.box b2 b2.lt hBB;have hw1:=Zaa hb hb';have hw3:=hk.below hw1 hle hw1.size;exact h W4 B B' hle (by have:=hb.size;omega) hBB (hk4.below hw3 (by have:=hb.size;omega) hw3.size) b5 b4
end
end
theorem Box.ne {w:World} {B B':Nat} {T T':TypeId} {cs cs':Array Value} (b:Box w B T cs) (b':Box w B' T' cs') (h:T≠T'):B≠B':=by
 rintro rfl;have e:=b.blk.symm.trans b'.blk;simp at e;exact h e.2
theorem Zc4 {W W':World} {base:Nat} {e:TypeId} {size n:Nat} {v:Value} {xs:List Value} (h:W.ownsRow base e size v n xs) (hs:∀g,v.ownBlock=some g->W'.heap[g]? = W.heap[g]?):W'.ownsRow base e size v n xs:=by
 refine⟨h.1,?_⟩;rcases h.2 with h2|⟨g,cap,cur,hv,hb,hg,h3⟩
 ·exact .inl h2
 ·exact .inr ⟨g,cap,cur,hv,hb,(hs g (by rw[hv];rfl)).trans hg,h3⟩
theorem Zbj {W:World} {base:Nat} {e:TypeId} {size n:Nat} {v:Value} {xs:List Value} (h:W.ownsRow base e size v n xs) {g:Nat} (hg:v.ownBlock=some g):g<W.heap.size∧base<=g∧∃cur,Box W g e cur:=by
 rcases h.2 with ⟨rfl,_⟩|⟨g',cap,cur,rfl,hb,hgb,_⟩
 ·cases hg
 ·obtain rfl:g'=g:=by simpa[Value.ownBlock]using hg
  exact⟨Zao hgb,hb,cur,⟨hgb⟩⟩
theorem Zaf {W W':World} {base:Nat} {e:TypeId} {size n:Nat} {v:Value} {xs:List Value} (h:W.ownsRow base e size v n xs) (hB:Below W.heap.size W W'):W'.ownsRow base e size v n xs:=
 Zc4 h λg hg=>hB.block g (Zbj h hg).1
theorem Zap {W W':World} {base:Nat} {e:TypeId} {size n:Nat} {v:Value} {xs:List Value} (h:W.ownsRow base e size v n xs) {R:Nat} {T:TypeId} {cs:Array Value} (b:Box W R T cs) (hT:T≠e) (hk:KeepBut R W.heap.size W W'):W'.ownsRow base e size v n xs:=
 Zc4 h λg hg=>by
  obtain⟨h1,_,cur,h3⟩:=Zbj h hg;exact hk.block g h1 (λe'=>Box.ne b h3 hT e'.symm)
theorem Box.appended {W W':World} {base:Nat} {e:TypeId} {size n:Nat} {v:Value} {xs:List Value} (h:W.ownsRow base e size v n xs) (hg:W.grownBy W' v.ownBlock) {B:Nat} {T:TypeId} {cs:Array Value} (b:Box W B T cs) (hT:T≠e):Box W' B T cs:=by
 obtain⟨_,_,_,_,hb⟩:=hg;refine⟨(hb B b.lt λe'=>?_).trans b.blk⟩;obtain⟨_,_,cur,h3⟩:=Zbj h e'.symm;exact Box.ne b h3 hT rfl
theorem Ext.appended {W W':World} {base:Nat} {e:TypeId} {size n:Nat} {v:Value} {xs:List Value} (h:W.ownsRow base e size v n xs) (hg:W.grownBy W' v.ownBlock) (he:e≠3):Ext W W':=by
 obtain⟨_,_,_,hsz,hb⟩:=hg;refine⟨hsz,λk cs fr hk=>(hb k (Zao hk) λe'=>?_).trans hk⟩;obtain⟨_,_,cur,h3⟩:=Zbj h e'.symm;have:=h3.blk.symm.trans hk;simp at this;exact he this.2.1
theorem Below.appended {W W':World} {base:Nat} {e:TypeId} {size n:Nat} {v:Value} {xs:List Value} (h:W.ownsRow base e size v n xs) (hg:W.grownBy W' v.ownBlock) {w:World} (hB:Below w.heap.size w W) (hb:w.heap.size<=base):Below w.heap.size w W':=
 hB.grown hg hB.size λk e'=>by have:=(Zbj h e').2.1;omega
theorem KeepsOthers.appended {W W':World} {base:Nat} {e:TypeId} {size n:Nat} {v:Value} {xs:List Value} (h:W.ownsRow base e size v n xs) (hg:W.grownBy W' v.ownBlock):KeepsOthers W W':=by
 obtain⟨_,_,_,hsz,hb⟩:=hg;refine⟨hsz,λk o hk ho=>(hb k (Zao hk) λe'=>?_).trans hk⟩;obtain⟨_,_,cur,h3⟩:=Zbj h e'.symm;have:=h3.blk.symm.trans hk;cases (Yej this);cases ho
theorem KeepsOthers.keepBut {W W':World} {R:Nat} {T:TypeId} {cs:Array Value} (b:Box W R T cs) (hk:KeepBut R W.heap.size W W'):KeepsOthers W W':=
 ⟨hk.size,λk o ho hc=>(hk.block k (Zao ho) λe=>by
  subst e;have:=b.blk.symm.trans ho;cases (Yej this);cases hc).trans ho⟩
theorem Ext.grownNo {W W':World} {row:Option Nat} (hg:W.grownBy W' row) (hr:∀r,row=some r->∃o:Obj,W.heap[r]? = some o∧o.isCells=false):Ext W W':=by
 obtain⟨_,_,_,hsz,hb⟩:=hg;refine⟨hsz,λk cs fr hk=>(hb k (Zao hk) λe'=>?_).trans hk⟩;obtain⟨o,ho,hc⟩:=hr k e'.symm;rw[hk]at ho;cases ho;cases hc
theorem Zdj {W W':World} {base:Nat} {e:TypeId} {size n:Nat} {v:Value} {xs:List Value} (h:W.ownsRow base e size v n xs) {row:Option Nat} (hg:W.grownBy W' row) (hr:∀r,row=some r->∃o:Obj,W.heap[r]? = some o∧o.isCells=false):W'.ownsRow base e size v n xs:=by
 obtain⟨_,_,_,hsz,hb⟩:=hg;refine Zc4 h λg hgv=>hb g (Zbj h hgv).1 λe'=>?_;obtain⟨_,_,cur,h3⟩:=Zbj h hgv;obtain⟨o,ho,hc⟩:=hr g e'.symm;rw[h3.blk]at ho;cases ho;cases hc
end Go.Mono
namespace Go.Proofs.W
open Go.RowKit Go.Mono
theorem Zjn (neg:Bool) (p1 p2:Option Addr) (k1 c1 k2 c2 m1 m2:Nat) (n1 n2:Int) (w wf:World) (hx:Ext wf w) (h1:Sz m1 wf (.slice p1 k1 c1) n1) (h2:Sz m2 wf (.slice p2 k2 c2) n2) (hm1:m1<=1000000) (hm2:m2<=1000000) :
  Calls Tryz.prog 119 #[.agg #[.bool neg,.slice p1 k1 c1],.slice p2 k2 c2] w λe w'=>∃p n c,e=.returned (.agg #[.bool neg,.slice p n c])∧Sz (m1+m2) w' (.slice p n c) (n1*n2)∧Below w.heap.size w w':=by
 go_enter Tryz.func119,Tryz.ntmps119
 go_wp2
 refine Zeh λW hB hs b0 b1=>?_;have z1:=h1.ext (hx.below hB);have z2:=h2.ext (hx.below hB);have c0:=b0.cell;have l0:=b0.lt;have K0:=KeepBut.refl (w.heap.size+1) W;clear h1 h2 hx;go_region_held3 (λw'=>(∀b o,b<W.heap.size->b≠w.heap.size+1->w'.cell? ⟨b,o,none⟩=W.cell? ⟨b,o,none⟩)∧KeepBut (w.heap.size+1) W.heap.size W w') ((refine KeepBut.S ?_;first|exact K0.drew|(repeat' (first|exact Yai ‹_› | exact KeepBut.call (Yai ‹_›) ‹_› | refine KeepBut.set ?_ _ _)))) (first|(go_at_call 116;refine(Zfy m1 m2 _ W (KeepBut.ext (Yai ‹_›) b1 Zd) _ _ _ _ _ _ n1 n2 z1 z2 hm1 hm2).mono ?_;rintro e w' ⟨p,n,c,rfl,hv,hb⟩;have b1':=b1.drew.below hb;have k1:=b1'.cell;have f1:=b1'.frozen))
 go_wp2
 have b2:=((b1'.set 0 (.bool neg)).set 1 (.slice p n c)).cell;refine bodyPost_ret (v:=.agg #[.bool neg,.slice p n c]) (by simp[results,Tryz.results119,go_sem,b2]) rfl ⟨p,n,c,rfl,?_,?_⟩
 ·exact hv.ext (((Ext.refl _).set b1' Zd _ _).set (b1'.set _ _) Zd _ _)
 ·exact KeepBut.below (Yai ‹_›) hB Zo hB.size
end Go.Proofs.W
namespace Go.Mono
theorem Sg.add_same {s:Bool} {a b:Int} (h:Sg s a) (k:Sg s b):Sg s (a+b)∧(a+b).natAbs=a.natAbs+b.natAbs:=by
 cases s
 ·have:=h.2 rfl;have:=k.2 rfl
  exact⟨⟨λh=>by simp at h,λ_=>Zo⟩,Zo⟩
 ·have:=h.1 rfl;have:=k.1 rfl
  exact⟨⟨λ_=>Zo,λh=>by simp at h⟩,Zo⟩
theorem Sg.add_less {s:Bool} {a b:Int} (h:Sg s a) (k:Sg (!s) b) (hl:(a.natAbs:Int)<b.natAbs):Sg (!s) (a+b)∧((a+b).natAbs:Int)=b.natAbs-a.natAbs:=by
 cases s
 ·have:=h.2 rfl;have:=k.1 rfl
  exact⟨⟨λ_=>Zo,λh=>by simp at h⟩,Zo⟩
 ·have:=h.1 rfl;have:=k.2 rfl
  exact⟨⟨λh=>by simp at h,λ_=>Zo⟩,Zo⟩
theorem Sg.add_more {s:Bool} {a b:Int} (h:Sg s a) (k:Sg (!s) b) (hl:(b.natAbs:Int)<=a.natAbs):Sg s (a+b)∧((a+b).natAbs:Int)=a.natAbs-b.natAbs:=by
 cases s
 ·have:=h.2 rfl;have:=k.1 rfl
  exact⟨⟨λh=>by simp at h,λ_=>Zo⟩,Zo⟩
 ·have:=h.1 rfl;have:=k.2 rfl
  exact⟨⟨λ_=>Zo,λh=>by simp at h⟩,Zo⟩
end Go.Mono
namespace Go.Proofs.W
open Go.RowKit Go.Mono
theorem Zsu (s1 s2:Bool) (p1 p2:Option Addr) (k1 c1 k2 c2 m:Nat) (n1 n2:Int) (w wf:World) (hx:Ext wf w) (h1:Sz m wf (.slice p1 k1 c1) n1.natAbs) (h2:Sz m wf (.slice p2 k2 c2) n2.natAbs) (g1:Sg s1 n1) (g2:Sg s2 n2) (hm:m<=1000000) :
  Calls Tryz.prog 120 #[.agg #[.bool s1,.slice p1 k1 c1],.agg #[.bool s2,.slice p2 k2 c2]] w λe w'=>∃s p n c,e=.returned (.agg #[.bool s,.slice p n c])∧Sg s (n1+n2)∧Sz (m+1) w' (.slice p n c) (n1+n2).natAbs∧Below w.heap.size w w':=by
 by_cases hs12:s1=s2
 ·subst hs12
  obtain⟨e1,e2⟩:=g1.add_same g2;replace e2:=Yah e2;clear g1 g2;go_enter Tryz.func120,Tryz.ntmps120
  go_wp2_with fail
  refine Zfs λW hB hs b0 b1 b2=>?_;have z1:=h1.ext (hx.below hB);have z2:=h2.ext (hx.below hB);have c0:=b0.cell;have c1':=b1.cell;have l0:=b0.lt;have l1:=b1.lt;have r0:w.heap.size≠w.heap.size+1+1:=Zo;have r1:w.heap.size+1≠w.heap.size+1+1:=Zo;have K0:=KeepBut.refl (w.heap.size+1+1) W;clear h1 h2 hx;go_region_held3 (λw'=>(∀b o,b<W.heap.size->b≠(w.heap.size+1+1)->w'.cell? ⟨b,o,none⟩=W.cell? ⟨b,o,none⟩)∧KeepBut (w.heap.size+1+1) W.heap.size W w') ((refine KeepBut.S ?_;first|exact K0.drew|(repeat' (first|exact Yai ‹_› | exact KeepBut.call (Yai ‹_›) ‹_› | refine KeepBut.set ?_ _ _|refine KeepBut.alloc ?_ _)))) (first|(go_at_call 163;refine(Zu4 m m _ W (KeepBut.ext (Yai ‹_›) b2 Zd) _ _ _ _ _ _ _ _ z1 z2 hm hm).mono ?_;rintro e w' ⟨p,n,c,rfl,hv,hb⟩;have b2':=b2.drew.below hb;have k1:=b2'.cell;have f1:=b2'.frozen))
  go_wp2
  have b3:=((b2'.set 0 (.bool s1)).set 1 (.slice p n c)).cell;refine bodyPost_ret (v:=.agg #[.bool s1,.slice p n c]) (by simp[results,Tryz.results120,go_sem,b3]) rfl ⟨s1,p,n,c,rfl,e1,?_,?_⟩
  ·rw[e2.out]
   exact(hv.ext (((Ext.refl _).set b2' Zd _ _).set (b2'.set _ _) Zd _ _)).mono Zo
  ·exact KeepBut.below (Yai ‹_›) hB Zo hB.size
 ·obtain rfl:s2 = !s1:=by cases s1<;>cases s2<;>simp_all
  have hc:=Zjm m m;rcases Ycz (n1.natAbs:Int) n2.natAbs with hl|hl
  ·obtain⟨e1,e2⟩:=g1.add_less g2 hl
   replace e2:=Yah e2;clear g1 g2 hs12;go_enter Tryz.func120,Tryz.ntmps120
   go_wp2_with fail
   refine Zby λW hB hs b0 b1 b2=>?_;have z1:=h1.ext (hx.below hB);have z2:=h2.ext (hx.below hB);have HC:=hc W W (Ext.refl _) p1 p2 k1 k2 c1 c2 _ _ z1 z2;refine HC.mono ?_;rintro e w' ⟨x,⟨rfl,j,rfl⟩,hc1,hc2⟩;have hc0:x<0:=hc1.2 hl;clear h1 h2 hx hc HC hc1 hc2;have x1:Ext W (W.drewN j):=(Ext.refl _).below (below_drewN (Yae _ _) j);replace z1:=z1.ext x1;replace z2:=z2.ext x1;replace hB:=below_drewN hB j;have b0:Box (W.drewN j) _ _ _:=⟨b0.blk⟩
   have b1:Box (W.drewN j) _ _ _:=⟨b1.blk⟩
   have b2:Box (W.drewN j) _ _ _:=⟨b2.blk⟩
   generalize W.drewN j=W at z1 z2 hB b0 b1 b2 ⊢;have c0:=b0.cell;have c1':=b1.cell;have l0:=b0.lt;have l1:=b1.lt;have r0:w.heap.size≠w.heap.size+1+1:=Zo;have r1:w.heap.size+1≠w.heap.size+1+1:=Zo;have K0:=KeepBut.refl (w.heap.size+1+1) W;go_wp2_with fail
   go_region_held3 (λw'=>(∀b o,b<W.heap.size->b≠(w.heap.size+1+1)->w'.cell? ⟨b,o,none⟩=W.cell? ⟨b,o,none⟩)∧KeepBut (w.heap.size+1+1) W.heap.size W w') ((refine KeepBut.S ?_;first|exact K0.drew|(repeat' (first|exact Yai ‹_› | exact KeepBut.call (Yai ‹_›) ‹_› | refine KeepBut.set ?_ _ _|refine KeepBut.alloc ?_ _)))) (first|(go_at_call 164;refine(Zmk m m _ W (KeepBut.ext (Yai ‹_›) b2 Zd) _ _ _ _ _ _ _ _ z2 z1 hm (Yap hl)).mono ?_;rintro e w' ⟨p,n,c,rfl,hv,hb⟩;have b2':=b2.drew.below hb;have k1:=b2'.cell;have f1:=b2'.frozen))
   go_wp2
   have b3:=((b2'.set 0 (.bool !s1)).set 1 (.slice p n c)).cell;refine bodyPost_ret (v:=.agg #[.bool !s1,.slice p n c]) (by simp[results,Tryz.results120,go_sem,b3]) rfl ⟨!s1,p,n,c,rfl,e1,?_,?_⟩
   ·rw[e2.out]
    exact(hv.ext (((Ext.refl _).set b2' Zd _ _).set (b2'.set _ _) Zd _ _)).mono Zo
   ·exact KeepBut.below (Yai ‹_›) hB Zo hB.size
  ·obtain⟨e1,e2⟩:=g1.add_more g2 hl
   replace e2:=Yah e2;clear g1 g2 hs12;go_enter Tryz.func120,Tryz.ntmps120
   go_wp2_with fail
   refine Zby λW hB hs b0 b1 b2=>?_;have z1:=h1.ext (hx.below hB);have z2:=h2.ext (hx.below hB);have HC:=hc W W (Ext.refl _) p1 p2 k1 k2 c1 c2 _ _ z1 z2;refine HC.mono ?_;rintro e w' ⟨x,⟨rfl,j,rfl⟩,hc1,hc2⟩;have hc0:¬x<0:=λh=>by have:=hc1.1 h;omega
   clear h1 h2 hx hc HC hc1 hc2;have x1:Ext W (W.drewN j):=(Ext.refl _).below (below_drewN (Yae _ _) j);replace z1:=z1.ext x1;replace z2:=z2.ext x1;replace hB:=below_drewN hB j;have b0:Box (W.drewN j) _ _ _:=⟨b0.blk⟩
   have b1:Box (W.drewN j) _ _ _:=⟨b1.blk⟩
   have b2:Box (W.drewN j) _ _ _:=⟨b2.blk⟩
   generalize W.drewN j=W at z1 z2 hB b0 b1 b2 ⊢;have c0:=b0.cell;have c1':=b1.cell;have l0:=b0.lt;have l1:=b1.lt;have r0:w.heap.size≠w.heap.size+1+1:=Zo;have r1:w.heap.size+1≠w.heap.size+1+1:=Zo;have K0:=KeepBut.refl (w.heap.size+1+1) W;go_wp2_with fail
   go_region_held3 (λw'=>(∀b o,b<W.heap.size->b≠(w.heap.size+1+1)->w'.cell? ⟨b,o,none⟩=W.cell? ⟨b,o,none⟩)∧KeepBut (w.heap.size+1+1) W.heap.size W w') ((refine KeepBut.S ?_;first|exact K0.drew|(repeat' (first|exact Yai ‹_› | exact KeepBut.call (Yai ‹_›) ‹_› | refine KeepBut.set ?_ _ _|refine KeepBut.alloc ?_ _)))) (first|(go_at_call 164;refine(Zmk m m _ W (KeepBut.ext (Yai ‹_›) b2 Zd) _ _ _ _ _ _ _ _ z1 z2 hm hl).mono ?_;rintro e w' ⟨p,n,c,rfl,hv,hb⟩;have b2':=b2.drew.below hb;have k1:=b2'.cell;have f1:=b2'.frozen))
   go_wp2
   have b3:=((b2'.set 0 (.bool s1)).set 1 (.slice p n c)).cell;refine bodyPost_ret (v:=.agg #[.bool s1,.slice p n c]) (by simp[results,Tryz.results120,go_sem,b3]) rfl ⟨s1,p,n,c,rfl,e1,?_,?_⟩
   ·rw[e2.out]
    exact(hv.ext (((Ext.refl _).set b2' Zd _ _).set (b2'.set _ _) Zd _ _)).mono Zo
   ·exact KeepBut.below (Yai ‹_›) hB Zo hB.size
end Go.Proofs.W
