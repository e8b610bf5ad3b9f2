/- Contracts of package matrix,and a verified evaluator. Part 5 of 27. No condition beside the row. -/
import Derived.Deep.DeepCutAuto
import Derived.Test.YtgkmjekkefmejaaGreatDoorA01
import Derived.Test.YtgkmjekkefmejaaGreatDoorA04
set_option linter.unusedVariables false
set_option linter.unusedSimpArgs false
set_option maxRecDepth 100000
set_option maxHeartbeats 4000000
namespace Go.Mono
open Go.RowKit
theorem SlF.unique {w:World} {v:Value} {n m:Nat} {f g:Nat->Int} (h:SlF w v n f) (k:SlF w v m g):n=m∧∀i,i<n->f i=g i:=by
 rcases h with ⟨rfl,rfl⟩|⟨b,off,cap,cs,fr,rfl,_,_,hh,hi⟩
 ·rcases k with ⟨_,rfl⟩|⟨b,off,cap,cs,fr,hv,_⟩
  ·exact⟨rfl,λi hi=>Zo⟩
  ·simp at hv
 ·rcases k with ⟨hv,_⟩|⟨b',off',cap',cs',fr',hv,_,_,hh',hi'⟩
  ·simp at hv
  ·simp only[Ydm,Ybp,Addr.mk.injEq]at hv
   obtain⟨⟨rfl,rfl,_⟩,rfl,_⟩:=hv;rw[hh]at hh';simp at hh';obtain⟨rfl,_⟩:=hh';refine⟨rfl,λi h=>?_⟩;have:=(hi i h).symm.trans (hi' i h);simpa using this
theorem Sz.unique {m m':Nat} {w:World} {v:Value} {N M:Int} (h:Sz m w v N) (k:Sz m' w v M):N=M:=by
 obtain⟨n,f,s1,_,rfl,_⟩:=h;obtain⟨n',g,s2,_,rfl,_⟩:=k;obtain⟨rfl,e⟩:=s1.unique s2;exact Zbj e
noncomputable def szVal (w:World) (v:Value):Int:=Classical.epsilon λN=>∃m,Sz m w v N
theorem Sz.szVal {m:Nat} {w:World} {v:Value} {N:Int} (h:Sz m w v N):Mono.szVal w v=N:=by
 obtain⟨m',h'⟩:=Classical.epsilon_spec (p:=λN=>∃m,Sz m w v N) ⟨N,m,h⟩;exact h'.unique h
theorem Sz.zero (m:Nat) (w:World):Sz m w (.slice none 0 0) 0:=⟨0,λ_=>0,.inl ⟨rfl,rfl⟩,⟨λi hi=>Zo,λi hi=>Zo,λh=>Zo⟩,rfl,Yat _⟩
theorem Sz.len_pos {m:Nat} {w:World} {p:Option Addr} {n c:Nat} {N:Int} (h:Sz m w (.slice p n c) N):0<N↔0<n:=by
 obtain⟨n,f,s1,d,rfl,l,rfl⟩:=h.sl;exact d.pos
def gcdZ (N M:Int):Int:=(Nat.gcd N.toNat M.toNat:Nat)
theorem Zq1 {N:Int} (h:0<=N):gcdZ N 0=N:=by simp[gcdZ];omega
theorem Zq2 {N M:Int} (h:0<=N) (hM:0<M):gcdZ M (N%M)=gcdZ N M:=by
 obtain⟨n,rfl⟩:=Int.eq_ofNat_of_zero_le h;obtain⟨m,rfl⟩:=Int.eq_ofNat_of_zero_le (Yap hM);unfold gcdZ;have e:((n:Int)%(m:Int)).toNat=n%m:=by rw[<-Int.natCast_emod,Ycb]
 rw[e,Ycb,Ycb,Nat.gcd_comm n m,Nat.gcd_rec m n,Nat.gcd_comm]
end Go.Mono
namespace Go.Proofs.W
open Go.RowKit Go.Mono
theorem Zq3 (m0:Nat) (w wf:World) (hx:Ext wf w) (p q:Option Addr) (n m c1 c2:Nat) (N M:Int) (h1:Sz m0 wf (.slice p n c1) N) (h2:Sz m0 wf (.slice q m c2) M) (hM:0<M) (hm0:m0<=1000000) :
  Calls Tryz.prog 162 #[.slice p n c1,.slice q m c2] w λe w'=>∃p1 k1 c1 p2 k2 c2,e=.returned (.tuple #[.slice p1 k1 c1,.slice p2 k2 c2])∧Sz m0 w' (.slice p1 k1 c1) (N/M)∧Sz m0 w' (.slice p2 k2 c2) (N%M)∧Below w.heap.size w w':=by
 have hN:=h1.nonneg;rcases Ycz N M with hlt|hle
 ·refine(Zqz m0 m0 w wf hx p q n m c1 c2 N M h1 h2 hlt).mono ?_
  rintro e w' ⟨rfl,k,rfl⟩;refine⟨_,_,_,_,_,_,rfl,?_,?_,below_drewN (Yae _ _) k⟩
  ·rw[Int.ediv_eq_zero_of_lt hN hlt];exact Sz.zero _ _
  ·rw[Int.emod_eq_of_lt hN hlt];exact h1.ext (hx.below (below_drewN (Yae _ _) k))
 ·obtain⟨n',f,s1,d1,rfl,l1,rfl⟩:=(h1.ext hx).sl
  obtain⟨m',g,s2,d2,rfl,l2,rfl⟩:=(h2.ext hx).sl;have hml:=d2.len_le d1 hle;have hm0':=d2.pos.1 hM;by_cases hm1:m'=1
  ·subst hm1
   refine(Zul m0 w w (Ext.refl _) p q n' c1 c2 _ _ ⟨n',f,s1,d1,rfl,l1⟩ ⟨1,g,s2,d2,rfl,Yab _⟩ hM hle hm0).mono ?_;rintro e w' ⟨p1,k1,c3,p2,k2,c4,rfl,z1,z2,hb⟩;exact⟨_,_,_,_,_,_,rfl,z1,z2.mono Zo,hb⟩
  ·obtain⟨m,rfl⟩:∃m,m'=m+2:=⟨m'-2,Zo⟩
   refine(Zq0 p q n' m c1 c2 f g w s1 s2 d1 d2 Zo hle).mono ?_;rintro e w' ⟨p1,k1,c3,p2,k2,c4,rfl,z1,z2,hb⟩;exact⟨_,_,_,_,_,_,rfl,z1.mono l1,z2.mono l2,hb⟩
theorem Zel (m0:Nat) (w wf:World) (hx:Ext wf w) (p q:Option Addr) (n m c1 c2:Nat) (N M:Int) (h1:Sz m0 wf (.slice p n c1) N) (h2:Sz m0 wf (.slice q m c2) M) (hm0:m0<=1000000) :
  Calls Tryz.prog 115 #[.slice p n c1,.slice q m c2] w λe w'=>∃p k c,e=.returned (.slice p k c)∧Sz m0 w' (.slice p k c) (gcdZ N M)∧Below w.heap.size w w':=by
 replace h1:=h1.ext hx;replace h2:=h2.ext hx;go_enter Tryz.func115,Tryz.ntmps115
 go_wp2_with fail
 go_loopw [0,1] (λa b wr=>∃p n c q m d A B,a=.slice p n c∧b=.slice q m d∧Sz m0 wr (.slice p n c) A∧Sz m0 wr (.slice q m d) B∧gcdZ A B=gcdZ N M∧Below w.heap.size w wr) (λ_ b wr=>(szVal wr b).toNat)
 case atStart=>exact⟨_,_,_,_,_,_,_,_,rfl,rfl,h1,h2,rfl,Yae _ _⟩
 case round=>
  clear h1 h2 hx;obtain⟨p,n,c,q,m,d,A,B,rfl,rfl,h1,h2,hg,hb⟩:=hrel;have hA:=h1.nonneg;have hv:=h2.szVal;have hl:=h2.len_pos;replace hg:=Yah hg;replace hv:=Yah hv;by_cases h0:0<m
  ·have hB:=hl.2 h0
   clear hl;have ho:=Zq3 m0 wr wr (Ext.refl _) p q n m c d A B h1 h2 hB hm0;go_wp2_with (go_at_call 162;refine ho.mono ?_;rintro e w' ⟨p1,k1,c3,p2,k2,c4,rfl,z1,z2,hb2⟩)
   go_roundw
   case rel=>exact⟨_,_,_,_,_,_,_,_,rfl,rfl,h2.ext (.of_below hb2),z2,(Zq2 hA hB).trans hg.out,Zdv hb hb2⟩
   case measure=>
    rw[z2.szVal,hv.out];have:=Ybu A hB;have:=Ycc A (show B≠0 by omega);omega
  ·have hB:B=0:=by have:=h2.nonneg;omega
   obtain rfl:m=0:=Zo;replace hB:=Yah hB;clear hl;go_wp2
   go_ret
   refine⟨_,_,_,rfl,?_,hb⟩;rw[<-hg.out,hB.out,Zq1 hA];exact h1
theorem Zc5 (m0:Nat) (w wf:World) (hx:Ext wf w) (p q:Option Addr) (n m c1 c2:Nat) (N M:Int) (h1:Sz m0 wf (.slice p n c1) N) (h2:Sz m0 wf (.slice q m c2) M) (hM:0<M) (hm0:m0<=1000000) :
  Calls Tryz.prog 116 #[.slice p n c1,.slice q m c2] w λe w'=>∃p1 k1 c1,e=.returned (.slice p1 k1 c1)∧Sz m0 w' (.slice p1 k1 c1) (N/M)∧Below w.heap.size w w':=by
 have ho:=Zq3 m0 w wf hx p q n m c1 c2 N M h1 h2 hM hm0;go_enter Tryz.func116,Tryz.ntmps116
 go_wp2_with (go_at_call 162;refine ho.mono ?_;rintro e w' ⟨p1,k1,c3,p2,k2,c4,rfl,z1,z2,hb2⟩)
 go_ret
 exact⟨_,_,_,rfl,z1,hb2⟩
theorem Zku (neg:Bool) (p1 p2:Option Addr) (k1 c1 k2 c2 m1 m2:Nat) (n1 n2:Int) (w wf:World) (hx:Ext wf w) (h1:Sz m1 wf (.slice p1 k1 c1) n1) (h2:Sz m2 wf (.slice p2 k2 c2) n2) (hm1:m1<=1000000) (hm2:m2<=1000000) :
  Calls Tryz.prog 117 #[.agg #[.bool neg,.slice p1 k1 c1],.slice p2 k2 c2] w λe w'=>∃p n c,e=.returned (.agg #[.bool neg,.slice p n c])∧Sz (m1+m2) w' (.slice p n c) (n1*n2)∧Below w.heap.size w w':=by
 go_enter Tryz.func117,Tryz.ntmps117
 go_wp2
 refine Zej λW hB hs b0 b1=>?_;have z1:=h1.ext (hx.below hB);have z2:=h2.ext (hx.below hB);have c0:=b0.cell;have l0:=b0.lt;have K0:=KeepBut.refl (w.heap.size+1) W;clear h1 h2 hx;go_region_held3 (λw'=>(∀b o,b<W.heap.size->b≠w.heap.size+1->w'.cell? ⟨b,o,none⟩=W.cell? ⟨b,o,none⟩)∧KeepBut (w.heap.size+1) W.heap.size W w') ((refine KeepBut.S ?_;first|exact K0.drew|(repeat' (first|exact Yai ‹_› | exact KeepBut.call (Yai ‹_›) ‹_› | refine KeepBut.set ?_ _ _)))) (first|(go_at_call 114;refine(Zf2 m1 m2 _ W (KeepBut.ext (Yai ‹_›) b1 Zd) _ _ _ _ _ _ n1 n2 z1 z2 hm1 hm2).mono ?_;rintro e w' ⟨p,n,c,rfl,hv,hb⟩;have b1':=b1.drew.below hb;have k1:=b1'.cell;have f1:=b1'.frozen))
 go_wp2
 have b2:=((b1'.set 0 (.bool neg)).set 1 (.slice p n c)).cell;refine bodyPost_ret (v:=.agg #[.bool neg,.slice p n c]) (by simp[results,Tryz.results117,go_sem,b2]) rfl ⟨p,n,c,rfl,?_,?_⟩
 ·exact hv.ext (((Ext.refl _).set b1' Zd _ _).set (b1'.set _ _) Zd _ _)
 ·exact KeepBut.below (Yai ‹_›) hB Zo hB.size
end Go.Proofs.W
namespace Go.Mono
theorem Sg.add_same {s:Bool} {a b:Int} (h:Sg s a) (k:Sg s b):Sg s (a+b)∧(a+b).natAbs=a.natAbs+b.natAbs:=by
 cases s
 ·have:=h.2 rfl;have:=k.2 rfl
  exact⟨⟨λh=>by simp at h,λ_=>Zo⟩,Zo⟩
 ·have:=h.1 rfl;have:=k.1 rfl
  exact⟨⟨λ_=>Zo,λh=>by simp at h⟩,Zo⟩
theorem Sg.add_less {s:Bool} {a b:Int} (h:Sg s a) (k:Sg (!s) b) (hl:(a.natAbs:Int)<b.natAbs):Sg (!s) (a+b)∧((a+b).natAbs:Int)=b.natAbs-a.natAbs:=by
 cases s
 ·have:=h.2 rfl;have:=k.1 rfl
  exact⟨⟨λ_=>Zo,λh=>by simp at h⟩,Zo⟩
 ·have:=h.1 rfl;have:=k.2 rfl
  exact⟨⟨λh=>by simp at h,λ_=>Zo⟩,Zo⟩
theorem Sg.add_more {s:Bool} {a b:Int} (h:Sg s a) (k:Sg (!s) b) (hl:(b.natAbs:Int)<=a.natAbs):Sg s (a+b)∧((a+b).natAbs:Int)=a.natAbs-b.natAbs:=by
 cases s
 ·have:=h.2 rfl;have:=k.1 rfl
  exact⟨⟨λh=>by simp at h,λ_=>Zo⟩,Zo⟩
 ·have:=h.1 rfl;have:=k.2 rfl
  exact⟨⟨λ_=>Zo,λh=>by simp at h⟩,Zo⟩
end Go.Mono
namespace Go.Proofs.W
open Go.RowKit Go.Mono
theorem Zum (s1 s2:Bool) (p1 p2:Option Addr) (k1 c1 k2 c2 m:Nat) (n1 n2:Int) (w wf:World) (hx:Ext wf w) (h1:Sz m wf (.slice p1 k1 c1) n1.natAbs) (h2:Sz m wf (.slice p2 k2 c2) n2.natAbs) (g1:Sg s1 n1) (g2:Sg s2 n2) (hm:m<=1000000) :
  Calls Tryz.prog 118 #[.agg #[.bool s1,.slice p1 k1 c1],.agg #[.bool s2,.slice p2 k2 c2]] w λe w'=>∃s p n c,e=.returned (.agg #[.bool s,.slice p n c])∧Sg s (n1+n2)∧Sz (m+1) w' (.slice p n c) (n1+n2).natAbs∧Below w.heap.size w w':=by
 by_cases hs12:s1=s2
 ·subst hs12
  obtain⟨e1,e2⟩:=g1.add_same g2;replace e2:=Yah e2;clear g1 g2;go_enter Tryz.func118,Tryz.ntmps118
  go_wp2_with fail
  refine Zfw λW hB hs b0 b1 b2=>?_;have z1:=h1.ext (hx.below hB);have z2:=h2.ext (hx.below hB);have c0:=b0.cell;have c1':=b1.cell;have l0:=b0.lt;have l1:=b1.lt;have r0:w.heap.size≠w.heap.size+1+1:=Zo;have r1:w.heap.size+1≠w.heap.size+1+1:=Zo;have K0:=KeepBut.refl (w.heap.size+1+1) W;clear h1 h2 hx;go_region_held3 (λw'=>(∀b o,b<W.heap.size->b≠(w.heap.size+1+1)->w'.cell? ⟨b,o,none⟩=W.cell? ⟨b,o,none⟩)∧KeepBut (w.heap.size+1+1) W.heap.size W w') ((refine KeepBut.S ?_;first|exact K0.drew|(repeat' (first|exact Yai ‹_› | exact KeepBut.call (Yai ‹_›) ‹_› | refine KeepBut.set ?_ _ _|refine KeepBut.alloc ?_ _)))) (first|(go_at_call 163;refine(Zwz m m _ W (KeepBut.ext (Yai ‹_›) b2 Zd) _ _ _ _ _ _ _ _ z1 z2 hm hm).mono ?_;rintro e w' ⟨p,n,c,rfl,hv,hb⟩;have b2':=b2.drew.below hb;have k1:=b2'.cell;have f1:=b2'.frozen))
  go_wp2
  have b3:=((b2'.set 0 (.bool s1)).set 1 (.slice p n c)).cell;refine bodyPost_ret (v:=.agg #[.bool s1,.slice p n c]) (by simp[results,Tryz.results118,go_sem,b3]) rfl ⟨s1,p,n,c,rfl,e1,?_,?_⟩
  ·rw[e2.out]
   exact(hv.ext (((Ext.refl _).set b2' Zd _ _).set (b2'.set _ _) Zd _ _)).mono Zo
  ·exact KeepBut.below (Yai ‹_›) hB Zo hB.size
 ·obtain rfl:s2 = !s1:=by cases s1<;>cases s2<;>simp_all
  have hc:=Zkt m m;rcases Ycz (n1.natAbs:Int) n2.natAbs with hl|hl
  ·obtain⟨e1,e2⟩:=g1.add_less g2 hl
   replace e2:=Yah e2;clear g1 g2 hs12;go_enter Tryz.func118,Tryz.ntmps118
   go_wp2_with fail
   refine Zbx λW hB hs b0 b1 b2=>?_;have z1:=h1.ext (hx.below hB);have z2:=h2.ext (hx.below hB);have HC:=hc W W (Ext.refl _) p1 p2 k1 k2 c1 c2 _ _ z1 z2;refine HC.mono ?_;rintro e w' ⟨x,⟨rfl,j,rfl⟩,hc1,hc2⟩;have hc0:x<0:=hc1.2 hl;clear h1 h2 hx hc HC hc1 hc2;have x1:Ext W (W.drewN j):=(Ext.refl _).below (below_drewN (Yae _ _) j);replace z1:=z1.ext x1;replace z2:=z2.ext x1;replace hB:=below_drewN hB j;have b0:Box (W.drewN j) _ _ _:=⟨b0.blk⟩
   have b1:Box (W.drewN j) _ _ _:=⟨b1.blk⟩
   have b2:Box (W.drewN j) _ _ _:=⟨b2.blk⟩
   generalize W.drewN j=W at z1 z2 hB b0 b1 b2 ⊢;have c0:=b0.cell;have c1':=b1.cell;have l0:=b0.lt;have l1:=b1.lt;have r0:w.heap.size≠w.heap.size+1+1:=Zo;have r1:w.heap.size+1≠w.heap.size+1+1:=Zo;have K0:=KeepBut.refl (w.heap.size+1+1) W;go_wp2_with fail
   go_region_held3 (λw'=>(∀b o,b<W.heap.size->b≠(w.heap.size+1+1)->w'.cell? ⟨b,o,none⟩=W.cell? ⟨b,o,none⟩)∧KeepBut (w.heap.size+1+1) W.heap.size W w') ((refine KeepBut.S ?_;first|exact K0.drew|(repeat' (first|exact Yai ‹_› | exact KeepBut.call (Yai ‹_›) ‹_› | refine KeepBut.set ?_ _ _|refine KeepBut.alloc ?_ _)))) (first|(go_at_call 164;refine(Znr m m _ W (KeepBut.ext (Yai ‹_›) b2 Zd) _ _ _ _ _ _ _ _ z2 z1 hm (Yap hl)).mono ?_;rintro e w' ⟨p,n,c,rfl,hv,hb⟩;have b2':=b2.drew.below hb;have k1:=b2'.cell;have f1:=b2'.frozen))
   go_wp2
   have b3:=((b2'.set 0 (.bool !s1)).set 1 (.slice p n c)).cell;refine bodyPost_ret (v:=.agg #[.bool !s1,.slice p n c]) (by simp[results,Tryz.results118,go_sem,b3]) rfl ⟨!s1,p,n,c,rfl,e1,?_,?_⟩
   ·rw[e2.out]
    exact(hv.ext (((Ext.refl _).set b2' Zd _ _).set (b2'.set _ _) Zd _ _)).mono Zo
   ·exact KeepBut.below (Yai ‹_›) hB Zo hB.size
  ·obtain⟨e1,e2⟩:=g1.add_more g2 hl
   replace e2:=Yah e2;clear g1 g2 hs12;go_enter Tryz.func118,Tryz.ntmps118
   go_wp2_with fail
   refine Zbx λW hB hs b0 b1 b2=>?_;have z1:=h1.ext (hx.below hB);have z2:=h2.ext (hx.below hB);have HC:=hc W W (Ext.refl _) p1 p2 k1 k2 c1 c2 _ _ z1 z2;refine HC.mono ?_;rintro e w' ⟨x,⟨rfl,j,rfl⟩,hc1,hc2⟩;have hc0:¬x<0:=λh=>by have:=hc1.1 h;omega
   clear h1 h2 hx hc HC hc1 hc2;have x1:Ext W (W.drewN j):=(Ext.refl _).below (below_drewN (Yae _ _) j);replace z1:=z1.ext x1;replace z2:=z2.ext x1;replace hB:=below_drewN hB j;have b0:Box (W.drewN j) _ _ _:=⟨b0.blk⟩
   have b1:Box (W.drewN j) _ _ _:=⟨b1.blk⟩
   have b2:Box (W.drewN j) _ _ _:=⟨b2.blk⟩
   generalize W.drewN j=W at z1 z2 hB b0 b1 b2 ⊢;have c0:=b0.cell;have c1':=b1.cell;have l0:=b0.lt;have l1:=b1.lt;have r0:w.heap.size≠w.heap.size+1+1:=Zo;have r1:w.heap.size+1≠w.heap.size+1+1:=Zo;have K0:=KeepBut.refl (w.heap.size+1+1) W;go_wp2_with fail
   go_region_held3 (λw'=>(∀b o,b<W.heap.size->b≠(w.heap.size+1+1)->w'.cell? ⟨b,o,none⟩=W.cell? ⟨b,o,none⟩)∧KeepBut (w.heap.size+1+1) W.heap.size W w') ((refine KeepBut.S ?_;first|exact K0.drew|(repeat' (first|exact Yai ‹_› | exact KeepBut.call (Yai ‹_›) ‹_› | refine KeepBut.set ?_ _ _|refine KeepBut.alloc ?_ _)))) (first|(go_at_call 164;refine(Znr m m _ W (KeepBut.ext (Yai ‹_›) b2 Zd) _ _ _ _ _ _ _ _ z1 z2 hm hl).mono ?_;rintro e w' ⟨p,n,c,rfl,hv,hb⟩;have b2':=b2.drew.below hb;have k1:=b2'.cell;have f1:=b2'.frozen))
   go_wp2
   have b3:=((b2'.set 0 (.bool s1)).set 1 (.slice p n c)).cell;refine bodyPost_ret (v:=.agg #[.bool s1,.slice p n c]) (by simp[results,Tryz.results118,go_sem,b3]) rfl ⟨s1,p,n,c,rfl,e1,?_,?_⟩
   ·rw[e2.out]
    exact(hv.ext (((Ext.refl _).set b2' Zd _ _).set (b2'.set _ _) Zd _ _)).mono Zo
   ·exact KeepBut.below (Yai ‹_›) hB Zo hB.size
end Go.Proofs.W
namespace Go.Mono
theorem Zun (a b:Rat):gcdZ (a.den:Int) (b.den:Int)=((a.den.gcd b.den:Nat):Int):=by simp[gcdZ]
theorem Zml (a b:Rat):0<((a.den.gcd b.den:Nat):Int):=by
 have:=Nat.gcd_pos_of_pos_left b.den (Yck a.den_nz);omega
end Go.Mono
namespace Go.Proofs.W
open Go.RowKit Go.Mono
theorem Zyz (s1 s2:Bool) (p1 q1 p2 q2:Option Addr) (k1 c1 l1 e1 k2 c2 l2 e2 m:Nat) (a b:Rat) (w wf:World) (hx:Ext wf w)
  (g1:Sg s1 a.num) (g2:Sg s2 b.num) (z1:Sz m wf (.slice p1 k1 c1) a.num.natAbs) (y1:Sz m wf (.slice q1 l1 e1) a.den) (z2:Sz m wf (.slice p2 k2 c2) b.num.natAbs) (y2:Sz m wf (.slice q2 l2 e2) b.den) (hm:m<=100000) :
  Calls Tryz.prog 60 #[.agg #[.bool s1,.slice p1 k1 c1,.slice q1 l1 e1],.agg #[.bool s2,.slice p2 k2 c2,.slice q2 l2 e2]] w λe w'=>∃s p n c q l d,e=.returned (.agg #[.bool s,.slice p n c,.slice q l d])∧Sg s (a+b).num∧Sz (3*m+1) w' (.slice p n c) (a+b).num.natAbs∧Sz (3*m+1) w' (.slice q l d) (a+b).den∧Below w.heap.size w w':=by
 replace z1:=z1.ext hx;replace z2:=z2.ext hx;replace y1:=y1.ext hx;replace y2:=y2.ext hx;have hG:=Zml a b;have hGe:=Zun a b;clear hx;go_enter Tryz.func60,Tryz.ntmps60
 go_wp2_with fail
 refine Zbx λW hB hs b0 b1 b2=>?_;have x0:=Ext.of_below hB;refine(Zel m W w x0 q1 q2 l1 l2 e1 e2 _ _ y1 y2 Zo).mono ?_;rintro e W1 ⟨pg,kg,cg,rfl,zg,hb⟩;rw[hGe]at zg;have x1:=x0.below hb;replace hB:=Zaa hB hb;replace z1:=z1.ext x0;replace z2:=z2.ext x0;replace y1:=y1.ext x0;replace y2:=y2.ext x0;replace z1:=z1.ext (.of_below hb);replace z2:=z2.ext (.of_below hb);replace y1:=y1.ext (.of_below hb);replace y2:=y2.ext (.of_below hb);replace b0:=b0.below hb;try clear cb0 lb0 fb0
 have cb0:=b0.cell;have lb0:=b0.lt;have fb0:=b0.frozen;replace b1:=b1.below hb;try clear cb1 lb1 fb1
 have cb1:=b1.cell;have lb1:=b1.lt;have fb1:=b1.frozen;replace b2:=b2.below hb;try clear cb2 lb2 fb2
 have cb2:=b2.cell;have lb2:=b2.lt;have fb2:=b2.frozen;clear x0 x1 hb hGe;go_wp2_with fail
 go_region_held3 (λw'=>(∀b o,b<W1.heap.size->w'.cell? ⟨b,o,none⟩=W1.cell? ⟨b,o,none⟩)∧Below W1.heap.size W1 w') ((refine Za2 ?_;first|exact(Yae _ _).drew|(repeat' (first|exact Yai ‹_› | exact Zaa (Yai ‹_›) ‹_› | exact Zad (Yai ‹_›) _|exact Zad ‹_› _|refine Zaf ?_ Zo _ _)))) (first|(go_at_call 116;(with_reducible refine(Zc5 m _ W1 (.of_below (Yai ‹_›)) q1 pg l1 kg e1 cg _ _ y1 zg hG Zo).mono ?_);rintro e W2 ⟨px,kx,cx,rfl,zx,hb2⟩)|(go_at_call 116;(with_reducible refine(Zc5 m _ W1 (.of_below (Yai ‹_›)) q2 pg l2 kg e2 cg _ _ y2 zg hG Zo).mono ?_);rintro e W3 ⟨py,ky,cy,rfl,zy,hb3⟩;replace zx:=zx.ext (.of_below hb3)))
 have hb:Below W1.heap.size W1 W3:=Yai ‹_›;replace hB:=Zaa hB hb;replace z1:=z1.ext (.of_below hb);replace z2:=z2.ext (.of_below hb);replace y1:=y1.ext (.of_below hb);replace y2:=y2.ext (.of_below hb);replace zg:=zg.ext (.of_below hb);replace b0:=b0.below hb;try clear cb0 lb0 fb0
 have cb0:=b0.cell;have lb0:=b0.lt;have fb0:=b0.frozen;replace b1:=b1.below hb;try clear cb1 lb1 fb1
 have cb1:=b1.cell;have lb1:=b1.lt;have fb1:=b1.frozen;replace b2:=b2.below hb;try clear cb2 lb2 fb2
 have cb2:=b2.cell;have lb2:=b2.lt;have fb2:=b2.frozen;clear hb hb2 hb3;have Y0:0<=(b.den:Int)/((a.den.gcd b.den:Nat):Int):=Ydq Zo Zo;have X0:0<=(a.den:Int)/((a.den.gcd b.den:Nat):Int):=Ydq Zo Zo;have E4:=Zd2 (z:=a.num) Y0;have E5:=Zd2 (z:=b.num) X0;have G1:=g1.mul Y0;have G2:=g2.mul X0;replace E4:=Yah E4;replace E5:=Yah E5;go_wp2_with fail
 go_cut [8] (λs8 wx=>∃B3 s p n c,s8=.pointer (some ⟨B3,0,none⟩)∧Box wx B3 121 #[.bool s,.slice p n c]∧W3.heap.size<=B3∧Below W3.heap.size W3 wx∧Sg s (a.num*(((b.den:Int)/(a.den.gcd b.den:Nat)))+b.num*((a.den:Int)/(a.den.gcd b.den:Nat)))∧Sz (2*m+1) wx (.slice p n c) (a.num*(((b.den:Int)/(a.den.gcd b.den:Nat)))+b.num*((a.den:Int)/(a.den.gcd b.den:Nat))).natAbs)
 case first=>
  go_region_held3 (λw'=>(∀b o,b<W3.heap.size->w'.cell? ⟨b,o,none⟩=W3.cell? ⟨b,o,none⟩)∧Below W3.heap.size W3 w') ((refine Za2 ?_;first|exact(Yae _ _).drew|(repeat' (first|exact Yai ‹_› | exact Zaa (Yai ‹_›) ‹_› | exact Zad (Yai ‹_›) _|exact Zad ‹_› _|refine Zaf ?_ Zo _ _)))) (first|(go_at_call 117;(with_reducible refine(Zku s1 p1 py k1 c1 ky cy m m _ _ _ W3 (.of_below (Yai ‹_›)) z1 zy Zo Zo).mono ?_);rintro e W4 ⟨p4,k4,c4,rfl,z4,hb4⟩;(have hzhb4:=Zaa (Yai ‹_›) hb4);(have hshb4:=hzhb4.size);(first|(replace bn:=bn.below hb4;clear cbn fbn lbn;have cbn:=bn.cell;have fbn:=bn.frozen;have lbn:=bn.lt)|(have bn:=(Box.new _ 121 _).below hb4;have cbn:=bn.cell;have fbn:=bn.frozen;have lbn:=bn.lt)|(have bn:=(Box.new _ 121 _).drew.below hb4;have cbn:=bn.cell;have fbn:=bn.frozen;have lbn:=bn.lt)|skip))|(go_at_call 117;(with_reducible refine(Zku s2 p2 px k2 c2 kx cx m m _ _ _ W3 (.of_below (Yai ‹_›)) z2 zx Zo Zo).mono ?_);rintro e W5 ⟨p5,k5,c5,rfl,z5,hb5⟩;(have hzhb5:=Zaa (Yai ‹_›) hb5);(have hshb5:=hzhb5.size);(first|(replace bn:=bn.below hb5;clear cbn fbn lbn;have cbn:=bn.cell;have fbn:=bn.frozen;have lbn:=bn.lt)|(have bn:=(Box.new _ 121 _).below hb5;have cbn:=bn.cell;have fbn:=bn.frozen;have lbn:=bn.lt)|(have bn:=(Box.new _ 121 _).drew.below hb5;have cbn:=bn.cell;have fbn:=bn.frozen;have lbn:=bn.lt)|skip);replace z4:=z4.ext (by first|exact .of_below hb5|exact((Ext.refl _).alloc _).below hb5|exact((Ext.refl _).alloc _).drew.below hb5);rw[<-E4.out]at z4;rw[<-E5.out]at z5)|(go_at_call 118;refine(Zum s1 s2 p4 p5 k4 c4 k5 c5 (m+m) _ _ _ W5 (by first|exact Ext.refl _|exact(Ext.refl _).alloc _) z4 z5 G1 G2 Zo).mono ?_;rintro e W6 ⟨s6,p6,k6,c6,rfl,g6,z6,hb6⟩;(have hzhb6:=Zaa (Yai ‹_›) hb6);(have hshb6:=hzhb6.size);(first|(replace bn:=bn.below hb6;clear cbn fbn lbn;have cbn:=bn.cell;have fbn:=bn.frozen;have lbn:=bn.lt)|(have bn:=(Box.new _ 121 _).below hb6;have cbn:=bn.cell;have fbn:=bn.frozen;have lbn:=bn.lt)|(have bn:=(Box.new _ 121 _).drew.below hb6;have cbn:=bn.cell;have fbn:=bn.frozen;have lbn:=bn.lt)|skip)))
  all_goals
   go_wp2_with fail
   go_meet
   exact⟨_,s6,p6,k6,c6,rfl,(by first|exact Box.new _ _ _|exact(bn.set 0 _).set 1 _),Zo,Yai ‹_›,g6,(by first|exact(z6.ext ((Ext.refl _).alloc _)).mono Zo|exact(z6.ext (((Ext.refl _).set bn Zd _ _).set (bn.set _ _) Zd _ _)).mono Zo)⟩
 case rest=>
  obtain⟨B3,s3,p3,k3,c3,rfl,b3,hB3,hb,gs,zn⟩:=hcut;have lr3:w.heap.size+1+1<W3.heap.size:=lb2;replace hB:=Zaa hB hb;replace zg:=zg.ext (.of_below hb);replace zx:=zx.ext (.of_below hb);replace y2:=y2.ext (.of_below hb);replace b0:=b0.below hb;try clear cb0 lb0 fb0
  have cb0:=b0.cell;have lb0:=b0.lt;have fb0:=b0.frozen;replace b1:=b1.below hb;try clear cb1 lb1 fb1
  have cb1:=b1.cell;have lb1:=b1.lt;have fb1:=b1.frozen;replace b2:=b2.below hb;try clear cb2 lb2 fb2
  have cb2:=b2.cell;have lb2:=b2.lt;have fb2:=b2.frozen;have cb3:=b3.cell;have lb3:=b3.lt;have fb3:=b3.frozen;generalize hn:a.num*(((b.den:Int)/(a.den.gcd b.den:Nat)))+b.num*((a.den:Int)/(a.den.gcd b.den:Nat))=n at gs zn;clear hb z1 z2 y1 zy E4 E5 G1 G2 X0 Y0;go_wp2_with fail
  obtain⟨N1,N2,N3,N4⟩:=Zwv a b n hn;have hge2:gcdZ (n.natAbs:Int) ((a.den.gcd b.den:Nat):Int)=((n.natAbs.gcd (a.den.gcd b.den):Nat):Int):=by simp[gcdZ]
  have gs':=gs.div N4;rw[<-N1]at gs';replace N2:=Yah N2;replace N3:=Yah N3;refine(Zel (2*m+1) _ _ (Ext.refl _) p3 pg k3 kg c3 cg _ _ zn (zg.mono Zo) Zo).mono ?_;rintro e W7 ⟨ph,kh,ch,rfl,zh,hb⟩;rw[hge2]at zh;replace hB:=Zaa hB hb;replace zx:=zx.ext (.of_below hb);replace y2:=y2.ext (.of_below hb);replace zn:=zn.ext (.of_below hb);replace b0:=b0.below hb;try clear cb0 lb0 fb0
  have cb0:=b0.cell;have lb0:=b0.lt;have fb0:=b0.frozen;replace b1:=b1.below hb;try clear cb1 lb1 fb1
  have cb1:=b1.cell;have lb1:=b1.lt;have fb1:=b1.frozen;replace b2:=b2.below hb;try clear cb2 lb2 fb2
  have cb2:=b2.cell;have lb2:=b2.lt;have fb2:=b2.frozen;replace b3:=b3.below hb;try clear cb3 lb3 fb3
  have cb3:=b3.cell;have lb3:=b3.lt;have fb3:=b3.frozen;have lR:w.heap.size<=w.heap.size+1+1:=Zo;have nR0:w.heap.size≠w.heap.size+1+1:=Zo;have nR1:w.heap.size+1≠w.heap.size+1+1:=Zo;have nR3:B3≠w.heap.size+1+1:=Zo;have K0:=KeepBut.refl (w.heap.size+1+1) W7;generalize ((n.natAbs.gcd (a.den.gcd b.den):Nat):Int)=H at *;generalize (a.den:Int)/((a.den.gcd b.den:Nat):Int)=X at *;clear hb hge2 hn N1 gs zg;go_wp2_with fail
  go_region_held3 (λw'=>(∀b o,b<W7.heap.size->b≠(w.heap.size+1+1)->w'.cell? ⟨b,o,none⟩=W7.cell? ⟨b,o,none⟩)∧KeepBut (w.heap.size+1+1) W7.heap.size W7 w') ((refine KeepBut.S ?_;first|exact K0.drew|(repeat' (first|exact Yai ‹_› | exact KeepBut.call (Yai ‹_›) ‹_› | refine KeepBut.set ?_ _ _|refine KeepBut.alloc ?_ _)))) (first|(go_at_call 116;(with_reducible refine(Zc5 (2*m+1) _ W7 (KeepBut.ext (Yai ‹_›) b2 Zd) p3 ph k3 kh c3 ch _ _ zn zh N4 Zo).mono ?_);rintro e W8 ⟨p8,k8,c8,rfl,z8,hb8⟩;have b28:=b2.drew.below hb8;have cb28:=b28.cell;have fb28:=b28.frozen)|(go_at_call 116;(with_reducible refine(Zc5 (2*m+1) _ W7 (KeepBut.ext (Yai ‹_›) b2 Zd) q2 ph l2 kh e2 ch _ _ (y2.mono Zo) zh N4 Zo).mono ?_);rintro e W9 ⟨p9,k9,c9,rfl,z9,hb9⟩;replace z8:=z8.ext (.of_below hb9);have b29:=b28.below hb9;have cb29:=b29.cell;have fb29:=b29.frozen)|(go_at_call 114;refine(Zf2 m (2*m+1) _ W9 (Ext.refl _) px p9 kx k9 cx c9 _ _ (zx.ext (KeepBut.ext (Yai ‹_›) b2 Zd)) z9 Zo Zo).mono ?_;rintro e W10 ⟨p10,k10,c10,rfl,z10,hb10⟩;replace z8:=z8.ext (.of_below hb10);have b20:=b29.below hb10;have cb20:=b20.cell;have fb20:=b20.frozen))
  go_wp2
  have b3':=(((b20.set 0 (.bool s3)).set 1 (.slice p8 k8 c8)).set 2 (.slice p10 k10 c10)).cell;have xE:Ext W10 _:=((((Ext.refl W10).set b20 Zd 0 (.bool s3)).set (b20.set 0 (.bool s3)) Zd 1 (.slice p8 k8 c8))).set ((b20.set 0 (.bool s3)).set 1 (.slice p8 k8 c8)) Zd 2 (.slice p10 k10 c10);refine bodyPost_ret (v:=.agg #[.bool s3,.slice p8 k8 c8,.slice p10 k10 c10]) (by simp[results,Tryz.results60,go_sem,b3']) rfl ⟨s3,_,_,_,_,_,_,rfl,gs',?_,?_,?_⟩
  ·rw[N2.out];exact(z8.ext xE).mono Zo
  ·rw[N3.out];exact(z10.ext xE).mono Zo
  ·exact KeepBut.below (Yai ‹_›) hB lR hB.size
theorem Zfx (m0:Nat) (w wf:World) (hx:Ext wf w) (p q:Option Addr) (n m c1 c2 B:Nat) (N M:Int) (h1:Sz m0 wf (.slice p n c1) N) (h2:Sz m0 wf (.slice q m c2) M) (hM:0<M) (hm0:m0<=1000000) (b0:Box w B 119 #[.slice q m c2]) :
  Calls Tryz.prog 160 #[.slice p n c1,.pointer (some ⟨B,0,none⟩)] w λe w'=>∃p1 k1 c1,e=.returned (.slice p1 k1 c1)∧Sz m0 w' (.slice p1 k1 c1) (N/M)∧Below w.heap.size w w':=by
 have ho:=Zc5 m0 w wf hx p q n m c1 c2 N M h1 h2 hM hm0;have cb:=b0.cell;go_enter Tryz.func160,Tryz.ntmps160
 go_wp2_with (go_at_call 116;refine ho.mono ?_;rintro e w' ⟨p1,k1,c3,rfl,z1,hb2⟩)
 go_ret
 exact⟨_,_,_,rfl,z1,hb2⟩
theorem Zfc (s:Bool) (p q:Option Addr) (k c l d m:Nat) (N D:Int) (w wf:World) (hx:Ext wf w) (z:Sz m wf (.slice p k c) N) (y:Sz m wf (.slice q l d) D) (hD:0<D) (hm:m<=1000000) :
  Calls Tryz.prog 113 #[.agg #[.bool s,.slice p k c,.slice q l d]] w λe w'=>∃p n c q l d,e=.returned (.agg #[.bool s,.slice p n c,.slice q l d])∧Sz m w' (.slice p n c) (N/gcdZ N D)∧Sz m w' (.slice q l d) (D/gcdZ N D)∧Below w.heap.size w w':=by
 replace z:=z.ext hx;replace y:=y.ext hx;have hG:0<gcdZ N D:=by
  have:0<Nat.gcd N.toNat D.toNat:=Yfa _ Zo;unfold gcdZ;omega
 clear hx;go_enter Tryz.func113,Tryz.ntmps113
 go_wp2_with fail
 refine Zbq λW hB hs b0 b1=>?_;have x0:=Ext.of_below hB;refine(Zel m W w x0 p q k l c d _ _ z y hm).mono ?_;rintro e W1 ⟨pg,kg,cg,rfl,zg,hb⟩;replace z:=z.ext x0;replace y:=y.ext x0;replace hB:=Zaa hB hb;replace z:=z.ext (.of_below hb);replace y:=y.ext (.of_below hb);replace b0:=b0.below hb;try clear cb0 lb0 fb0
 have cb0:=b0.cell;have lb0:=b0.lt;have fb0:=b0.frozen;replace b1:=b1.below hb;try clear cb1 lb1 fb1
 have cb1:=b1.cell;have lb1:=b1.lt;have fb1:=b1.frozen;generalize hGe:gcdZ N D=G at zg hG;replace hGe:=Yah hGe;clear x0 hb;have hmf:∀(fn:Fn) (first cap:Array Value) (w:World),(Instr.makeFunc fn first cap).run Tryz.prog w=.ok (.func fn first cap) w:=λ_ _ _ _=>rfl;go_wp2_with fail
 refine Zb3 λW2 hb2 hs2 bg=>?_;have ng:W1.heap.size≠w.heap.size+1:=Zo;replace hB:=Zaa hB hb2;replace z:=z.ext (.of_below hb2);replace y:=y.ext (.of_below hb2);replace zg:=zg.ext (.of_below hb2);replace b0:=b0.below hb2;try clear cb0 lb0 fb0
 have cb0:=b0.cell;have lb0:=b0.lt;have fb0:=b0.frozen;replace b1:=b1.below hb2;try clear cb1 lb1 fb1
 have cb1:=b1.cell;have lb1:=b1.lt;have fb1:=b1.frozen;have cbg:=bg.cell;have lbg:=bg.lt;have fbg:=bg.frozen;have K0:=KeepBut.refl (w.heap.size+1) W2;have n0:w.heap.size≠w.heap.size+1:=Zo;clear hb2;go_region_held3 (λw'=>(∀b o,b<W2.heap.size->b≠(w.heap.size+1)->w'.cell? ⟨b,o,none⟩=W2.cell? ⟨b,o,none⟩)∧KeepBut (w.heap.size+1) W2.heap.size W2 w') ((refine KeepBut.S ?_;first|exact K0.drew|(repeat' (first|exact Yai ‹_› | exact KeepBut.call (Yai ‹_›) ‹_› | refine KeepBut.set ?_ _ _|refine KeepBut.alloc ?_ _)))) (first|(go_at_call 160;(with_reducible refine(Zfx m _ W2 (KeepBut.ext (Yai ‹_›) b1 Zd) p pg k kg c cg W1.heap.size _ _ z zg hG hm (KeepBut.box (Yai ‹_›) bg (by assumption) (by assumption))).mono ?_);rintro e W3 ⟨p3,k3,c3,rfl,z3,hb3⟩;have b13:=b1.drew.below hb3;have cb13:=b13.cell;have fb13:=b13.frozen)|(go_at_call 160;(with_reducible refine(Zfx m _ W2 (KeepBut.ext (Yai ‹_›) b1 Zd) q pg l kg d cg W1.heap.size _ _ y zg hG hm (KeepBut.box (Yai ‹_›) bg (by assumption) (by assumption))).mono ?_);rintro e W4 ⟨p4,k4,c4,rfl,z4,hb4⟩;replace z3:=z3.ext (.of_below hb4);have b14:=b13.below hb4;have cb14:=b14.cell;have fb14:=b14.frozen))
 go_wp2
 have b3':=((((b14.set 0 (.bool s)).set 1 (.slice p3 k3 c3)).set 2 (.slice p4 k4 c4))).cell;have xE:Ext W4 _:=((((Ext.refl W4).set b14 Zd 0 (.bool s)).set (b14.set 0 (.bool s)) Zd 1 (.slice p3 k3 c3))).set ((b14.set 0 (.bool s)).set 1 (.slice p3 k3 c3)) Zd 2 (.slice p4 k4 c4);refine bodyPost_ret (v:=.agg #[.bool s,.slice p3 k3 c3,.slice p4 k4 c4]) (by simp[results,Tryz.results113,go_sem,b3']) rfl ⟨_,_,_,_,_,_,rfl,?_,?_,?_⟩
 ·rw[hGe.out];exact z3.ext xE
 ·rw[hGe.out];exact z4.ext xE
 ·exact KeepBut.below (Yai ‹_›) hB Zo hB.size
end Go.Proofs.W
namespace Go.Mono
theorem Sg.prod {s t:Bool} {x y:Int} (h:Sg s x) (g:Sg t y):Sg (s != t) (x*y):=by
 obtain⟨h1,h2⟩:=h;obtain⟨g1,g2⟩:=g;cases s<;>cases t<;>simp at h1 h2 g1 g2<;>constructor<;>simp
 ·exact Ycg h2 g2
 ·exact Int.mul_nonpos_of_nonneg_of_nonpos h2 g1
 ·exact Int.mul_nonpos_of_nonpos_of_nonneg h1 g2
 ·exact Int.mul_nonneg_of_nonpos_of_nonpos h1 g1
theorem Zuo (a b:Rat) :
  ((a*b).num.natAbs:Int)=((a.num.natAbs:Int)/gcdZ a.num.natAbs b.den)*((b.num.natAbs:Int)/gcdZ b.num.natAbs a.den)∧
  ((a*b).den:Int)=((b.den:Int)/gcdZ a.num.natAbs b.den)*((a.den:Int)/gcdZ b.num.natAbs a.den):=by
 obtain⟨h1,h2⟩:=Zeh a b;have e1:gcdZ (a.num.natAbs:Int) b.den=((a.num.natAbs.gcd b.den:Nat):Int):=by simp[gcdZ]
 have e2:gcdZ (b.num.natAbs:Int) a.den=((b.num.natAbs.gcd a.den:Nat):Int):=by simp[gcdZ]
 rw[e1,e2];constructor
 ·rw[h1,Yde,Ycw,Zdu (Nat.gcd_dvd_left _ _),Zdu (Nat.gcd_dvd_left _ _)]
 ·rw[h2,Ycw,Ydh]
  simp only[Int.natCast_ediv]
theorem Zmm {s t:Bool} {a b:Rat} (h:Sg s a.num) (g:Sg t b.num):Sg (s != t) (a*b).num:=by
 rw[(Zeh a b).1];refine Sg.prod (h.div ?_) (g.div ?_)
 ·have:=Yfa a.num.natAbs (Yck b.den_nz);omega
 ·have:=Yfa b.num.natAbs (Yck a.den_nz);omega
end Go.Mono
