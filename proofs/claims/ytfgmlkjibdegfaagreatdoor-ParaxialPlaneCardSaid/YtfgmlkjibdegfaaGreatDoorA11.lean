/- Contracts of package paraxial,and a verified evaluator. Part 11 of 28. No condition beside the row. -/
import Derived.Test.YtfgmlkjibdegfaaGreatDoorA04
import Derived.Test.YtfgmlkjibdegfaaGreatDoorA10
set_option linter.unusedVariables false
set_option linter.unusedSimpArgs false
set_option maxRecDepth 100000
set_option maxHeartbeats 4000000
namespace Go.Proofs.W
open Go.RowKit Go.Mono
theorem Zs3 (p q:Option Addr) (n m c1 c2:Nat) (f g:Nat->Int) (w:World) (h1:SlF w (.slice p n c1) n f) (h2:SlF w (.slice q m c2) m g) :
  Calls Tryz.prog 112 #[.slice p n c1,.slice q m c2] w λe w'=>∃r:Bool,e=.returned (.bool r)∧(r=true↔n=m∧∀i,i<n->f i=g i)∧∃k,w'=w.drewN k:=by
 obtain⟨hc1,hn1,hx1⟩:=h1.opens;obtain⟨hc2,hn2,hx2⟩:=h2.opens;clear h1 h2;by_cases hnm:n=m
 ·subst hnm
  go_enter Tryz.func112,Tryz.ntmps112
  go_wp2
  go_loopw [13] (λa wr=>∃k:Nat,k<=n∧a=.int .i64 (k:Int)∧(∀i,i<k->f i=g i)∧∃j,wr=w.drewN j) (λa _=>(n-intOf a).toNat)
  case atStart=>exact⟨0,Yat _,rfl,λi hi=>Zo,0,rfl⟩
  case round=>
   obtain⟨k,hk,rfl,ht,j,rfl⟩:=hrel;have HT:=Yah ht;clear ht;by_cases h0:k<n
   ·obtain⟨b,off,rfl,hb,hcell⟩:=hx1 Zo
    obtain⟨b2,off2,rfl,hb2,hcell2⟩:=hx2 Zo;have a1:=hcell k Zo;have a2:=hcell2 k Zo;clear hcell hcell2 hx1 hx2;have h0':(k:Int)<n:=Zo;by_cases hfg:f k=g k
    ·have hq:(f k != g k)=false:=by simpa using hfg
     have HF:=Yah hfg;clear hfg;go_wp2
     go_quiet (fail)
     go_wp2
     go_roundw
     case rel=>
      refine⟨k+1,Zo,Zs,λi hi=>?_,_,rfl⟩;by_cases h:i<k
      ·exact HT.out i h
      ·obtain rfl:i=k:=by omega
       exact HF.out
     case measure=>simp[intOf];omega
    ·have hq:(f k != g k)=true:=by simpa using hfg
     have HF:=Yah hfg;clear hfg;go_wp2
     go_quiet (fail)
     go_wp2
     go_ret
     exact⟨false,rfl,⟨Zs,λh=>absurd (h.2 k h0) HF.out⟩,_,by rw[Ydc]⟩
   ·obtain rfl:k=n:=by omega
    go_wp2
    go_ret
    refine⟨true,rfl,?_,_,rfl⟩;simp only[true_and];first|exact HT.out|exact⟨trivial,HT.out⟩|(simp;exact HT.out)
 ·have hq:((n:Int) != m)=true:=by simp;omega
  have HN:=Yah hnm;clear hnm;go_enter Tryz.func112,Tryz.ntmps112
  go_wp2
  go_ret
  exact⟨false,rfl,⟨Zs,λh=>absurd h.1 HN.out⟩,0,rfl⟩
theorem Zs4 (m1 m2:Nat) (p q:Option Addr) (n m c1 c2:Nat) (N M:Int) (w wf:World) (hx:Ext wf w) (h1:Sz m1 wf (.slice p n c1) N) (h2:Sz m2 wf (.slice q m c2) M) :
  Calls Tryz.prog 112 #[.slice p n c1,.slice q m c2] w λe w'=>e=.returned (.bool (decide (N=M)))∧Below w.heap.size w w':=by
 obtain⟨n',f,s1,d1,rfl,_,rfl⟩:=(h1.ext hx).sl;obtain⟨m',g,s2,d2,rfl,_,rfl⟩:=(h2.ext hx).sl;refine(Zs3 p q _ _ c1 c2 f g w s1 s2).mono ?_;rintro e w' ⟨r,rfl,hr,k,rfl⟩;refine⟨?_,below_drewN (Yae _ _) k⟩;have:r=decide (vf f n'=vf g m'):=by
  rw[Ycx,hr,decide_eq_true_iff];constructor
  ·rintro⟨rfl,h⟩;exact Zbk h
  ·intro h;exact d1.unique d2 h
 rw[this]
theorem Zkl {m1 m2:Nat} {v1 v2:Value} {z y:Int} (w:World) (h1:LgV m1 w v1 z) (h2:LgV m2 w v2 y) (hz:z≠0) (hy:y≠0) (hs:decide (z<0)=decide (y<0)) (hge:y.natAbs<=z.natAbs) (hm1:m1<=100000) :
  Calls Tryz.prog 212 #[v1,v2] w λe w'=>∃v,e=.returned v∧LgV m1 w' v (z-y)∧Below w.heap.size w w':=by
 obtain⟨p,n,c,f,rfl,s1,d1,e1,l1⟩:=h1;obtain⟨q,m,c',g,rfl,s2,d2,e2,l2⟩:=h2;have hn0:0<n:=d1.pos.1 Zo;have hm0:0<m:=d2.pos.1 Zo;have hsg:(z<0↔y<0):=by simpa using hs
 rw[<-hs];refine(Zi4 _ p q n m c c' f g w s1 s2 d1 d2 hn0 hm0 Zo Zo).mono ?_;rintro e w' ⟨p',k,c2,h,rfl,hsl,hd,hv,hk,hb⟩;rw[e1,e2]at hv ⊢;have hneg:(decide (z<0)&&decide (0<(z.natAbs:Int)-y.natAbs))=decide (z-y<0):=by
  rw[Ycx,Yam,decide_eq_true_eq,decide_eq_true_eq,decide_eq_true_eq];omega
 rw[hneg];exact⟨_,rfl,⟨p',k,c2,h,rfl,hsl,hd,Zo,Zo⟩,hb⟩
theorem Zra {m1 m2:Nat} {v1 v2:Value} {z y:Int} (w:World) (h1:LgV m1 w v1 z) (h2:LgV m2 w v2 y) (hz:z≠0) (hy:y≠0) (hs:decide (z<0)=decide (y<0)) (hlt:z.natAbs<y.natAbs) (hm2:m2<=100000) :
  Calls Tryz.prog 212 #[v1,v2] w λe w'=>∃v,e=.returned v∧LgV m2 w' v (z-y)∧Below w.heap.size w w':=by
 have hd:=λ(W:World) (hW:Below w.heap.size w W)=>Zkl W (h2.below hW) (h1.below hW) hy hz hs.symm Zo hm2;have hmi:=λ(W:World) (v:Value) (h:LgV m2 W v (y-z))=>Zh5 W h hm2;obtain⟨p,n,c,f,rfl,s1,d1,e1,l1⟩:=h1;obtain⟨q,m,c',g,rfl,s2,d2,e2,l2⟩:=h2;have hn0:0<n:=d1.pos.1 Zo;have hm0:0<m:=d2.pos.1 Zo;have hn0':((n:Int)==0)=false:=by simp;omega
 have hm0':((m:Int)==0)=false:=by simp;omega
 have hless:=λ(W:World) (hW:Below w.heap.size w W)=>Ze0 p q n m c c' f g W (s1.ext (.of_below hW)) (s2.ext (.of_below hW)) d1 d2;rw[decide_eq_true Zo]at hless;rw[<-hs]at hd ⊢;clear hs;generalize decide (z<0)=s at *;go_enter Tryz.func212,Tryz.ntmps212
 go_wp2_with fail
 refine Zby λW hB hs b0 b1 b2=>?_;refine(hless W hB).mono ?_;rintro e Wl ⟨rfl,kl,rfl⟩;have hBl:=below_drewN hB kl;replace b0:Box (W.drewN kl) w.heap.size 52 #[.bool s,.slice p n c]:=⟨b0.blk⟩
 replace b1:Box (W.drewN kl) (w.heap.size+1) 52 #[.bool s,.slice q m c']:=⟨b1.blk⟩
 replace b2:Box (W.drewN kl) (w.heap.size+1+1) 52 #[.bool false,.slice none 0 0]:=⟨b2.blk⟩
 have hsl:w.heap.size+1+1+1<=(W.drewN kl).heap.size:=hs;clear hless hB hs;generalize W.drewN kl=V at *;have cb0:=b0.cell;have lb0:=b0.lt;have fb0:=b0.frozen;have cb1:=b1.cell;have lb1:=b1.lt;have fb1:=b1.frozen;go_wp2_with fail
 refine(hd V hBl).mono ?_;rintro e W1 ⟨v',rfl,hl1,hb1⟩;replace b2:=b2.below hb1;have hB1:=Zaa hBl hb1;have hs1:=hb1.size;clear hd cb0 cb1 fb0 fb1 lb0 lb1 b0 b1;go_wp2_with fail
 refine(hmi W1 v' hl1).mono ?_;rintro e W2 ⟨v2,rfl,hl2,hb2⟩;replace b2:=b2.below hb2;have hB2:=Zaa hB1 hb2;obtain⟨C,rfl,hCs,hCo⟩:=hl2.cells;have hiC:(Tryz.prog.info? 52).map (·.size)=some C.size:=by rw[hCs];exact Zae
 clear hmi hl1 hb1 hb2 hB1;go_wp2_with first|(refine Zab rfl 52 _ _ rfl (w.heap.size+1+1) 0 52 _ C C rfl rfl b2 hiC (by rw[hCs];exact Yaa rfl) hCo (Zah (by rw[hCs];rfl)) ?_;intro W3 hk b4)
 have hb3:=hk.below hB2 Zo hB2.size;refine bodyPost_ret (b4.results rfl _ _ rfl Tryz.underlying52 rfl hiC) rfl ⟨_,rfl,?_,hb3⟩;rw[show z-y = -(y-z) by omega];exact hl2.ext (hk.ext b2 Zd)
theorem Zlv {m1 m2:Nat} {v1 v2:Value} {z y:Int} (w:World) (h1:LgV m1 w v1 z) (h2:LgV m2 w v2 y) (hz:z≠0) (hy:y≠0) (hs:decide (z<0)=decide (y<0)) (hm1:m1<=100000) (hm2:m2<=100000) :
  Calls Tryz.prog 212 #[v1,v2] w λe w'=>∃v,e=.returned v∧LgV (max m1 m2) w' v (z-y)∧Below w.heap.size w w':=by
 by_cases h:y.natAbs<=z.natAbs
 ·refine(Zkl w h1 h2 hz hy hs h hm1).mono ?_
  rintro e w' ⟨v,rfl,hl,hb⟩;exact⟨v,rfl,hl.mono Zo,hb⟩
 ·refine(Zra w h1 h2 hz hy hs Zo hm2).mono ?_
  rintro e w' ⟨v,rfl,hl,hb⟩;exact⟨v,rfl,hl.mono Zo,hb⟩
theorem Zos {m1 m2:Nat} {v1 v2:Value} {z y:Int} (w:World) (h1:LgV m1 w v1 z) (h2:LgV m2 w v2 y) (hz:z≠0) (hy:y≠0) (hs:decide (z<0)=decide (y<0)) (hm1:m1<=100000) (hm2:m2<=100000) :
  Calls Tryz.prog 185 #[v1,v2] w λe w'=>∃v,e=.returned v∧LgV (max m1 m2+1) w' v (z+y)∧Below w.heap.size w w':=by
 obtain⟨p,n,c,f,rfl,s1,d1,e1,l1⟩:=h1;obtain⟨q,m,c',g,rfl,s2,d2,e2,l2⟩:=h2;have hn0:0<n:=d1.pos.1 Zo;have hm0:0<m:=d2.pos.1 Zo;have hsg:(z<0↔y<0):=by simpa using hs
 rw[<-hs];refine(Zkk _ p q n m c c' f g w s1 s2 d1 d2 hn0 hm0 Zo Zo).mono ?_;rintro e w' ⟨p',k,c2,h,rfl,hsl,hd,hv,hk,hb⟩;rw[e1,e2]at hv;have hneg:decide (z<0)=decide (z+y<0):=by rw[decide_eq_decide];omega
 rw[hneg];exact⟨_,rfl,⟨p',k,c2,h,rfl,hsl,hd,Zo,Zo⟩,hb⟩
theorem Zih (s t:Bool) (m1 m2:Nat) (p q:Option Addr) (n m c1 c2:Nat) (N M:Int) (w wf:World) (hx:Ext wf w) (h1:Sz m1 wf (.slice p n c1) N) (h2:Sz m2 wf (.slice q m c2) M) :
  Calls Tryz.prog 68 #[.agg #[.bool s,.slice p n c1],.agg #[.bool t,.slice q m c2]] w λe w'=>e=.returned (.bool (decide (s=t∧N=M)))∧Below w.heap.size w w':=by
 replace h1:=h1.ext hx;replace h2:=h2.ext hx;clear hx;by_cases hst:s=t
 ·subst hst
  have e1:decide (s=s∧N=M)=decide (N=M):=Zs;rw[e1];clear e1;go_enter Tryz.func68,Tryz.ntmps68
  go_wp2_with fail
  refine Zbi λW hB hs b0 b1=>?_;refine(Zs4 m1 m2 p q n m c1 c2 N M W w (.of_below hB) h1 h2).mono ?_;rintro e W1 ⟨rfl,hb1⟩;go_wp2
  go_ret
  exact⟨rfl,Zaa hB hb1⟩
 ·have e1:decide (s=t∧N=M)=false:=by simp[hst]
  rw[e1];clear e1;have hss:(s==t)=false:=by simpa using hst
  clear hst;go_enter Tryz.func68,Tryz.ntmps68
  go_wp2_with fail
  go_ret
  exact⟨rfl,Zad (Zad (Yae _ _) _) _⟩
theorem Zld (s s' t t':Bool) (m1:Nat) (p q p' q':Option Addr) (n m c1 c2 n' m' c1' c2':Nat) (N M N' M':Int) (w wf:World) (hx:Ext wf w) (h1:Sz m1 wf (.slice p n c1) N) (h2:Sz m1 wf (.slice q m c2) M) (h3:Sz m1 wf (.slice p' n' c1') N') (h4:Sz m1 wf (.slice q' m' c2') M') :
  Calls Tryz.prog 27 #[.agg #[.bool s,.slice p n c1,.bool t,.slice q m c2],.agg #[.bool s',.slice p' n' c1',.bool t',.slice q' m' c2']] w λe w'=>e=.returned (.bool (decide ((s=s'∧N=N')∧(t=t'∧M=M'))))∧Below w.heap.size w w':=by
 replace h1:=h1.ext hx;replace h2:=h2.ext hx;replace h3:=h3.ext hx;replace h4:=h4.ext hx;clear hx;by_cases hst:s=s'∧N=N'
 ·have e1:decide ((s=s'∧N=N')∧(t=t'∧M=M'))=decide (t=t'∧M=M'):=by simp[hst]
  rw[e1];clear e1;have e2:decide (s=s'∧N=N')=true:=by simp[hst]
  replace e2:=Yah e2;clear hst;go_enter Tryz.func27,Tryz.ntmps27
  go_wp2_with fail
  refine Zbi λW hB hs b0 b1=>?_;refine(Zih s s' m1 m1 p p' n n' c1 c1' N N' _ w (.of_below hB) h1 h3).mono ?_;rintro e W1 ⟨rfl,hb1⟩;rw[e2.out];replace hB:=Zaa hB hb1;replace b0:=b0.below hb1;replace b1:=b1.below hb1;have cb0:=b0.cell;have lb0:=b0.lt;have fb0:=b0.frozen;have cb1:=b1.cell;have lb1:=b1.lt;have fb1:=b1.frozen;go_wp2_with fail
  refine(Zih t t' m1 m1 q q' m m' c2 c2' M M' _ w (.of_below hB) h2 h4).mono ?_;rintro e W2 ⟨rfl,hb2⟩;go_wp2
  go_ret
  exact⟨Zs,Zaa hB hb2⟩
 ·have e1:decide ((s=s'∧N=N')∧(t=t'∧M=M'))=false:=by simp;intro a b;exact absurd ⟨a,b⟩ hst
  rw[e1];clear e1;have e2:decide (s=s'∧N=N')=false:=by simpa using hst
  replace e2:=Yah e2;clear hst;go_enter Tryz.func27,Tryz.ntmps27
  go_wp2_with fail
  refine Zbi λW hB hs b0 b1=>?_;refine(Zih s s' m1 m1 p p' n n' c1 c1' N N' _ w (.of_below hB) h1 h3).mono ?_;rintro e W1 ⟨rfl,hb1⟩;rw[e2.out];go_wp2
  go_ret
  exact⟨rfl,Zaa hB hb1⟩
theorem Zs5 (u v:Value) (a b:Rat) (w wf:World) (hx:Ext wf w) (h1:QV wf u a) (h2:QV wf v b) :
  Calls Tryz.prog 27 #[u,v] w λe w'=>e=.returned (.bool (decide (a=b)))∧Below w.heap.size w w':=by
 obtain⟨p,k,c,p',k',c',rfl,x1,x2⟩:=h1;obtain⟨q,l,d,q',l',d',rfl,y1,y2⟩:=h2;have:decide ((decide (a.num<0)=decide (b.num<0)∧(a.num.natAbs:Int)=b.num.natAbs)∧(false=false∧(a.den:Int)=b.den))=decide (a=b):=by
  rw[decide_eq_decide];constructor
  ·rintro⟨⟨h1,h2⟩,_,h3⟩
   rw[decide_eq_decide]at h1;exact Rat.ext Zo Zo
  ·rintro rfl;simp
 rw[<-this];exact Zld _ _ _ _ 600 p p' q q' k k' c c' l l' d d' _ _ _ _ w wf hx x1 x2 y1 y2
end Go.Proofs.W
namespace Go.Mono
open Go.RowKit
theorem LgV.zero {m:Nat} {w:World} {v:Value} (h:LgV m w v 0):∃p c,v=.agg #[.bool false,.slice p 0 c]:=by
 obtain⟨p,n,c,f,rfl,h1,h2,h3,h4⟩:=h;have:¬0<n:=λh=>by have:=h2.pos.2 h;simp at h3;omega
 obtain rfl:n=0:=Zo;exact⟨p,c,rfl⟩
theorem LgV.nz {m:Nat} {w:World} {v:Value} {z:Int} (h:LgV m w v z) (hz:z≠0):∃p n c,v=.agg #[.bool (decide (z<0)),.slice p n c]∧0<n:=by
 obtain⟨p,n,c,f,rfl,h1,h2,h3,h4⟩:=h;exact⟨p,n,c,rfl,h2.pos.1 Zo⟩
theorem LgV.parts {m:Nat} {w:World} {v:Value} {z:Int} (h:LgV m w v z):∃s p n c,v=.agg #[.bool s,.slice p n c]:=by
 obtain⟨p,n,c,f,rfl,h1,h2,h3,h4⟩:=h;exact⟨_,p,n,c,rfl⟩
end Go.Mono
namespace Go.Proofs.W
open Go.RowKit Go.Mono
theorem Zgb (w:World) (T0 T1 T2:TypeId) (c0 c1 c2:Array Value):Box (((w.alloc (.cells c0 T0)).alloc (.cells c1 T1)).alloc (.cells c2 T2)) (w.heap.size+1+1) T2 c2:=by
 have b:=Box.new ((w.alloc (.cells c0 T0)).alloc (.cells c1 T1)) T2 c2;simp only[Yav]at b;exact b
theorem Zcp (w:World) (a b c:Obj):Below w.heap.size w (((w.alloc a).alloc b).alloc c):=Zad (Zad (Zad (Yae _ _) _) _) _
theorem Zlw {m1 m2:Nat} {v1 v2:Value} {y:Int} (w:World) (h1:LgV m1 w v1 0) (h2:LgV m2 w v2 y) :
  Calls Tryz.prog 185 #[v1,v2] w λe w'=>∃v,e=.returned v∧LgV m2 w' v y∧Below w.heap.size w w':=by
 obtain⟨p,c,rfl⟩:=h1.zero;obtain⟨s,q,m,c',rfl⟩:=h2.parts;go_enter Tryz.func185,Tryz.ntmps185
 go_wp2_with fail
 exact bodyPost_ret ((Zgb w _ _ _ _ _ _).results rfl _ _ rfl Tryz.underlying52 rfl Zae) rfl ⟨_,rfl,h2.below (Zcp w _ _ _),Zcp w _ _ _⟩
theorem Zlx {m1 m2:Nat} {v1 v2:Value} {z:Int} (w:World) (h1:LgV m1 w v1 z) (h2:LgV m2 w v2 0) (hz:z≠0) :
  Calls Tryz.prog 185 #[v1,v2] w λe w'=>∃v,e=.returned v∧LgV m1 w' v z∧Below w.heap.size w w':=by
 obtain⟨p,c,rfl⟩:=h2.zero;obtain⟨q,n,c',rfl,hn⟩:=h1.nz hz;have hn':((n:Int)==0)=false:=by simp;omega
 generalize decide (z<0)=s at *;go_enter Tryz.func185,Tryz.ntmps185
 go_wp2_with fail
 exact bodyPost_ret ((Zgb w _ _ _ _ _ _).results rfl _ _ rfl Tryz.underlying52 rfl Zae) rfl ⟨_,rfl,h1.below (Zcp w _ _ _),Zcp w _ _ _⟩
theorem Zly {m1 m2:Nat} {v1 v2:Value} {z y:Int} (w:World) (h1:LgV m1 w v1 z) (h2:LgV m2 w v2 y) (hz:z≠0) (hy:y≠0) (hs:¬decide (z<0)=decide (y<0)) (hm1:m1<=100000) (hm2:m2<=100000) :
  Calls Tryz.prog 185 #[v1,v2] w λe w'=>∃v,e=.returned v∧LgV (max m1 m2) w' v (z+y)∧Below w.heap.size w w':=by
 have hmi:=λ(W:World) (hW:Below w.heap.size w W)=>Zh5 W (h2.below hW) hm2;have hsg:¬(z<0↔y<0):=by simpa using hs
 have hd:=λ(W:World) (v:Value) (hW:Below w.heap.size w W) (h:LgV m2 W v (-y))=>Zlv W (h1.below hW) h hz Zo (by rw[decide_eq_decide];omega) hm1 hm2;obtain⟨p,n,c,rfl,hn0⟩:=h1.nz hz;obtain⟨q,m,c',rfl,hm0⟩:=h2.nz hy;have hn0':((n:Int)==0)=false:=by simp;omega
 have hm0':((m:Int)==0)=false:=by simp;omega
 have hst:(decide (z<0) != decide (y<0))=true:=by simpa using hs
 clear hs;generalize decide (z<0)=s at *;generalize decide (y<0)=t at *;have hst2:(!s==t)=true:=by cases s<;>cases t<;>simp_all
 go_enter Tryz.func185,Tryz.ntmps185
 go_wp2_with fail
 refine Zfs λW hB hs b0 b1 b2=>?_;refine wp_region_held_drew (S:=λw'=>KeepBut (w.heap.size+1+1) W.heap.size W w') Zx (KeepBut.refl _ _).drew (λhHeld=>?_);generalize hX:W.drew=X0 at *;have r0:∀X,KeepBut (w.heap.size+1+1) W.heap.size W X->X.rangeAt w.heap.size 0 (#[.bool s,.slice p n c]:Array Value).toList:=λX h=>(h.box b0 b0.lt Zo).range;have r1:∀X,KeepBut (w.heap.size+1+1) W.heap.size W X->X.rangeAt (w.heap.size+1) 0 (#[.bool t,.slice q m c']:Array Value).toList:=λX h=>(h.box b1 b1.lt Zo).range;refine tl 0 (some 24) rfl (.agg #[.bool s,.slice p n c]) (Zaj 52 _ rfl w.heap.size 0 rfl #[.bool s,.slice p n c] r0 _ Tryz.underlying52 rfl Zae) ?_;refine tl 1 (some 25) rfl (.agg #[.bool t,.slice q m c']) (Zaj 52 _ rfl (w.heap.size+1) 0 rfl #[.bool t,.slice q m c'] r1 _ Tryz.underlying52 rfl Zae) ?_;have hBX:Below w.heap.size w X0:=by rw[<-hX];exact hB.drew
 have b2X:Box X0 (w.heap.size+1+1) 52 #[.bool false,.slice none 0 0]:=by rw[<-hX];exact b2.drew
 refine Mono.stc 2 (some 26) (hmi X0 hBX) (λe X1 hR=>?_);obtain⟨v',rfl,hl1,hb1⟩:=hR;refine⟨(hHeld.call hb1),λhHeld=>Mono.pt ?_⟩;have hBX1:=Zaa hBX hb1;refine Mono.stc 3 (some 27) (hd X1 v' hBX1 hl1) (λe X2 hR=>?_);obtain⟨v2,rfl,hl2,hb2⟩:=hR;refine⟨(hHeld.call hb2),λhHeld=>Mono.pt ?_⟩;have hBX2:=Zaa hBX1 hb2;have b2Y:=(b2X.below hb1).below hb2;obtain⟨C,rfl,hCs,hCo⟩:=hl2.cells;have hiC:(Tryz.prog.info? 52).map (·.size)=some C.size:=by rw[hCs];exact Zae
 have hn2:(#[.bool false,.slice none 0 0]:Array Value).size=C.size:=by rw[hCs];rfl
 refine Zb4 (w.heap.size+1+1) 52 4 rfl rfl rfl rfl 0 C #[.bool false,.slice none 0 0] C Zx (λw i u h=>h.set i u) Zx Zx b2Y hHeld hiC (by rw[hCs];exact Yaa rfl) hCo (Zah hn2) (λY hk b4 hHeld=>?_);refine wpAnyH_done Zx ?_ _;have hlg:=hl2.ext (hk.ext b2Y Zd);have hb3:=hk.below hBX2 Zo hBX2.size;clear r0 r1 b2X hX hBX hmi hd hl1 hb1 hBX1 hl2 hb2 b2Y hk hHeld b0 b1 b2 hB h1 h2;go_wp2
 refine bodyPost_ret (b4.results rfl _ _ rfl Tryz.underlying52 rfl hiC) rfl ⟨_,rfl,?_,hb3⟩;rw[show z+y=z - -y by omega];exact hlg
theorem Znf {m1 m2:Nat} {v1 v2:Value} {z y:Int} (w:World) (h1:LgV m1 w v1 z) (h2:LgV m2 w v2 y) (hm1:m1<=100000) (hm2:m2<=100000) :
  Calls Tryz.prog 185 #[v1,v2] w λe w'=>∃v,e=.returned v∧LgV (max m1 m2+1) w' v (z+y)∧Below w.heap.size w w':=by
 by_cases hz:z=0
 ·subst hz
  refine(Zlw w h1 h2).mono ?_;rintro e w' ⟨v,rfl,hl,hb⟩;exact⟨v,rfl,by rw[Int.zero_add];exact hl.mono Zo,hb⟩
 ·by_cases hy : y = 0
  ·subst hy
   refine(Zlx w h1 h2 hz).mono ?_;rintro e w' ⟨v,rfl,hl,hb⟩;exact⟨v,rfl,by rw[Yda];exact hl.mono Zo,hb⟩
  ·by_cases hs:decide (z<0)=decide (y<0)
   ·exact Zos w h1 h2 hz hy hs hm1 hm2
   ·refine(Zly w h1 h2 hz hy hs hm1 hm2).mono ?_
    rintro e w' ⟨v,rfl,hl,hb⟩;exact⟨v,rfl,hl.mono Zo,hb⟩
theorem Zuo (z:Int) (w:World) (h1 : -9223372036854775808<=z) (h2:z<=9223372036854775807) :
  Calls Tryz.prog 123 #[.int .i64 z] w λe w'=>∃p k c,e=.returned (.agg #[.bool (decide (z<0)),.slice p k c])∧Sz 600 w' (.slice p k c) z.natAbs∧Below w.heap.size w w':=by
 go_enter Tryz.func123,Tryz.ntmps123
 go_wp2_with fail
 refine Zeh λW hB hs b0 b1=>?_;go_loopw [0] (λa wr=>∃(k:Nat) (f:Nat->Int) (r:Int) (v:Value),a=.int .i64 r∧OwnF wr (w.heap.size+1+1) v k f∧Box wr (w.heap.size+1) 52 #[.bool (decide (z<0)),v]∧Box wr w.heap.size 52 #[.bool false,.slice none 0 0]∧OfInv z r k f∧Below w.heap.size w wr∧w.heap.size+1+1<=wr.heap.size) (λa _=>(intOf a).natAbs)
 case atStart=>exact⟨0,_,z,_,rfl,OwnF.nil _ _ _,b1,b0,OfInv.start z,hB,hs⟩
 case round=>
  clear b0 b1 hB hs;obtain⟨k,f,r,v,rfl,ho,b1,b0,hI,hB,hs⟩:=hrel;have hr:=hI.bound h1 h2;obtain⟨p,c,rfl⟩:=ho.shape;by_cases h0:r=0
  ·subst h0
   have cb0:=b0.cell;have lb0:=b0.lt;have fb0:=b0.frozen;have cb1:=b1.cell;have lb1:=b1.lt;have fb1:=b1.frozen;go_wp2
   have b3':=((b0.set 0 (.bool (decide (z<0)))).set 1 (.slice p k c)).cell;have hk3:k<=600:=by
    have hv:=hI.val;have hd:Digs f k:=⟨hI.lo,hI.hi,hI.top rfl⟩
    by_cases h:k<=3
    ·omega
    ·have:=hd.ge Zo
     have h3:=Zbt (i:=3) (k:=k-1) Zo;have e3:pw 3=1000000000000000000000000000:=Zd;simp at hv;omega
   have hd:Digs f k:=⟨hI.lo,hI.hi,hI.top rfl⟩
   refine bodyPost_ret (v:=.agg #[.bool (decide (z<0)),.slice p k c]) (by simp[results,Tryz.results123,go_sem,b3']) rfl ⟨_,_,_,rfl,⟨k,f,?_,hd,?_,hk3⟩,?_⟩
   ·exact((ho.set _ _ (by show w.heap.size<_;omega)).set _ _ (by show w.heap.size<_;omega)).sl Zo
   ·have:=hI.val;simpa using this
   ·exact Zai (Zai hB Zo _ _) Zo _ _
  ·have hk:=hI.small h1 h2 h0
   have hst:=hI.step h0;have h0':(r != 0)=true:=by simpa using h0
   have hmm:(r.tmod 1000000000).natAbs<1000000000:=by rw[Ydy];exact Nat.mod_lt _ Zd
   have hm1 : -1000000000<r.tmod 1000000000:=Zo;have hm2:r.tmod 1000000000<1000000000:=Zo;have hdd:(r.tdiv 1000000000).natAbs=r.natAbs/1000000000:=by rw[Yfg];rfl
   have hw:wrap64 (r.tdiv 1000000000)=r.tdiv 1000000000:=by unfold wrap64;omega
   have cb0:=b0.cell;have lb0:=b0.lt;have fb0:=b0.frozen;have cb1:=b1.cell;have lb1:=b1.lt;have fb1:=b1.frozen;replace h0:=Yah h0;go_wp2_with (at_builtin;(refine Zbb _ rfl _ _ 33 rfl Tryz.underlying33 Zbz (w.heap.size+1+1) (.slice p k c) k f rfl ?_ (some ⟨wr.heap.size,0,none⟩) 1 1 (λ_=>((r.tmod 1000000000).natAbs:Int)) rfl ?_ ?_ ?_ ?_);(exact(ho.below ((Yae _ _).alloc (Yab _) _)));(exact(Zii wr _ _ (by first|omega|(split<;>omega))));omega;(simp;omega);(intro v' w1 ho' hg);(obtain⟨p',c',rfl⟩:=ho'.shape);(have hz:=((Yae (w.heap.size+1+1) wr).alloc hs _).grown hg (by simp;omega) (λk hk=>ho.low k hk));(replace b0:=b0.low hz Zo);(replace b1:=b1.low hz Zo);(clear cb0 lb0 fb0 cb1 lb1 fb1);(have cb0:=b0.cell);(have cb1:=b1.cell);(have fb1:=b1.frozen);(have lb1:=b1.lt))
   all_goals
    go_roundw
    case rel=>
     refine⟨k+1,_,r.tdiv 1000000000,.slice p' (k+1) c',Zs,ho'.set ⟨w.heap.size+1,1,none⟩ _ (by show w.heap.size+1<_;omega),b1.set 1 _,b0.other _ _ (by show w.heap.size≠w.heap.size+1;omega),hst,?_,?_⟩
     ·exact Zai (hB.trans (hz.mono Zo)) Zo _ _
     ·have:=hz.size
      simp only[World.size_setCell];omega
    case measure=>
     have:=h0.out;first
      | (show(r.tdiv 1000000000).natAbs<r.natAbs;rw[hdd];exact Nat.div_lt_self Zo Zd)
      | fail "measure"

end Go.Proofs.W
