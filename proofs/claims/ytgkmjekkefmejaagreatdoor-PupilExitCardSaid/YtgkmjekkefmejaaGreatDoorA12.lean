/- Contracts of package matrix,and a verified evaluator. Part 12 of 27. No condition beside the row. -/
import Derived.Test.YtgkmjekkefmejaaGreatDoorA01
import Derived.Test.YtgkmjekkefmejaaGreatDoorA02
import Derived.Test.YtgkmjekkefmejaaGreatDoorA11
set_option linter.unusedVariables false
set_option linter.unusedSimpArgs false
set_option maxRecDepth 100000
set_option maxHeartbeats 4000000
namespace Go.Proofs.W
open Go.RowKit Go.Mono
theorem Zuu (p q:Option Addr) (n m c1 c2:Nat) (f g:Nat->Int) (w:World) (h1:SlF w (.slice p n c1) n f) (h2:SlF w (.slice q m c2) m g) :
  Calls Tryz.prog 95 #[.slice p n c1,.slice q m c2] w λe w'=>∃r:Bool,e=.returned (.bool r)∧(r=true↔n=m∧∀i,i<n->f i=g i)∧∃k,w'=w.drewN k:=by
 obtain⟨hc1,hn1,hx1⟩:=h1.opens;obtain⟨hc2,hn2,hx2⟩:=h2.opens;clear h1 h2;by_cases hnm:n=m
 ·subst hnm
  go_enter Tryz.func95,Tryz.ntmps95
  go_wp2
  go_loopw [13] (λa wr=>∃k:Nat,k<=n∧a=.int .i64 (k:Int)∧(∀i,i<k->f i=g i)∧∃j,wr=w.drewN j) (λa _=>(n-intOf a).toNat)
  case atStart=>exact⟨0,Yat _,rfl,λi hi=>Zo,0,rfl⟩
  case round=>
   obtain⟨k,hk,rfl,ht,j,rfl⟩:=hrel;have HT:=Yah ht;clear ht;by_cases h0:k<n
   ·obtain⟨b,off,rfl,hb,hcell⟩:=hx1 Zo
    obtain⟨b2,off2,rfl,hb2,hcell2⟩:=hx2 Zo;have a1:=hcell k Zo;have a2:=hcell2 k Zo;clear hcell hcell2 hx1 hx2;have h0':(k:Int)<n:=Zo;by_cases hfg:f k=g k
    ·have hq:(f k != g k)=false:=by simpa using hfg
     have HF:=Yah hfg;clear hfg;go_wp2
     go_quiet (fail)
     go_wp2
     go_roundw
     case rel=>
      refine⟨k+1,Zo,Zs,λi hi=>?_,_,rfl⟩;by_cases h:i<k
      ·exact HT.out i h
      ·obtain rfl:i=k:=by omega
       exact HF.out
     case measure=>simp[intOf];omega
    ·have hq:(f k != g k)=true:=by simpa using hfg
     have HF:=Yah hfg;clear hfg;go_wp2
     go_quiet (fail)
     go_wp2
     go_ret
     exact⟨false,rfl,⟨Zs,λh=>absurd (h.2 k h0) HF.out⟩,_,by rw[Ydc]⟩
   ·obtain rfl:k=n:=by omega
    go_wp2
    go_ret
    refine⟨true,rfl,?_,_,rfl⟩;simp only[true_and];first|exact HT.out|exact⟨trivial,HT.out⟩|(simp;exact HT.out)
 ·have hq:((n:Int) != m)=true:=by simp;omega
  have HN:=Yah hnm;clear hnm;go_enter Tryz.func95,Tryz.ntmps95
  go_wp2
  go_ret
  exact⟨false,rfl,⟨Zs,λh=>absurd h.1 HN.out⟩,0,rfl⟩
theorem Zuv (m1 m2:Nat) (p q:Option Addr) (n m c1 c2:Nat) (N M:Int) (w wf:World) (hx:Ext wf w) (h1:Sz m1 wf (.slice p n c1) N) (h2:Sz m2 wf (.slice q m c2) M) :
  Calls Tryz.prog 95 #[.slice p n c1,.slice q m c2] w λe w'=>e=.returned (.bool (decide (N=M)))∧Below w.heap.size w w':=by
 obtain⟨n',f,s1,d1,rfl,_,rfl⟩:=(h1.ext hx).sl;obtain⟨m',g,s2,d2,rfl,_,rfl⟩:=(h2.ext hx).sl;refine(Zuu p q _ _ c1 c2 f g w s1 s2).mono ?_;rintro e w' ⟨r,rfl,hr,k,rfl⟩;refine⟨?_,below_drewN (Yae _ _) k⟩;have:r=decide (vf f n'=vf g m'):=by
  rw[Ycx,hr,decide_eq_true_iff];constructor
  ·rintro⟨rfl,h⟩;exact Zbj h
  ·intro h;exact d1.unique d2 h
 rw[this]
theorem Zja (s t:Bool) (m1 m2:Nat) (p q:Option Addr) (n m c1 c2:Nat) (N M:Int) (w wf:World) (hx:Ext wf w) (h1:Sz m1 wf (.slice p n c1) N) (h2:Sz m2 wf (.slice q m c2) M) :
  Calls Tryz.prog 38 #[.agg #[.bool s,.slice p n c1],.agg #[.bool t,.slice q m c2]] w λe w'=>e=.returned (.bool (decide (s=t∧N=M)))∧Below w.heap.size w w':=by
 replace h1:=h1.ext hx;replace h2:=h2.ext hx;clear hx;by_cases hst:s=t
 ·subst hst
  have e1:decide (s=s∧N=M)=decide (N=M):=Zs;rw[e1];clear e1;go_enter Tryz.func38,Tryz.ntmps38
  go_wp2_with fail
  refine Zbq λW hB hs b0 b1=>?_;refine(Zuv m1 m2 p q n m c1 c2 N M W w (.of_below hB) h1 h2).mono ?_;rintro e W1 ⟨rfl,hb1⟩;go_wp2
  go_ret
  exact⟨rfl,Zaa hB hb1⟩
 ·have e1:decide (s=t∧N=M)=false:=by simp[hst]
  rw[e1];clear e1;have hss:(s==t)=false:=by simpa using hst
  clear hst;go_enter Tryz.func38,Tryz.ntmps38
  go_wp2_with fail
  go_ret
  exact⟨rfl,Zad (Zad (Yae _ _) _) _⟩
theorem Zmn (s s' t t':Bool) (m1:Nat) (p q p' q':Option Addr) (n m c1 c2 n' m' c1' c2':Nat) (N M N' M':Int) (w wf:World) (hx:Ext wf w) (h1:Sz m1 wf (.slice p n c1) N) (h2:Sz m1 wf (.slice q m c2) M) (h3:Sz m1 wf (.slice p' n' c1') N') (h4:Sz m1 wf (.slice q' m' c2') M') :
  Calls Tryz.prog 12 #[.agg #[.bool s,.slice p n c1,.bool t,.slice q m c2],.agg #[.bool s',.slice p' n' c1',.bool t',.slice q' m' c2']] w λe w'=>e=.returned (.bool (decide ((s=s'∧N=N')∧(t=t'∧M=M'))))∧Below w.heap.size w w':=by
 replace h1:=h1.ext hx;replace h2:=h2.ext hx;replace h3:=h3.ext hx;replace h4:=h4.ext hx;clear hx;by_cases hst:s=s'∧N=N'
 ·have e1:decide ((s=s'∧N=N')∧(t=t'∧M=M'))=decide (t=t'∧M=M'):=by simp[hst]
  rw[e1];clear e1;have e2:decide (s=s'∧N=N')=true:=by simp[hst]
  replace e2:=Yah e2;clear hst;go_enter Tryz.func12,Tryz.ntmps12
  go_wp2_with fail
  refine Zbq λW hB hs b0 b1=>?_;refine(Zja s s' m1 m1 p p' n n' c1 c1' N N' _ w (.of_below hB) h1 h3).mono ?_;rintro e W1 ⟨rfl,hb1⟩;rw[e2.out];replace hB:=Zaa hB hb1;replace b0:=b0.below hb1;replace b1:=b1.below hb1;have cb0:=b0.cell;have lb0:=b0.lt;have fb0:=b0.frozen;have cb1:=b1.cell;have lb1:=b1.lt;have fb1:=b1.frozen;go_wp2_with fail
  refine(Zja t t' m1 m1 q q' m m' c2 c2' M M' _ w (.of_below hB) h2 h4).mono ?_;rintro e W2 ⟨rfl,hb2⟩;go_wp2
  go_ret
  exact⟨Zs,Zaa hB hb2⟩
 ·have e1:decide ((s=s'∧N=N')∧(t=t'∧M=M'))=false:=by simp;intro a b;exact absurd ⟨a,b⟩ hst
  rw[e1];clear e1;have e2:decide (s=s'∧N=N')=false:=by simpa using hst
  replace e2:=Yah e2;clear hst;go_enter Tryz.func12,Tryz.ntmps12
  go_wp2_with fail
  refine Zbq λW hB hs b0 b1=>?_;refine(Zja s s' m1 m1 p p' n n' c1 c1' N N' _ w (.of_below hB) h1 h3).mono ?_;rintro e W1 ⟨rfl,hb1⟩;rw[e2.out];go_wp2
  go_ret
  exact⟨rfl,Zaa hB hb1⟩
theorem Zuw (u v:Value) (a b:Rat) (w wf:World) (hx:Ext wf w) (h1:QV wf u a) (h2:QV wf v b) :
  Calls Tryz.prog 12 #[u,v] w λe w'=>e=.returned (.bool (decide (a=b)))∧Below w.heap.size w w':=by
 obtain⟨p,k,c,p',k',c',rfl,x1,x2⟩:=h1;obtain⟨q,l,d,q',l',d',rfl,y1,y2⟩:=h2;have:decide ((decide (a.num<0)=decide (b.num<0)∧(a.num.natAbs:Int)=b.num.natAbs)∧(false=false∧(a.den:Int)=b.den))=decide (a=b):=by
  rw[decide_eq_decide];constructor
  ·rintro⟨⟨h1,h2⟩,_,h3⟩
   rw[decide_eq_decide]at h1;exact Rat.ext Zo Zo
  ·rintro rfl;simp
 rw[<-this];exact Zmn _ _ _ _ 600 p p' q q' k k' c c' l l' d d' _ _ _ _ w wf hx x1 x2 y1 y2
end Go.Proofs.W
namespace Go.Mono
open Go.RowKit
theorem Box.results2s {P:Program} {w:World} {B B1:Nat} {T T1:TypeId} {cs cs1:Array Value} (b:Box w B T cs) (b1:Box w B1 T1 cs1) {fn:Func} {p p1:Tmp} {ty ty1:TypeId} (h:fn.results = #[.cell p ty,.cell p1 ty1]) (tmps:Array Value) (d d1:TypeDesc)
  (ht:tmps.getD p undef=.pointer (some ⟨B,0,none⟩)) (ht1:tmps.getD p1 undef=.pointer (some ⟨B1,0,none⟩)) (hu:P.underlying ty=some d) (hd:d.isRow=true) (hi:(P.info? ty).map (·.size)=some cs.size)
  (hu1:P.underlying ty1=some d1) (hd1:d1.isRow=true) (hi1:(P.info? ty1).map (·.size)=some cs1.size):(Go.results fn tmps).run P w=.ok (.tuple #[.agg cs,.agg cs1]) w:=by
 have hp':tmps[p]?.getD undef=.pointer (some ⟨B,0,none⟩):=by simpa using ht
 have hp1:tmps[p1]?.getD undef=.pointer (some ⟨B1,0,none⟩):=by simpa using ht1
 have hld:=run_loadVar_row (P:=P) w B T ty cs (0,0) d b.blk hu (by cases d<;>simp_all [TypeDesc.isRow]) hi;have hld1:=run_loadVar_row (P:=P) w B1 T1 ty1 cs1 (0,0) d1 b1.blk hu1 (by cases d1<;>simp_all [TypeDesc.isRow]) hi1;simp[Go.results,h,hp',hp1,asAddr,hld,hld1]
theorem OwnF.lit (w:World) (x:Int):OwnF (w.alloc (.cells #[.int .i64 x] 3)) w.heap.size (.slice (some ⟨w.heap.size,0,none⟩) 1 1) 1 (λ_=>x):=
 ⟨Zs,.inr ⟨w.heap.size,1,#[.int .i64 x],rfl,Yab _,(Box.new _ _ _).blk,Yab _,by simp[maxLen],rfl,rfl⟩⟩
theorem Zdh {X:World} {B R j:Nat} {u:Value} {A:Array Value} (h:∀i,X.cell? ⟨B,i,none⟩=A[i]?) (hne:B≠R):∀i,(X.setCell ⟨R,j,none⟩ u).cell? ⟨B,i,none⟩=A[i]?:=λi=>
 (World.cell?_of_block (a:=⟨B,i,none⟩) (Ydx X ⟨R,j,none⟩ u B hne)).trans (h i)
structure QInv (w wr:World) (T:TypeId) (R n:Nat) (q:Nat->Int) (A0 A1:Array Value):Prop where
 row:RowF wr R n q
 b0:Box wr w.heap.size T A0
 b1:Box wr (w.heap.size+1) T A1
 b2:Box wr (w.heap.size+1+1) T #[.bool false,.slice none 0 0]
 b3:Box wr (w.heap.size+1+1+1) T #[.bool false,.slice none 0 0]
 below:Below w.heap.size w wr
 above:w.heap.size+1+1+1+1<=R
theorem QInv.of_below {w wr w':World} {T:TypeId} {R n:Nat} {q:Nat->Int} {A0 A1:Array Value} (h:QInv w wr T R n q A0 A1) (hb:Below (R+1) wr w'):QInv w w' T R n q A0 A1:=by
 have ha:=h.above;obtain⟨cs,h1,h2⟩:=h.row;exact⟨⟨cs,(hb.block R Zo).trans h1,h2⟩,h.b0.low hb Zo,h.b1.low hb Zo,h.b2.low hb Zo,h.b3.low hb Zo,h.below.trans (hb.mono Zo),ha⟩
theorem QInv.set {w wr:World} {T:TypeId} {R n:Nat} {q:Nat->Int} {A0 A1:Array Value} (h:QInv w wr T R n q A0 A1) (j:Nat) (x:Int):QInv w (wr.setCell ⟨R,j,none⟩ (.int .i64 x)) T R n (λi=>if i=j then x else q i) A0 A1:=by
 have ha:=h.above;exact⟨h.row.set j x,h.b0.other _ _ (by show w.heap.size≠R;omega),h.b1.other _ _ (by show w.heap.size+1≠R;omega),h.b2.other _ _ (by show w.heap.size+1+1≠R;omega),h.b3.other _ _ (by show w.heap.size+1+1+1≠R;omega),Zaf h.below Zo _ _,ha⟩
end Go.Mono
namespace Go.Proofs.W
open Go.RowKit Go.Mono
theorem Zh9 (s t:Bool) (p q:Option Addr) (n m c1 c2:Nat) (f g:Nat->Int) (w:World) (h1:SlF w (.slice p n c1) n f) (h2:SlF w (.slice q (m+1) c2) (m+1) g) (d1:Digs f n) (d2:Digs g (m+1)) (hn6:n<=100000) (hm6:m<=100000) :
  Calls Tryz.prog 253 #[.agg #[.bool s,.slice p n c1],.agg #[.bool t,.slice q (m+1) c2]] w λe w'=>∃p1 k1 c1 h1 p2 k2 c2 h2,e=.returned (.tuple #[.agg #[.bool ((s != t)&&decide (0<vf f n/vf g (m+1))),.slice p1 k1 c1],.agg #[.bool (s&&decide (0<vf f n%vf g (m+1))),.slice p2 k2 c2]])∧
   SlF w' (.slice p1 k1 c1) k1 h1∧Digs h1 k1∧vf h1 k1=vf f n/vf g (m+1)∧k1<=n∧SlF w' (.slice p2 k2 c2) k2 h2∧Digs h2 k2∧vf h2 k2=vf f n%vf g (m+1)∧k2<=m+1∧Below w.heap.size w w':=by
 obtain⟨hc1,hn1,hx1⟩:=h1.opens;obtain⟨hc2,hn2,hx2⟩:=h2.opens;have hB1:0<vf g (m+1):=d2.pos.2 Zo;obtain⟨s1,hs1⟩:∃sg:Bool,((s != t)&&decide (0<vf f n/vf g (m+1)))=sg:=⟨_,rfl⟩
 obtain⟨s2,hs2⟩:∃sg:Bool,(s&&decide (0<vf f n%vf g (m+1)))=sg:=⟨_,rfl⟩
 rw[hs1,hs2];replace hs1:=Yah hs1;replace hs2:=Yah hs2;go_enter Tryz.func253,Tryz.ntmps253
 go_wp2_with (first
  | (at_make;refine Za1 _ rfl _ _ 43 rfl Tryz.underlying43 Zby _ _ n rfl rfl Zs Zs Zo ?_;intro W1 r1 hb1;have q0:=((((Box.new w 45 #[.bool s,.slice p n c1]).alloc (.cells #[.bool t,.slice q (m+1) c2] 45)).alloc (.cells #[.bool false,.slice none 0 0] 45)).alloc (.cells #[.bool false,.slice none 0 0] 45)).below hb1;have cq0:=q0.cell))
 have hR:((((w.alloc (.cells #[.bool s,.slice p n c1] 45)).alloc (.cells #[.bool t,.slice q (m+1) c2] 45)).alloc (.cells #[.bool false,.slice none 0 0] 45)).alloc (.cells #[.bool false,.slice none 0 0] 45)).heap.size=w.heap.size+1+1+1+1:=Zs;rw[hR]at r1;have hB:=Zaa (Zad (Zcn w (.cells #[.bool s,.slice p n c1] 45) (.cells #[.bool t,.slice q (m+1) c2] 45) (.cells #[.bool false,.slice none 0 0] 45)) (.cells #[.bool false,.slice none 0 0] 45)) hb1;have hI0:QInv w W1 45 (w.heap.size+1+1+1+1) n (λ_=>0) #[.bool s,.slice p n c1] #[.bool t,.slice q (m+1) c2]:=by
  have b1:=Box.new (w.alloc (.cells #[.bool s,.slice p n c1] 45)) 45 #[.bool t,.slice q (m+1) c2];have b3:=Box.new (((w.alloc (.cells #[.bool s,.slice p n c1] 45)).alloc (.cells #[.bool t,.slice q (m+1) c2] 45)).alloc (.cells #[.bool false,.slice none 0 0] 45)) 45 #[.bool false,.slice none 0 0];simp only[Yav]at b1 b3;exact⟨r1,q0,((b1.alloc _).alloc _).below hb1,((Zgh w _ _ _ _ _ _).alloc _).below hb1,b3.below hb1,hB,Yab _⟩
 have hs0:=hI0.row.lt;clear hb1 hB hR r1 q0 cq0;go_loopw [7,8] (λv x wr=>∃(i r:Nat) (h qf:Nat->Int) (R:Int),i<=n∧x=.int .i64 ((i:Int)-1)∧OwnF wr (w.heap.size+1+1+1+1+1) v r h∧Digs h r∧vf h r=R∧ParI f n (vf g (m+1)) i qf R∧QInv w wr 45 (w.heap.size+1+1+1+1) n qf #[.bool s,.slice p n c1] #[.bool t,.slice q (m+1) c2]∧w.heap.size+1+1+1+1+1<=wr.heap.size) (λ_ x _=>(intOf x+1).toNat)
 case atStart=>exact⟨n,0,λ_=>0,_,0,Yab _,rfl,OwnF.nil _ _ _,⟨λi hi=>Zo,λi hi=>Zo,λh=>Zo⟩,rfl,ParI.start _ _ _ hB1,hI0,Zo⟩
 case round=>
  clear hI0 hs0;obtain⟨i,r,h,qf,R,hi,rfl,ho,d3,hv,hP,hI,hsz⟩:=hrel;obtain⟨pr,cr,rfl⟩:=ho.shape;have b0:=hI.b0;have cb0:=b0.cell;have lb0:=b0.lt;have fb0:=b0.frozen;by_cases hi0:0<i
  ·obtain⟨i,rfl⟩:∃j,i=j+1:=⟨i-1,Zo⟩
   rw[show((i+1:Nat):Int)-1=(i:Int) by omega];obtain⟨b,off,rfl,hb,hcell⟩:=hx1 Zo;have ai:=(hI.below.cell (p:=⟨b,off+i,none⟩) hb).trans (hcell i Zo);have hin:(i:Int)<n:=Zo;have f0:=d1.lo i Zo;have f9:=d1.hi i Zo;have hr6:r<=m+1:=d3.len_le d2 (by have:=hP.r1;omega);generalize hfi:f i=x at *;clear hcell;go_wp2_with (at_builtin;(refine Za9 _ rfl _ _ 43 rfl Tryz.underlying43 Zby wr.heap.size (.slice (some ⟨wr.heap.size,0,none⟩) 1 1) 1 (λ_=>x) rfl (OwnF.lit wr x) pr r cr h rfl ?_ ?_ ?_ ?_);(exact(ho.sl Zo).ext ((Ext.refl _).alloc _));omega;(simp);(intro v' w1 ho' hg))
   obtain⟨p',c',rfl⟩:=ho'.shape;have hz:Below wr.heap.size wr w1:=((Yae wr.heap.size wr).alloc (Yab _) (.cells #[.int .i64 x] 3)).grown hg Zs (λk hk=>(OwnF.lit wr x).low k hk);have hnext:SlF w1 (.slice p' (r+1) c') (r+1) (shl x h):=by
    have e:OwnF w1 wr.heap.size (.slice p' (1+r) c') (1+r) (shl x h):=ho'.congr λj hj=>by
     unfold shl;by_cases h0:j=0
     ·rw[if_pos Zo,if_pos h0]
     ·rw[if_neg Zo,if_neg h0]
    rw[Yfb]at e;exact e.sl Zo
   rw[Yfb 1 r];have hmade:=λ(X:World) (hX:Ext w1 X)=>Zbm false p' (r+1) c' (shl x h) X (hnext.ext hX) Zo (λj hj=>by
    unfold shl;split
    ·exact f0
    ·exact d3.lo _ Zo) (λj hj=>by
    unfold shl;split
    ·exact f9
    ·exact d3.hi _ Zo)
   have hIz:=hI.of_below (hz.mono Zo);clear cb0 lb0 fb0 b0 ai ho hg ho';have b1:=hIz.b1;have cb1:=b1.cell;have lb1:=b1.lt;have fb1:=b1.frozen;go_wp2
   refine wp_region_held_drew (S:=λw'=>(∀i,w'.cell? ⟨w.heap.size+1,i,none⟩=(#[.bool t,.slice q (m+1) c2]:Array Value)[i]?)∧Below w.heap.size w w') Zx ⟨cb1,hIz.below.drew⟩ (λhHeld=>?_);have hz0:=hz.drew;have hx0:Ext w1 w1.drew:=(Ext.refl _).drew;have hsz0:wr.heap.size<=w1.drew.heap.size:=hz.size;generalize w1.drew=X0 at *;refine tk 0 (some 31) ?_;refine tk 1 (some 32) ?_;refine tk 2 (some 33) ?_;refine tk 5 (some 36) ?_;refine tk 6 (some 37) ?_;have hIX:=hI.of_below (hz0.mono Zo);refine Mono.stc 3 (some 34) (hmade X0 hx0) (λe X1 hR=>?_);obtain⟨v2,rfl,ho2,d4,e4,hb4⟩:=hR;refine⟨(⟨(hIX.b1.below hb4).cell,Zaa hHeld.2 hb4⟩),λhHeld=>Mono.pt ?_⟩;obtain⟨p2,c2',rfl⟩:=ho2.shape;refine tl 4 (some 35) rfl (.slice p2 (trimN (shl x h) (r+1)) c2') (λw _=>Zx) ?_;have hz1:=Zaa hz0 hb4;have hP0:=hP.r0;have hP1:=hP.r1;have hvs:vf (shl x h) (trimN (shl x h) (r+1))=x+1000000000*R:=by rw[e4,Zza,hv]
   have htk:=Zp5 wr.heap.size (.slice p2 (trimN (shl x h) (r+1)) c2') (trimN (shl x h) (r+1)) (shl x h) q m c2 g wr X1 (ho2.lower hsz0) (Yab _) (Yak hsz0 hb4.size) hz1 (h2.ext (.of_below hI.below)) d4 d2 hm6 (by rw[hvs];omega);rw[hvs]at htk;refine Mono.stc 7 (some 38) (htk) (λe X2 hR=>?_);obtain⟨v3,n3,f3,k3,rfl,ho3,d5,e5,hk3,hb5,hs5⟩:=hR;refine⟨(⟨(hI.of_below (hb5.mono Zo)).b1.cell,(hI.of_below (hb5.mono Zo)).below⟩),λhHeld=>Mono.pt ?_⟩;replace hk3:=Yah hk3;refine tk 8 (some 30) ?_;refine tk 9 (some 39) ?_;refine tk 10 (some 40) ?_;refine tk 11 (some 7) ?_;refine tk 12 (some 41) ?_;have hI3:=hI.of_below (hb5.mono Zo);have hI4:=hI3.set i k3;have a5:=hI3.row.cell i Zo;have a6:=hI3.row.frozen i;refine Mono.st 13 ?_;intro K hK;go_simp
   refine kp hK (⟨hI4.b1.cell,hI4.below⟩) (λhHeld=>?_);clear hK K;refine wpAnyH_done Zx ?_ _;have hk30:0<=k3:=by rw[hk3.out];exact Ydq Zo Zo
   have hk39:k3<1000000000:=by rw[hk3.out];exact Int.ediv_lt_of_lt_mul hB1 (by rw[Ydh];omega)
   have hdiv:=Int.emod_add_mul_ediv (x+1000000000*R) (vf g (m+1));have hr0:=Ycc (x+1000000000*R) (by omega:vf g (m+1)≠0);have hr1:=Ybu (x+1000000000*R) hB1;rw[<-hk3.out]at hdiv;have hPn:=hP.next Zo hk30 hk39 hr0 hr1 (by rw[hfi,Ydh k3];omega);have ho5:=ho3.lower hsz;have hs6:w.heap.size+1+1+1+1+1<=X2.heap.size:=Zo;have ho6:=ho5.set ⟨w.heap.size+1+1+1+1,i,none⟩ (.int .i64 k3) (by show w.heap.size+1+1+1+1<_;omega);clear hHeld htk hmade hnext hIX hIz hI3 ho3 ho2 hb5 hb4 cb1 fb1 lb1 b1 a5 a6 hz hz0 hz1 hx0;go_wp2
   go_roundw
   case rel=>
    exact⟨i,n3,f3,_,_,Zo,Zs,ho6,d5,e5,hPn,hI4,by simpa using hs6⟩
   case measure=>simp[intOf]
  ·obtain rfl:i=0:=by omega
   obtain⟨hq,hR⟩:=hP.done;have hlo:=λj (hj:j<n)=>hP.lo j (Yat _) hj;have hhi:=λj (hj:j<n)=>hP.hi j (Yat _) hj;have hr6:r<=m+1:=d3.len_le d2 (by have:=hP.r1;omega);have hm1:=λ(X:World) (hX:Ext wr X)=>Zbm (s != t) (some ⟨w.heap.size+1+1+1+1,0,none⟩) n n qf X ((hI.row.slice Zo n (Yab _) n (Yab _)).ext hX) Zo hlo hhi;have hm2:=λ(X:World) (hX:Ext wr X)=>Zbm s pr r cr h X ((ho.sl Zo).ext hX) Zo d3.lo d3.hi;rw[hq,hs1.out]at hm1;rw[hv,hR,hs2.out]at hm2;have b1:=hI.b1;have cb1:=b1.cell;have lb1:=b1.lt;have fb1:=b1.frozen;clear hx1 hx2 hP;go_wp2_with fail
   refine wp_region_held_drew (S:=λw'=>(∀i,w'.cell? ⟨w.heap.size,i,none⟩=(#[.bool s,.slice p n c1]:Array Value)[i]?)∧(∀i,w'.cell? ⟨w.heap.size+1,i,none⟩=(#[.bool t,.slice q (m+1) c2]:Array Value)[i]?)∧Below w.heap.size w w') Zx ⟨cb0,cb1,hI.below.drew⟩ (λhHeld=>?_);have hx0:Ext wr wr.drew:=(Ext.refl _).drew;have hI0:QInv w wr.drew 45 (w.heap.size+1+1+1+1) n qf #[.bool s,.slice p n c1] #[.bool t,.slice q (m+1) c2]:=hI.of_below (Yae _ _).drew;have hsz0:w.heap.size+1+1+1+1+1<=wr.drew.heap.size:=hsz;generalize wr.drew=X0 at *;refine tk 0 (some 42) ?_;refine tk 1 (some 43) ?_;refine tk 2 (some 44) ?_;refine tk 3 (some 45) ?_;refine tk 4 (some 46) ?_;refine tk 5 (some 47) ?_;refine tk 7 (some 49) ?_;refine tk 8 (some 50) ?_;refine tk 9 (some 51) ?_;refine Mono.stc 6 (some 48) (hm1 X0 hx0) (λe X1 hR=>?_);obtain⟨v1,rfl,ho1,hd1,g1,hb4⟩:=hR;refine⟨(⟨(hI0.b0.below hb4).cell,(hI0.b1.below hb4).cell,Zaa hHeld.2.2 hb4⟩),λhHeld=>Mono.pt ?_⟩;have hI1:=hI0.of_below (hb4.mono Zo);refine Mono.stc 10 (some 52) (hm2 X1 (hx0.below hb4)) (λe X2 hR=>?_);obtain⟨v2,rfl,ho2,hd2,g2,hb5⟩:=hR;refine⟨(⟨(hI1.b0.below hb5).cell,(hI1.b1.below hb5).cell,Zaa hHeld.2.2 hb5⟩),λhHeld=>Mono.pt ?_⟩;have hsz1:=hb4.size;have hI2:=hI1.of_below (hb5.mono Zo);obtain⟨p1,c1',rfl⟩:=ho1.shape;obtain⟨p2,c2',rfl⟩:=ho2.shape;have l1:=ho1.sl (by have:=Za3 qf n;omega);have l2:=ho2.sl (by have:=Za3 h r;omega);have l1':=l1.ext (.of_below hb5);have b2:=hI2.b2;have b3:=hI2.b3;have hBb:=hI2.below;clear hm1 hm2 hx0 hI0 hI1 hI hb4 hb5 ho1 ho2 l1 b0 b1 cb0 cb1 lb0 lb1 fb0 fb1 ho;refine Zb8 (w.heap.size+1+1) 45 11 rfl rfl rfl rfl 0 #[.bool s1,.slice p1 (trimN qf n) c1'] #[.bool false,.slice none 0 0] #[.bool s1,.slice p1 (trimN qf n) c1'] Zx (λX i u h=>⟨Zdh h.1 Zo,Zdh h.2.1 Zo,Zaf h.2.2 Zo _ _⟩) Zx Zx b2 hHeld Zae (Yaa rfl) (Zal _ _ _ _) (Zag rfl) (λY1 hk1 r2 hHeld=>?_);have b3':=hk1.box b3 b3.lt Zo;refine Zb8 (w.heap.size+1+1+1) 45 12 rfl rfl rfl rfl 0 #[.bool s2,.slice p2 (trimN h r) c2'] #[.bool false,.slice none 0 0] #[.bool s2,.slice p2 (trimN h r) c2'] Zx (λX i u h=>⟨Zdh h.1 Zo,Zdh h.2.1 Zo,Zaf h.2.2 Zo _ _⟩) Zx Zx b3' hHeld Zae (Yaa rfl) (Zal _ _ _ _) (Zag rfl) (λY2 hk2 r3 hHeld=>?_);have r2':=hk2.box r2 r2.lt Zo;have e1:=hk1.ext b2 Zd;have e2:=hk2.ext b3' Zd;have hBe:=hHeld.2.2;refine wpAnyH_done Zx ?_ _;clear hHeld hk1 hk2 b2 b3 b3' r2 hI2;go_wp2
   refine bodyPost_ret (r2'.results2s r3 rfl _ _ _ rfl rfl Tryz.underlying45 rfl Zae Tryz.underlying45 rfl Zae) rfl ?_;exact⟨p1,_,c1',qf,p2,_,c2',rfl,(l1'.ext e1).ext e2,hd1,g1,Za3 qf n,h,(l2.ext e1).ext e2,hd2,g2,by have:=Za3 h r;omega,hBe⟩
theorem Zwj (z:Int) (w:World) (h1 : -9223372036854775808<=z) (h2:z<=9223372036854775807) :
  Calls Tryz.prog 123 #[.int .i64 z] w λe w'=>∃p k c,e=.returned (.agg #[.bool (decide (z<0)),.slice p k c])∧Sz 600 w' (.slice p k c) z.natAbs∧Below w.heap.size w w':=by
 go_enter Tryz.func123,Tryz.ntmps123
 go_wp2_with fail
 refine Zej λW hB hs b0 b1=>?_;go_loopw [0] (λa wr=>∃(k:Nat) (f:Nat->Int) (r:Int) (v:Value),a=.int .i64 r∧OwnF wr (w.heap.size+1+1) v k f∧Box wr (w.heap.size+1) 45 #[.bool (decide (z<0)),v]∧Box wr w.heap.size 45 #[.bool false,.slice none 0 0]∧OfInv z r k f∧Below w.heap.size w wr∧w.heap.size+1+1<=wr.heap.size) (λa _=>(intOf a).natAbs)
 case atStart=>exact⟨0,_,z,_,rfl,OwnF.nil _ _ _,b1,b0,OfInv.start z,hB,hs⟩
 case round=>
  clear b0 b1 hB hs;obtain⟨k,f,r,v,rfl,ho,b1,b0,hI,hB,hs⟩:=hrel;have hr:=hI.bound h1 h2;obtain⟨p,c,rfl⟩:=ho.shape;by_cases h0:r=0
  ·subst h0
   have cb0:=b0.cell;have lb0:=b0.lt;have fb0:=b0.frozen;have cb1:=b1.cell;have lb1:=b1.lt;have fb1:=b1.frozen;go_wp2
   have b3':=((b0.set 0 (.bool (decide (z<0)))).set 1 (.slice p k c)).cell;have hk3:k<=600:=by
    have hv:=hI.val;have hd:Digs f k:=⟨hI.lo,hI.hi,hI.top rfl⟩
    by_cases h:k<=3
    ·omega
    ·have:=hd.ge Zo
     have h3:=Zbp (i:=3) (k:=k-1) Zo;have e3:pw 3=1000000000000000000000000000:=Zd;simp at hv;omega
   have hd:Digs f k:=⟨hI.lo,hI.hi,hI.top rfl⟩
   refine bodyPost_ret (v:=.agg #[.bool (decide (z<0)),.slice p k c]) (by simp[results,Tryz.results123,go_sem,b3']) rfl ⟨_,_,_,rfl,⟨k,f,?_,hd,?_,hk3⟩,?_⟩
   ·exact((ho.set _ _ (by show w.heap.size<_;omega)).set _ _ (by show w.heap.size<_;omega)).sl Zo
   ·have:=hI.val;simpa using this
   ·exact Zaf (Zaf hB Zo _ _) Zo _ _
  ·have hk:=hI.small h1 h2 h0
   have hst:=hI.step h0;have h0':(r != 0)=true:=by simpa using h0
   have hmm:(r.tmod 1000000000).natAbs<1000000000:=by rw[Ydy];exact Nat.mod_lt _ Zd
   have hm1 : -1000000000<r.tmod 1000000000:=Zo;have hm2:r.tmod 1000000000<1000000000:=Zo;have hdd:(r.tdiv 1000000000).natAbs=r.natAbs/1000000000:=by rw[Yfg];rfl
   have hw:wrap64 (r.tdiv 1000000000)=r.tdiv 1000000000:=by unfold wrap64;omega
   have cb0:=b0.cell;have lb0:=b0.lt;have fb0:=b0.frozen;have cb1:=b1.cell;have lb1:=b1.lt;have fb1:=b1.frozen;replace h0:=Yah h0;go_wp2_with (at_builtin;(refine Za9 _ rfl _ _ 43 rfl Tryz.underlying43 Zby (w.heap.size+1+1) (.slice p k c) k f rfl ?_ (some ⟨wr.heap.size,0,none⟩) 1 1 (λ_=>((r.tmod 1000000000).natAbs:Int)) rfl ?_ ?_ ?_ ?_);(exact(ho.below ((Yae _ _).alloc (Yab _) _)));(exact(Zjb wr _ _ (by first|omega|(split<;>omega))));omega;(simp;omega);(intro v' w1 ho' hg);(obtain⟨p',c',rfl⟩:=ho'.shape);(have hz:=((Yae (w.heap.size+1+1) wr).alloc hs _).grown hg (by simp;omega) (λk hk=>ho.low k hk));(replace b0:=b0.low hz Zo);(replace b1:=b1.low hz Zo);(clear cb0 lb0 fb0 cb1 lb1 fb1);(have cb0:=b0.cell);(have cb1:=b1.cell);(have fb1:=b1.frozen);(have lb1:=b1.lt))
   all_goals
    go_roundw
    case rel=>
     refine⟨k+1,_,r.tdiv 1000000000,.slice p' (k+1) c',Zs,ho'.set ⟨w.heap.size+1,1,none⟩ _ (by show w.heap.size+1<_;omega),b1.set 1 _,b0.other _ _ (by show w.heap.size≠w.heap.size+1;omega),hst,?_,?_⟩
     ·exact Zaf (hB.trans (hz.mono Zo)) Zo _ _
     ·have:=hz.size
      simp only[World.size_setCell];omega
    case measure=>
     have:=h0.out;first
      | (show(r.tdiv 1000000000).natAbs<r.natAbs;rw[hdd];exact Nat.div_lt_self Zo Zd)
      | fail "measure"
end Go.Proofs.W
namespace Go.Mono
open Go.RowKit
theorem Zo9 (a b:Int) (hb:b≠0) :
  Sg (decide (a<0) != decide (b<0)) (Rat.divInt a b).num∧((Rat.divInt a b).num.natAbs:Int)=(a.natAbs:Int)/gcdZ a.natAbs b.natAbs∧((Rat.divInt a b).den:Int)=(b.natAbs:Int)/gcdZ a.natAbs b.natAbs:=by
 have hg:gcdZ a.natAbs b.natAbs=((b.gcd a:Nat):Int):=by
  simp only[gcdZ,Ycb,Int.gcd];rw[Nat.gcd_comm]
 have hg0:0<b.gcd a:=Int.gcd_pos_of_ne_zero_left _ hb;have hs:(b.sign*a).natAbs=a.natAbs:=by
  rw[Yde,Int.natAbs_sign_of_ne_zero hb,Nat.one_mul]
 refine⟨?_,?_,?_⟩
 ·rw[Rat.num_divInt]
  refine Sg.div ?_ Zo;rcases Yge hb with h|h
  ·rw[Yep h]
   constructor<;>intro hh<;>simp[h]at hh<;>omega
  ·rw[Yeg h]
   constructor<;>intro hh<;>simp[show ¬b<0 by omega]at hh<;>omega
 ·rw[Rat.num_divInt,hg]
  have hd:b.gcd a ∣ (b.sign*a).natAbs:=by
   rw[hs];exact Nat.gcd_dvd_right _ _
  rw[Zdu hd,hs]
 ·rw[Rat.den_divInt,if_neg hb,hg]
  simp
theorem Zd6 (a b:Int) (hb:b≠0):(Rat.divInt a b).num.natAbs<=a.natAbs∧(Rat.divInt a b).den<=b.natAbs:=by
 constructor
 ·rw[Rat.num_divInt]
  have h1:(b.sign*a/(b.gcd a:Int)).natAbs<=(b.sign*a).natAbs:=Int.natAbs_ediv_le_natAbs _ _;have h2:(b.sign*a).natAbs=a.natAbs:=by rw[Yde,Int.natAbs_sign_of_ne_zero hb,Nat.one_mul]
  omega
 ·rw[Rat.den_divInt,if_neg hb]
  exact Nat.div_le_self _ _
def Ov (N D:Nat) (x:Rat):Prop:=0<D∧∃z:Int,x=Rat.divInt z D∧z.natAbs<=N
theorem Ov.mul {N D N' D':Nat} {x y:Rat} (h:Ov N D x) (g:Ov N' D' y):Ov (N*N') (D*D') (x*y):=by
 obtain⟨h0,z,rfl,hz⟩:=h;obtain⟨g0,z',rfl,gz⟩:=g;refine⟨Nat.mul_pos h0 g0,z*z',?_,?_⟩
 ·rw[Rat.divInt_mul_divInt,Ycw]
 ·rw[Yde]
  exact Ybv hz gz
theorem Ov.add {N D N' D':Nat} {x y:Rat} (h:Ov N D x) (g:Ov N' D' y):Ov (N*D'+N'*D) (D*D') (x+y):=by
 obtain⟨h0,z,rfl,hz⟩:=h;obtain⟨g0,z',rfl,gz⟩:=g;refine⟨Nat.mul_pos h0 g0,z*D'+z'*D,?_,?_⟩
 ·rw[Rat.divInt_add_divInt _ _ Zo Zo,Ycw]
 ·refine Yak (Int.natAbs_add_le _ _) ?_
  rw[Yde,Yde,Int.natAbs_natCast,Int.natAbs_natCast];exact Nat.add_le_add (Ybd _ hz) (Ybd _ gz)
theorem Ov.neg {N D:Nat} {x:Rat} (h:Ov N D x):Ov N D (-x):=by
 obtain⟨h0,z,rfl,hz⟩:=h;exact⟨h0,-z,Rat.neg_divInt _ _,by simpa using hz⟩
theorem Ov.sub {N D N' D':Nat} {x y:Rat} (h:Ov N D x) (g:Ov N' D' y):Ov (N*D'+N'*D) (D*D') (x-y):=by
 rw[Ygd];exact h.add g.neg
theorem Zmo (a b:Int) (D:Nat) (h:0<D):Rat.divInt a D+Rat.divInt b D=Rat.divInt (a+b) D:=by
 rw[Rat.divInt_add_divInt _ _ Zo Zo,<-Yel,Rat.divInt_mul_right Zo]
theorem Ov.add_same {N D N':Nat} {x y:Rat} (h:Ov N D x) (g:Ov N' D y):Ov (N+N') D (x+y):=by
 obtain⟨h0,z,rfl,hz⟩:=h;obtain⟨g0,z',rfl,gz⟩:=g;refine⟨h0,z+z',Zmo _ _ _ h0,?_⟩;have:=Int.natAbs_add_le z z';omega
theorem Ov.sub_same {N D N':Nat} {x y:Rat} (h:Ov N D x) (g:Ov N' D y):Ov (N+N') D (x-y):=by
 rw[Ygd];exact h.add_same g.neg
theorem Ov.mono {N M D:Nat} {x:Rat} (h:Ov N D x) (hN:N<=M):Ov M D x:=by
 obtain⟨h0,z,rfl,hz⟩:=h;exact⟨h0,z,rfl,Yak hz hN⟩
theorem Ov.scale {N D:Nat} {x:Rat} (h:Ov N D x) (k:Nat) (hk:0<k):Ov (N*k) (D*k) x:=by
 obtain⟨h0,z,rfl,hz⟩:=h;refine⟨Nat.mul_pos h0 hk,z*k,?_,?_⟩
 ·rw[Ycw,Rat.divInt_mul_right Zo]
 ·rw[Yde,Int.natAbs_natCast]
  exact Ybd _ hz
theorem Ov.of (z:Int) (d:Nat) (hd:0<d) (N:Nat) (h:z.natAbs<=N):Ov N d (Rat.divInt z d):=⟨hd,z,rfl,h⟩
theorem Ov.self (x:Rat):Ov x.num.natAbs x.den x:=⟨x.den_pos,x.num,(Yds x).symm,Yab _⟩
theorem Ov.num_le {N D:Nat} {x:Rat} (h:Ov N D x):x.num.natAbs<=N∧x.den<=D:=by
 obtain⟨h0,z,rfl,hz⟩:=h;have:=Zd6 z D Zo;exact⟨Yak this.1 hz,by simpa using this.2⟩
def Hs (k:Nat) (x:Rat):Prop:=x.num.natAbs<=10 ^ k∧x.den<=10 ^ k
theorem Hs.mono {k l:Nat} {x:Rat} (h:Hs k x) (hl:k<=l):Hs l x:=by
 have:=Nat.pow_le_pow_right (n:=10) Zo hl;exact⟨Yak h.1 this,Yak h.2 this⟩
theorem Hs.of_ov {N D k:Nat} {x:Rat} (h:Ov N D x) (hN:N<=10 ^ k) (hD:D<=10 ^ k):Hs k x:=
 ⟨Yak h.num_le.1 hN,Yak h.num_le.2 hD⟩
theorem Hs.ov {k:Nat} {x:Rat} (h:Hs k x):Ov (10 ^ k) x.den x:=(Ov.self x).mono h.1
theorem Hs.mul {k l:Nat} {x y:Rat} (h:Hs k x) (g:Hs l y):Hs (k+l) (x*y):=by
 refine Hs.of_ov ((Ov.self x).mul (Ov.self y)) ?_ ?_
 ·rw[Ydn];exact Ybv h.1 g.1
 ·rw[Ydn];exact Ybv h.2 g.2
theorem Hs.add {k l:Nat} {x y:Rat} (h:Hs k x) (g:Hs l y):Hs (k+l+1) (x+y):=by
 refine Hs.of_ov ((Ov.self x).add (Ov.self y)) ?_ ?_
 ·have e1:=Ybv h.1 g.2
  have e2:=Ybv g.1 h.2;rw[Nat.pow_succ,Ydn];rw[Ycu (10 ^ l)]at e2;omega
 ·have:=Ybv h.2 g.2
  rw[Nat.pow_succ,Ydn];omega
theorem Hs.neg {k:Nat} {x:Rat} (h:Hs k x):Hs k (-x):=by
 refine⟨?_,h.2⟩;rw[Rat.neg_num,Int.natAbs_neg];exact h.1
theorem Hs.sub {k l:Nat} {x y:Rat} (h:Hs k x) (g:Hs l y):Hs (k+l+1) (x-y):=by
 rw[Ygd];exact h.add g.neg
theorem Hs.inv {k:Nat} {x:Rat} (h:Hs k x):Hs k x⁻¹:=by
 by_cases h0:x.num=0
 ·obtain rfl:x=0:=Rat.num_eq_zero.1 h0
  rw[Rat.inv_zero];exact h
 ·have e:x⁻¹=Rat.divInt x.den x.num:=by
   rw[<-Rat.inv_divInt,Yds]
  have:=Zd6 x.den x.num h0;rw[<-e]at this;exact⟨Yak this.1 (by simpa using h.2),Yak this.2 h.1⟩
theorem Hs.div {k l:Nat} {x y:Rat} (h:Hs k x) (g:Hs l y):Hs (k+l) (x/y):=by
 rw[Yew];exact h.mul g.inv
theorem Hs.divInt {k:Nat} (a b:Int) (hb:b≠0) (h1:a.natAbs<=10 ^ k) (h2:b.natAbs<=10 ^ k):Hs k (Rat.divInt a b):=by
 have:=Zd6 a b hb;exact⟨Yak this.1 h1,Yak this.2 h2⟩
end Go.Mono
namespace Go.Proofs.W
open Go.RowKit Go.Mono
theorem Zxf (a b:Int) (h0:b≠0) (p q:Option Addr) (k c l d:Nat) (w wf:World) (hx:Ext wf w) (x:Sz 600 wf (.slice p k c) a.natAbs) (y:Sz 600 wf (.slice q l d) b.natAbs) :
  Calls Tryz.prog 122 #[.agg #[.bool (decide (a<0)),.slice p k c],.agg #[.bool (decide (b<0)),.slice q l d]] w λe w'=>∃r,e=.returned (.tuple #[r,.int .i64 0])∧QV w' r (Rat.divInt a b)∧Below w.heap.size w w':=by
 replace x:=x.ext hx;replace y:=y.ext hx;clear hx;obtain⟨g1,g2,g3⟩:=Zo9 a b h0;have hi0:∀w:World,(Instr.index 231 (.agg #[.bool (decide (a<0)),.slice p k c,.bool (decide (b<0)),.slice q l d]) (.int .i64 0)).run Tryz.prog w=.ok (.agg #[.bool (decide (a<0)),.slice p k c]) w:=λ_=>Zk;have hi1:∀w:World,(Instr.index 231 (.agg #[.bool (decide (a<0)),.slice p k c,.bool (decide (b<0)),.slice q l d]) (.int .i64 1)).run Tryz.prog w=.ok (.agg #[.bool (decide (b<0)),.slice q l d]) w:=λ_=>Zk;have hl:((l:Int)==0)=false:=by
  have:=y.len_pos.1 Zo;simp;omega
 have ha:decide (a<0)=true->(0:Int)<a.natAbs:=by intro h;simp at h;omega
 have hb':decide (b<0)=true->(0:Int)<b.natAbs:=by intro h;simp at h;omega
 go_enter Tryz.func122,Tryz.ntmps122
 go_wp2_with fail
 refine Zfw λW hB hs b0 b1 b2=>?_;replace x:=x.ext (.of_below hB);replace y:=y.ext (.of_below hB);go_loopw [12] (λa wr=>∃i:Nat,i<=2∧a=.int .i64 (i:Int)∧Below W.heap.size W wr) (λa _=>(2-intOf a).toNat)
 case atStart=>exact⟨0,Zo,rfl,Yae _ _⟩
 case round=>
  obtain⟨i,hi,rfl,hb⟩:=hrel;rcases(by omega:i=0∨i=1∨i=2) with rfl|rfl|rfl
  ·go_wp2_with (go_at_call 155;(with_reducible refine(Zc6 _ p k c _ _ W ((Ext.of_below hb).alloc _) x ha).mono ?_);rintro e W4 ⟨rfl,hb4⟩)
   go_roundw
   case rel=>exact⟨1,Zo,Zs,Zaa (Zad hb _) hb4⟩
   case measure=>simp[intOf]
  ·go_wp2_with (go_at_call 155;(with_reducible refine(Zc6 _ q l d _ _ W ((Ext.of_below hb).alloc _) y hb').mono ?_);rintro e W4 ⟨rfl,hb4⟩)
   go_roundw
   case rel=>exact⟨2,Zo,Zs,Zaa (Zad hb _) hb4⟩
   case measure=>simp[intOf]
  ·replace hB:=Zaa hB hb
   replace x:=x.ext (.of_below hb);replace y:=y.ext (.of_below hb);replace b0:=b0.below hb;try clear cb0 lb0 fb0
   have cb0:=b0.cell;have lb0:=b0.lt;have fb0:=b0.frozen;replace b1:=b1.below hb;try clear cb1 lb1 fb1
   have cb1:=b1.cell;have lb1:=b1.lt;have fb1:=b1.frozen;replace b2:=b2.below hb;try clear cb2 lb2 fb2
   have cb2:=b2.cell;have lb2:=b2.lt;have fb2:=b2.frozen;clear hi0 hi1 hi ha hb';go_wp2_with fail
   refine(Zfc _ p q k c l d 600 _ _ wr wr (Ext.refl _) x y Zo Zo).mono ?_;rintro e W1 ⟨p1,n1,c1,q1,l1,d1,rfl,z1,z2,hb1⟩;rw[<-g2]at z1;rw[<-g3]at z2;replace hB:=Zaa hB hb1;replace b2:=b2.below hb1;clear cb2 lb2 fb2;have cb2:=b2.cell;have lb2:=b2.lt;have fb2:=b2.frozen;go_wp2_with fail
   refine(Zi9 600 _ p1 q1 n1 c1 l1 d1 (Rat.divInt a b) _ W1 (Ext.refl _) g1 z1 z2 Zo).mono ?_;rintro e W2 ⟨p7,k7,c7,q7,l7,d7,rfl,z7,y7,hb7⟩;replace hB:=Zaa hB hb7;replace b2:=b2.below hb7;clear cb2 lb2 fb2;have cb2:=b2.cell;have lb2:=b2.lt;have fb2:=b2.frozen;go_wp2
   have b3':=((((b2.set 0 (.bool (decide ((Rat.divInt a b).num<0)))).set 1 (.slice p7 k7 c7)).set 2 (.bool false)).set 3 (.slice q7 l7 d7)).cell;have xE:Ext W2 _:=(((((Ext.refl W2).set b2 Zd 0 (.bool (decide ((Rat.divInt a b).num<0)))).set (b2.set 0 (.bool (decide ((Rat.divInt a b).num<0)))) Zd 1 (.slice p7 k7 c7))).set ((b2.set 0 (.bool (decide ((Rat.divInt a b).num<0)))).set 1 (.slice p7 k7 c7)) Zd 2 (.bool false)).set (((b2.set 0 (.bool (decide ((Rat.divInt a b).num<0)))).set 1 (.slice p7 k7 c7)).set 2 (.bool false)) Zd 3 (.slice q7 l7 d7);refine bodyPost_ret (v:=.tuple #[.agg #[.bool (decide ((Rat.divInt a b).num<0)),.slice p7 k7 c7,.bool false,.slice q7 l7 d7],.int .i64 0]) (by simp[results,Tryz.results122,go_sem,b3']) rfl ⟨_,rfl,⟨_,_,_,_,_,_,rfl,z7.ext xE,y7.ext xE⟩,?_⟩;exact Zaf (Zaf (Zaf (Zaf hB Zo _ _) Zo _ _) Zo _ _) Zo _ _
end Go.Proofs.W
namespace Go.Ex
open Go.Mono
section
structure Cf where
 n:Int
 d:Nat
def Cf.ev (c:Cf):Rat:=mkRat c.n (c.d+1)
def Cf.low (n:Int) (d:Nat):Cf:=⟨n/(Nat.gcd n.natAbs d:Nat),d/Nat.gcd n.natAbs d-1⟩
def Cf.add (a b:Cf):Cf:=Cf.low (a.n*(b.d+1:Nat)+b.n*(a.d+1:Nat)) ((a.d+1)*(b.d+1))
def Cf.mul (a b:Cf):Cf:=Cf.low (a.n*b.n) ((a.d+1)*(b.d+1))
def rpow (x:Rat):Nat->Rat
 | 0=>1
 | n+1=>rpow x n*x
abbrev Mon:=List Nat
abbrev Pol:=List (Cf×Mon)
section
variable (env:Nat->Rat)
def monEv:Nat->Mon->Rat
 | _,[]=>1
 | i,e::r=>rpow (env i) e*monEv (i+1) r
def polEv:Pol->Rat
 | []=>0
 | t::r=>t.1.ev*monEv env 0 t.2+polEv r
end
end
end Go.Ex
namespace Go.Mono
structure Mat where
 a:Rat
 b:Rat
 c:Rat
 d:Rat
theorem Mat.ext {x y:Mat} (h1:x.a=y.a) (h2:x.b=y.b) (h3:x.c=y.c) (h4:x.d=y.d):x=y:=by
 cases x;cases y;simp_all
def Mat.one:Mat:=⟨1,0,0,1⟩
def Mat.mul (x y:Mat):Mat:=⟨x.a*y.a-x.b*y.c,x.a*y.b+x.b*y.d,x.c*y.a+x.d*y.c,x.d*y.d-x.c*y.b⟩
theorem Mat.mul_assoc (x y z:Mat):(x.mul y).mul z=x.mul (y.mul z):=by
 apply Mat.ext<;>simp only[Mat.mul]<;>grind
theorem Mat.one_mul (x:Mat):Mat.one.mul x=x:=by
 apply Mat.ext<;>simp only[Mat.mul,Mat.one]<;>grind
theorem Mat.mul_one (x:Mat):x.mul Mat.one=x:=by
 apply Mat.ext<;>simp only[Mat.mul,Mat.one]<;>grind
def Mat.det (x:Mat):Rat:=x.a*x.d+x.b*x.c
theorem Mat.det_mul (x y:Mat):(x.mul y).det=x.det*y.det:=by
 simp only[Mat.mul,Mat.det];grind
def Flm.sq (f:Flm):Int:=f.q*f.q+f.p*f.p
def Flm.cos (f:Flm):Rat:=Rat.divInt (f.q*f.q-f.p*f.p) f.sq
def Flm.sin (f:Flm):Rat:=Rat.divInt (2*f.p*f.q) f.sq
def idx (n:Int):Rat:=Rat.divInt n 10000000
def Flm.mat (f:Flm):Mat:=⟨f.cos,f.sin/idx f.ix,idx f.ix*f.sin,f.cos⟩
theorem Flm.ok.sq_pos {f:Flm} (h:f.ok):1<=f.sq:=by
 obtain⟨_,_,h1,_,h2,_⟩:=h;have a:=Yef h2 h2 Zo Zo;have b:=Ycg h1 h1;unfold Flm.sq;omega
theorem Zir {n:Int} (h:n≠0):(n:Rat)≠0:=by
 intro e;apply h;exact Rat.intCast_inj.1 (by simpa using e)
theorem Zy8 {n:Int} (h:n≠0):idx n≠0:=by
 unfold idx;rw[Rat.divInt_eq_div];have:=Zir h;grind
theorem Flm.cs (f:Flm) (h:f.sq≠0):f.cos*f.cos+f.sin*f.sin=1:=by
 unfold Flm.cos Flm.sin;rw[Rat.divInt_eq_div,Rat.divInt_eq_div];have h0:=Zir h;have e:((f.sq:Int):Rat)=(f.q:Rat)*f.q+f.p*f.p:=by
  unfold Flm.sq;rw[Rat.intCast_add,Yfc,Yfc]
 have e1:((f.q*f.q-f.p*f.p:Int):Rat)=(f.q:Rat)*f.q-f.p*f.p:=by
  rw[Rat.intCast_sub,Yfc,Yfc]
 have e2:((2*f.p*f.q:Int):Rat)=2*(f.p:Rat)*f.q:=by
  rw[Yfc,Yfc];rfl
 rw[e1,e2];generalize ((f.sq:Int):Rat)=s at *;generalize (f.p:Rat)=p at *;generalize (f.q:Rat)=q at *;have:((q*q-p*p)*(q*q-p*p)+(2*p*q)*(2*p*q))=s*s:=by rw[e];grind
 grind
theorem Flm.ok.ne {f:Flm} (h:f.ok):f.sq≠0∧f.ix≠0:=by
 have:=h.sq_pos;have:=h.1;omega
theorem Flm.det {f:Flm} (h:f.ok):f.mat.det=1:=by
 have h1:=f.cs h.ne.1;have h2:=Zy8 h.ne.2;simp only[Flm.mat,Mat.det];generalize f.cos=c at *;generalize f.sin=s at *;generalize idx f.ix=n at *;grind
def big (n m:Rat) (x:Mat):Rat:=(n*x.a+m*x.d)*(n*x.a+m*x.d)+(n*m*x.b+x.c)*(n*m*x.b+x.c)
def low (n m:Rat) (x:Mat):Rat:=(n*x.a-m*x.d)*(n*x.a-m*x.d)+(n*m*x.b-x.c)*(n*m*x.b-x.c)
def through (n m:Rat) (x:Mat):Rat:=4*(n*m)/big n m x
end Go.Mono
def List.look {α:Type}:List (Nat×α)->Nat->Option α
 | [],_=>none
 | p::r,k=>bif Nat.beq k p.1 then some p.2 else List.look r k
namespace Go.Ex
open Go.RowKit Go.Mono
@[simp] theorem look_nil {α:Type} (k:Nat):([]:List (Nat×α)).look k=none:=rfl
theorem Zaq {α:Type} (k k':Nat) (x:α) (l:List (Nat×α)):List.look ((k',x)::l) k=if k=k' then some x else List.look l k:=by
 unfold List.look;by_cases h:k=k'
 ·subst h
  simp
 ·have e:Nat.beq k k'=false:=by
   cases hb:Nat.beq k k' with
   | false=>rfl
   | true=>exact absurd (Ybe hb) h
  rw[if_neg h];dsimp only;rw[e];cases l<;>rfl
inductive U where
 | val (v:Value)
 | raw (n:Nat) (cs:List Value)
 | ptr (k off:Nat)
 | slc (k off len cap:Nat)
 | clo (f:FuncId) (caps:List (Nat×Nat))
 | quo (q:Rat)
 | sym (z:Int)
 | tst (b:Bool)
 | sli (k off len:Nat)
 | own (k len size:Nat)
 | yld (k:Nat)
 | dig (n:Nat)
 | tok (i:Nat)
 | emp
 | bnd (f:FuncId) (ag:Bool) (l:List U)
 | bad
 | sml (k:IntKind) (z:Int)
 | qb
 | qe (p:Pol)
 | slx (k off m n:Nat)
 | unk
def U.w:U->Nat
 | .quo _=>4
 | .qb=>4
 | .qe _=>4
 | .bad=>4
 | .raw n _=>n
 | _=>1
inductive SA where
 | one (u:U)
 | agg (l:List U)
def bndA (ag:Bool) (l:List U):SA:=
 match ag,l with
 | false,[u]=>.one u
 | _,l=>.agg l
inductive SV where
 | a (x:SA)
 | tup (l:List SA)
 | no
structure Blk where
 T:TypeId
 cells:List U
 ro:Bool
 sp:Bool:=false
 dead:Bool:=false
structure Den where
 R:World->Rat->List Value->Prop
 ext:∀{w w':World} {q:Rat} {cs:List Value},R w q cs->Ext w w'->R w' q cs
 len:∀{w:World} {q:Rat} {cs:List Value},R w q cs->cs.length=4
 one:∀{w:World} {q:Rat} {cs:List Value},R w q cs->∀v∈cs,v.oneCell'=true
 K:Nat->Value
 kone:∀i,(K i).oneCell'=true
 S:World->Nat->Value->Prop
 sext:∀{w w':World} {n:Nat} {v:Value},S w n v->Ext w w'->S w' n v
 sone:∀{w:World} {n:Nat} {v:Value},S w n v->v.oneCell'=true
 env:Nat->Rat
 B:World->List Value->Prop
 bext:∀{w w':World} {cs:List Value},B w cs->Ext w w'->B w' cs
 blen:∀{w:World} {cs:List Value},B w cs->cs.length=4
 bone:∀{w:World} {cs:List Value},B w cs->∀v∈cs,v.oneCell'=true
 split:∀{w:World} {q:Rat} {cs:List Value},R w q cs->∃v1 v2,cs=[.bool (decide (q.num<0)),v1,.bool false,v2]∧S w q.num.natAbs v1∧S w q.den v2
structure Pl where
 blk:Nat
 base:Nat
 ro:Bool
 cap:Nat:=0
 tot:Nat:=0
abbrev Nm:=Nat->Option Pl
def Nm.le (ρ ρ':Nm):Prop:=∀k B,ρ k=some B->ρ' k=some B
theorem Nm.le.refl (ρ:Nm):ρ.le ρ:=λ_ _ h=>h
theorem Nm.le.trans {a b c:Nm} (h:a.le b) (g:b.le c):a.le c:=λk B hk=>g k B (h k B hk)
section
variable (D:Den) (ρ:Nm) (w:World)
def adrs:List (Nat×Nat)->List Value->Prop
 | [],vs=>vs=[]
 | p::r,vs=>∃B v',ρ p.1=some B∧vs=.pointer (some ⟨B.blk,B.base+p.2,none⟩)::v'∧adrs r v'
def denU0:U->List Value->Prop
 | .val v,cs=>cs=[v]∧v.oneCell'=true
 | .raw n c,cs=>cs=c∧c.length=n∧∀v∈c,v.oneCell'=true
 | .ptr k o,cs=>∃B,ρ k=some B∧cs=[.pointer (some ⟨B.blk,B.base+o,none⟩)]
 | .slc k o n c,cs=>∃B,ρ k=some B∧cs=[.slice (some ⟨B.blk,B.base+o,none⟩) n c]
 | .clo f caps,cs=>∃vs,adrs ρ caps vs∧cs=[.func (.func f) #[] vs.toArray]
 | .quo q,cs=>D.R w q cs
 | .sym z,cs=>cs=[.int .i64 z]
 | .tst b,cs=>cs=[.bool b]
 | .emp,cs=>∃p c,(p=none->c=0)∧cs=[.slice p 0 c]
 | .sli k o n,cs=>∃B c,ρ k=some B∧n<=c∧cs=[.slice (some ⟨B.blk,B.base+o,none⟩) n c]
 | .own k n s,cs=>∃B,ρ k=some B∧n<=B.cap∧B.tot=B.cap*s∧B.base=0∧cs=[.slice (some ⟨B.blk,0,none⟩) n B.cap]
 | .yld k,cs=>∃B,ρ k=some B∧cs=[.func (.yield B.blk) #[] #[]]
 | .dig n,cs=>∃v,D.S w n v∧cs=[v]
 | .tok i,cs=>cs=[D.K i]
 | .bad,cs=>D.B w cs
 | .sml k z,cs=>cs=[.int k z]
 | .qb,cs=>(∃q,D.R w q cs)∨D.B w cs
 | .qe p,cs=>D.R w (polEv D.env p) cs
 | .unk,cs=>∃v,cs=[v]∧v.oneCell'=true
 | .slx k o m n,cs=>∃B c,ρ k=some B∧m<=n∧n<=c∧cs=[.slice (some ⟨B.blk,B.base+o,none⟩) n c]
 | .bnd _ _ _,_=>False
def denL0:List U->List Value->Prop
 | [],cs=>cs=[]
 | u::l,cs=>∃c d,cs=c++d∧denU0 D ρ w u c∧denL0 l d
def denA0:SA->Value->Prop
 | .one u,v=>denU0 D ρ w u [v]
 | .agg l,v=>∃cs:List Value,v=.agg cs.toArray∧denL0 D ρ w l cs
def denU:U->List Value->Prop
 | .val v,cs=>cs=[v]∧v.oneCell'=true
 | .raw n c,cs=>cs=c∧c.length=n∧∀v∈c,v.oneCell'=true
 | .ptr k o,cs=>∃B,ρ k=some B∧cs=[.pointer (some ⟨B.blk,B.base+o,none⟩)]
 | .slc k o n c,cs=>∃B,ρ k=some B∧cs=[.slice (some ⟨B.blk,B.base+o,none⟩) n c]
 | .clo f caps,cs=>∃vs,adrs ρ caps vs∧cs=[.func (.func f) #[] vs.toArray]
 | .quo q,cs=>D.R w q cs
 | .sym z,cs=>cs=[.int .i64 z]
 | .tst b,cs=>cs=[.bool b]
 | .emp,cs=>∃p c,(p=none->c=0)∧cs=[.slice p 0 c]
 | .sli k o n,cs=>∃B c,ρ k=some B∧n<=c∧cs=[.slice (some ⟨B.blk,B.base+o,none⟩) n c]
 | .own k n s,cs=>∃B,ρ k=some B∧n<=B.cap∧B.tot=B.cap*s∧B.base=0∧cs=[.slice (some ⟨B.blk,0,none⟩) n B.cap]
 | .yld k,cs=>∃B,ρ k=some B∧cs=[.func (.yield B.blk) #[] #[]]
 | .dig n,cs=>∃v,D.S w n v∧cs=[v]
 | .tok i,cs=>cs=[D.K i]
 | .bad,cs=>D.B w cs
 | .sml k z,cs=>cs=[.int k z]
 | .qb,cs=>(∃q,D.R w q cs)∨D.B w cs
 | .qe p,cs=>D.R w (polEv D.env p) cs
 | .unk,cs=>∃v,cs=[v]∧v.oneCell'=true
 | .slx k o m n,cs=>∃B c,ρ k=some B∧m<=n∧n<=c∧cs=[.slice (some ⟨B.blk,B.base+o,none⟩) n c]
 | .bnd f ag l,cs=>∃v,cs=[.func (.func f) #[v] #[]]∧denA0 D ρ w (bndA ag l) v
def denL:List U->List Value->Prop
 | [],cs=>cs=[]
 | u::l,cs=>∃c d,cs=c++d∧denU D ρ w u c∧denL l d
def denA:SA->Value->Prop
 | .one u,v=>denU D ρ w u [v]
 | .agg l,v=>∃cs:List Value,v=.agg cs.toArray∧denL D ρ w l cs
def denAs:List SA->List Value->Prop
 | [],vs=>vs=[]
 | x::l,vs=>∃v r,vs=v::r∧denA D ρ w x v∧denAs l r
def denV:SV->Value->Prop
 | .a x,v=>denA D ρ w x v
 | .tup l,v=>∃vs:List Value,v=.tuple vs.toArray∧denAs D ρ w l vs
 | .no,_=>True
end
section
variable {D:Den} {ρ ρ':Nm} {w w':World}
theorem adrs.mono (h:ρ.le ρ'):∀{l:List (Nat×Nat)} {vs:List Value},adrs ρ l vs->adrs ρ' l vs
 | [],_,e=>e
 | p::r,vs,⟨B,v',hB,e,hr⟩=>⟨B,v',h _ _ hB,e,adrs.mono h hr⟩
theorem adrs.one:∀{l:List (Nat×Nat)} {vs:List Value},adrs ρ l vs->vs.length=l.length
 | [],_,e=>by rw[show _=[] from e];rfl
 | p::r,vs,⟨B,v',hB,e,hr⟩=>by rw[e,Ybm,adrs.one hr];rfl
theorem denU0.mono (h:ρ.le ρ') (hx:Ext w w'):∀{u:U} {cs:List Value},denU0 D ρ w u cs->denU0 D ρ' w' u cs
 | .val _,_,e=>e
 | .raw _ _,_,e=>e
 | .ptr _ _,_,⟨B,hB,e⟩=>⟨B,h _ _ hB,e⟩
 | .slc _ _ _ _,_,⟨B,hB,e⟩=>⟨B,h _ _ hB,e⟩
 | .clo _ _,_,⟨vs,hv,e⟩=>⟨vs,hv.mono h,e⟩
 | .quo _,_,e=>D.ext e hx
 | .sym _,_,e=>e
 | .tst _,_,e=>e
 | .sli _ _ _,_,⟨B,c,hB,hc,e⟩=>⟨B,c,h _ _ hB,hc,e⟩
 | .own _ _ _,_,⟨B,hB,e⟩=>⟨B,h _ _ hB,e⟩
 | .yld _,_,⟨B,hB,e⟩=>⟨B,h _ _ hB,e⟩
 | .dig _,_,⟨v,hv,e⟩=>⟨v,D.sext hv hx,e⟩
 | .tok _,_,e=>e
 | .bad,_,e=>D.bext e hx
 | .sml _ _,_,e=>e
 | .qb,_,e=>e.imp (λ⟨q,h⟩=>⟨q,D.ext h hx⟩) λh=>D.bext h hx
 | .qe _,_,e=>D.ext e hx
 | .slx _ _ _ _,_,⟨B,c,hB,e⟩=>⟨B,c,h _ _ hB,e⟩
 | .unk,_,e=>e
 | .emp,_,e=>e
theorem denL0.mono (h:ρ.le ρ') (hx:Ext w w'):∀{l:List U} {cs:List Value},denL0 D ρ w l cs->denL0 D ρ' w' l cs
 | [],_,e=>e
 | u::l,_,⟨c,d,e,hc,hd⟩=>⟨c,d,e,hc.mono h hx,denL0.mono h hx hd⟩
theorem denA0.mono (h:ρ.le ρ') (hx:Ext w w'):∀{x:SA} {v:Value},denA0 D ρ w x v->denA0 D ρ' w' x v
 | .one _,_,e=>denU0.mono h hx e
 | .agg _,_,⟨cs,e,hl⟩=>⟨cs,e,hl.mono h hx⟩
theorem denU.mono (h:ρ.le ρ') (hx:Ext w w'):∀{u:U} {cs:List Value},denU D ρ w u cs->denU D ρ' w' u cs
 | .val _,_,e=>e
 | .raw _ _,_,e=>e
 | .ptr _ _,_,⟨B,hB,e⟩=>⟨B,h _ _ hB,e⟩
 | .slc _ _ _ _,_,⟨B,hB,e⟩=>⟨B,h _ _ hB,e⟩
 | .clo _ _,_,⟨vs,hv,e⟩=>⟨vs,hv.mono h,e⟩
 | .quo _,_,e=>D.ext e hx
 | .sym _,_,e=>e
 | .tst _,_,e=>e
 | .sli _ _ _,_,⟨B,c,hB,hc,e⟩=>⟨B,c,h _ _ hB,hc,e⟩
 | .own _ _ _,_,⟨B,hB,e⟩=>⟨B,h _ _ hB,e⟩
 | .yld _,_,⟨B,hB,e⟩=>⟨B,h _ _ hB,e⟩
 | .dig _,_,⟨v,hv,e⟩=>⟨v,D.sext hv hx,e⟩
 | .tok _,_,e=>e
 | .bad,_,e=>D.bext e hx
 | .sml _ _,_,e=>e
 | .qb,_,e=>e.imp (λ⟨q,h⟩=>⟨q,D.ext h hx⟩) λh=>D.bext h hx
 | .qe _,_,e=>D.ext e hx
 | .slx _ _ _ _,_,⟨B,c,hB,e⟩=>⟨B,c,h _ _ hB,e⟩
 | .unk,_,e=>e
 | .emp,_,e=>e
 | .bnd _ _ _,_,⟨v,e,hv⟩=>⟨v,e,hv.mono h hx⟩
theorem denL.mono (h:ρ.le ρ') (hx:Ext w w'):∀{l:List U} {cs:List Value},denL D ρ w l cs->denL D ρ' w' l cs
 | [],_,e=>e
 | u::l,_,⟨c,d,e,hc,hd⟩=>⟨c,d,e,hc.mono h hx,denL.mono h hx hd⟩
theorem denA.mono (h:ρ.le ρ') (hx:Ext w w'):∀{x:SA} {v:Value},denA D ρ w x v->denA D ρ' w' x v
 | .one _,_,e=>denU.mono h hx e
 | .agg _,_,⟨cs,e,hl⟩=>⟨cs,e,hl.mono h hx⟩
theorem denAs.mono (h:ρ.le ρ') (hx:Ext w w'):∀{l:List SA} {vs:List Value},denAs D ρ w l vs->denAs D ρ' w' l vs
 | [],_,e=>e
 | x::l,_,⟨v,r,e,hv,hr⟩=>⟨v,r,e,hv.mono h hx,denAs.mono h hx hr⟩
theorem denV.mono (h:ρ.le ρ') (hx:Ext w w'):∀{x:SV} {v:Value},denV D ρ w x v->denV D ρ' w' x v
 | .a _,_,e=>denA.mono h hx e
 | .tup _,_,⟨vs,e,hl⟩=>⟨vs,e,hl.mono h hx⟩
 | .no,_,_=>trivial
theorem denU0.up {u:U} {cs:List Value} (h:denU0 D ρ w u cs):denU D ρ w u cs:=by
 cases u<;>first|exact h|cases h
theorem denL0.up:∀{l:List U} {cs:List Value},denL0 D ρ w l cs->denL D ρ w l cs
 | [],_,e=>e
 | u::l,_,⟨c,d,e,hc,hd⟩=>⟨c,d,e,hc.up,denL0.up hd⟩
theorem denA0.up:∀{x:SA} {v:Value},denA0 D ρ w x v->denA D ρ w x v
 | .one _,_,e=>denU0.up e
 | .agg _,_,⟨cs,e,hl⟩=>⟨cs,e,hl.up⟩
def U.weak:U->U
 | .bnd _ _ _=>.unk
 | u=>u
def SA.weak:SA->SA
 | .one u=>.one u.weak
 | .agg l=>.agg (l.map U.weak)
theorem denU.weak {u:U} {cs:List Value} (h:denU D ρ w u cs):denU0 D ρ w u.weak cs:=by
 cases u with
 | bnd f g l =>
   obtain⟨v,e,_⟩:=h;exact⟨_,e,by simp[Value.oneCell']⟩
 | _=>exact h
theorem denL.weak:∀{l:List U} {cs:List Value},denL D ρ w l cs->denL0 D ρ w (l.map U.weak) cs
 | [],_,e=>e
 | u::l,_,⟨c,d,e,hc,hd⟩=>⟨c,d,e,hc.weak,denL.weak hd⟩
theorem denA.weak:∀{x:SA} {v:Value},denA D ρ w x v->denA0 D ρ w x.weak v
 | .one _,_,e=>denU.weak e
 | .agg _,_,⟨cs,e,hl⟩=>⟨cs,e,hl.weak⟩
def widths (l:List U):Nat:=l.foldr (λu n=>u.w+n) 0
theorem denU.len:∀{u:U} {cs:List Value},denU D ρ w u cs->cs.length=u.w
 | .val _,_,⟨e,_⟩=>by rw[e];rfl
 | .raw _ _,_,⟨e,hn,_⟩=>by rw[e];exact hn
 | .ptr _ _,_,⟨B,hB,e⟩=>by rw[e];rfl
 | .slc _ _ _ _,_,⟨B,hB,e⟩=>by rw[e];rfl
 | .clo _ _,_,⟨vs,hv,e⟩=>by rw[e];rfl
 | .quo _,_,e=>D.len e
 | .sym _,_,e=>by rw[show _=_ from e];rfl
 | .tst _,_,e=>by rw[show _=_ from e];rfl
 | .sli _ _ _,_,⟨B,c,hB,hc,e⟩=>by rw[e];rfl
 | .own _ _ _,_,⟨B,hB,h1,h2,h3,e⟩=>by rw[e];rfl
 | .yld _,_,⟨B,hB,e⟩=>by rw[e];rfl
 | .dig _,_,⟨v,hv,e⟩=>by rw[e];rfl
 | .tok _,_,e=>by rw[show _=_ from e];rfl
 | .emp,_,⟨p,c,hp,e⟩=>by rw[e];rfl
 | .bad,_,e=>D.blen e
 | .sml _ _,_,e=>by rw[show _=_ from e];rfl
 | .qb,_,e=>e.elim (λ⟨q,h⟩=>D.len h) D.blen
 | .qe _,_,e=>D.len e
 | .slx _ _ _ _,_,⟨B,c,hB,h1,h2,e⟩=>by rw[e];rfl
 | .unk,_,⟨v,e,hv⟩=>by rw[e];rfl
 | .bnd _ _ _,_,⟨v,e,hv⟩=>by rw[e];rfl
theorem denU.ones:∀{u:U} {cs:List Value},denU D ρ w u cs->∀v∈cs,v.oneCell'=true
 | .val _,_,⟨e,h⟩=>by rw[e];simpa using h
 | .raw _ _,_,⟨e,hn,h⟩=>by rw[e];exact h
 | .ptr _ _,_,⟨B,hB,e⟩=>by rw[e];simp[Value.oneCell']
 | .slc _ _ _ _,_,⟨B,hB,e⟩=>by rw[e];simp[Value.oneCell']
 | .clo _ _,_,⟨vs,hv,e⟩=>by rw[e];simp[Value.oneCell']
 | .quo _,_,e=>D.one e
 | .sym _,_,e=>by rw[show _=_ from e];simp[Value.oneCell']
 | .tst _,_,e=>by rw[show _=_ from e];simp[Value.oneCell']
 | .sli _ _ _,_,⟨B,c,hB,hc,e⟩=>by rw[e];simp[Value.oneCell']
 | .own _ _ _,_,⟨B,hB,h1,h2,h3,e⟩=>by rw[e];simp[Value.oneCell']
 | .yld _,_,⟨B,hB,e⟩=>by rw[e];simp[Value.oneCell']
 | .dig _,_,⟨v,hv,e⟩=>by rw[e];simpa using D.sone hv
 | .tok _,_,e=>by rw[show _=_ from e];simpa using D.kone _
 | .emp,_,⟨p,c,hp,e⟩=>by rw[e];simp[Value.oneCell']
 | .bad,_,e=>D.bone e
 | .sml _ _,_,e=>by rw[show _=_ from e];simp[Value.oneCell']
 | .qb,_,e=>e.elim (λ⟨q,h⟩=>D.one h) D.bone
 | .qe _,_,e=>D.one e
 | .slx _ _ _ _,_,⟨B,c,hB,h1,h2,e⟩=>by rw[e];simp[Value.oneCell']
 | .unk,_,⟨v,e,hv⟩=>by rw[e];simpa using hv
 | .bnd _ _ _,_,⟨v,e,hv⟩=>by rw[e];simp[Value.oneCell']
theorem denL.len:∀{l:List U} {cs:List Value},denL D ρ w l cs->cs.length=widths l
 | [],_,e=>by rw[show _=[] from e];rfl
 | u::l,_,⟨c,d,e,hc,hd⟩=>by rw[e,Yay,hc.len,denL.len hd];rfl
theorem denL.ones:∀{l:List U} {cs:List Value},denL D ρ w l cs->∀v∈cs,v.oneCell'=true
 | [],_,e=>by rw[show _=[] from e];simp
 | u :: l, _, ⟨c, d, e, hc, hd⟩ => by
   rw[e];intro v hv;rcases Ycn.1 hv with h|h
   ·exact hc.ones v h
   ·exact denL.ones hd v h
theorem denL.append:∀{l m:List U} {cs ds:List Value},denL D ρ w l cs->denL D ρ w m ds->denL D ρ w (l++m) (cs++ds)
 | [],m,cs,ds,e,hm=>by rw[show cs=[] from e];exact hm
 | u::l,m,_,ds,⟨c,d,e,hc,hd⟩,hm=>⟨c,d++ds,by rw[e,Ybx],hc,denL.append hd hm⟩
def takeU:List U->Nat->Option (List U)
 | _,0=>some []
 | [],_+1=>none
 | u::l,n+1=>if u.w=0 then none else if u.w<=n+1 then(takeU l (n+1-u.w)).map (u::·) else none
def dropU:List U->Nat->Option (List U)
 | l,0=>some l
 | [],_+1=>none
 | u::l,n+1=>if u.w=0 then none else if u.w<=n+1 then dropU l (n+1-u.w) else none
def subU (l:List U) (off n:Nat):Option (List U):=(dropU l off).bind λm=>takeU m n
def putU (l:List U) (off:Nat) (us:List U):Option (List U):=
 (takeU l off).bind λa=>(dropU l (off+widths us)).map λb=>a++(us++b)
theorem Zen:∀{l:List U} {n:Nat} {m:List U} {cs:List Value},takeU l n=some m->denL D ρ w l cs->denL D ρ w m (cs.take n)∧(cs.take n).length=n
 | l, 0, m, cs, h, hd => by
   have:m=[]:=by cases l<;>(simp only[takeU,Ybp]at h;exact h.symm)
   subst this;exact⟨by simp[denL],Zs⟩
 | [],n+1,m,cs,h,hd=>by simp[takeU]at h
 | u :: l, n + 1, m, cs, h, hd => by
   simp only[takeU]at h;split at h
   ·cases h
   ·rename_i h0
    split at h
    ·rename_i hw
     obtain⟨m',hm,rfl⟩:=Yad.1 h;obtain⟨c,d,rfl,hc,hd'⟩:=hd;have hl:=hc.len;obtain⟨h1,h2⟩:=Zen hm hd';have e:(c++d).take (n+1)=c++d.take (n+1-u.w):=by
      rw[List.take_append,hl,Ycm Zo]
     rw[e];exact⟨⟨c,_,rfl,hc,h1⟩,by rw[Yay,h2,hl];omega⟩
    ·cases h
theorem Zgr:∀{l:List U} {n:Nat} {m:List U} {cs:List Value},dropU l n=some m->denL D ρ w l cs->denL D ρ w m (cs.drop n)∧n<=cs.length
 | l, 0, m, cs, h, hd => by
   have:m=l:=by cases l<;>(simp only[dropU,Ybp]at h;exact h.symm)
   subst this;exact⟨by simpa using hd,Zs⟩
 | [],n+1,m,cs,h,hd=>by simp[dropU]at h
 | u :: l, n + 1, m, cs, h, hd => by
   simp only[dropU]at h;split at h
   ·cases h
   ·split at h
    ·rename_i h0 hw
     obtain⟨c,d,rfl,hc,hd'⟩:=hd;have hl:=hc.len;obtain⟨h1,h2⟩:=Zgr h hd';have e:(c++d).drop (n+1)=d.drop (n+1-u.w):=by
      rw[List.drop_append,hl,Yfi Zo,Ydp]
     rw[e];exact⟨h1,by rw[Yay,hl];omega⟩
    ·cases h
theorem Zf5 {l:List U} {off n:Nat} {m:List U} {cs:List Value} (h:subU l off n=some m) (hd:denL D ρ w l cs):denL D ρ w m ((cs.drop off).take n)∧((cs.drop off).take n).length=n:=by
 unfold subU at h;obtain⟨m',h1,h2⟩:=Ybg.1 h;exact Zen h2 (Zgr h1 hd).1
theorem Znv {l:List U} {off:Nat} {us m:List U} {cs ps:List Value} (h:putU l off us=some m) (hd:denL D ρ w l cs) (hp:denL D ρ w us ps) :
  denL D ρ w m (cs.take off++ps++cs.drop (off+ps.length))∧off+ps.length<=cs.length:=by
 unfold putU at h;obtain⟨a,h1,h2⟩:=Ybg.1 h;obtain⟨b,h3,rfl⟩:=Yad.1 h2;rw[<-hp.len]at h3;obtain⟨k1,k2⟩:=Zgr h3 hd;exact⟨by rw[Ybx];exact(Zen h1 hd).1.append (hp.append k1),k2⟩
def expU:U->List U
 | .quo q=>[.val (.bool (decide (q.num<0))),.dig q.num.natAbs,.val (.bool false),.dig q.den]
 | u=>[u]
def expL:List U->List U
 | []=>[]
 | u::l=>expU u++expL l
theorem Zjc:∀{l:List U} {cs:List Value},denL D ρ w l cs->denL D ρ w (expL l) cs
 | [],cs,h=>h
 | u :: l, _, ⟨c, d, e, hc, hd⟩ => by
   subst e;refine denL.append ?_ (Zjc hd);cases u with
   | quo q =>
     obtain⟨v1,v2,rfl,h1,h2⟩:=D.split hc;exact⟨[_],_,rfl,⟨rfl,rfl⟩,[v1],_,rfl,⟨v1,h1,rfl⟩,[_],_,rfl,⟨rfl,rfl⟩,[v2],[],rfl,⟨v2,h2,rfl⟩,rfl⟩
   | _=>exact⟨c,[],(Ydg c).symm,hc,rfl⟩
def subX (l:List U) (off n:Nat):Option (List U):=
 match subU l off n with
 | some m=>some m
 | none=>subU (expL l) off n
def putX (l:List U) (off:Nat) (us:List U):Option (List U):=
 match putU l off us with
 | some m=>some m
 | none=>putU (expL l) off us
theorem Zf6 {l:List U} {off n:Nat} {m:List U} {cs:List Value} (h:subX l off n=some m) (hd:denL D ρ w l cs):denL D ρ w m ((cs.drop off).take n)∧((cs.drop off).take n).length=n:=by
 unfold subX at h;split at h
 ·rename_i m' h'
  cases h;exact Zf5 h' hd
 ·exact Zf5 h (Zjc hd)
theorem Znw {l:List U} {off:Nat} {us m:List U} {cs ps:List Value} (h:putX l off us=some m) (hd:denL D ρ w l cs) (hp:denL D ρ w us ps) :
  denL D ρ w m (cs.take off++ps++cs.drop (off+ps.length))∧off+ps.length<=cs.length:=by
 unfold putX at h;split at h
 ·rename_i m' h'
  cases h;exact Znv h' hd hp
 ·exact Znv h (Zjc hd) hp
theorem Zdn:∀(vs:List Value),(∀v∈vs,v.oneCell'=true)->denL D ρ w (vs.map .val) vs
 | [],_=>rfl
 | v::r,h=>⟨[v],r,rfl,⟨rfl,h v (Ycl ..)⟩,Zdn r λu hu=>h u (Ybs _ hu)⟩
def realU:U->Option (List Value)
 | .val v=>some [v]
 | .raw _ cs=>some cs
 | .sym z=>some [.int .i64 z]
 | .sml k z=>some [.int k z]
 | .tst b=>some [.bool b]
 | _=>none
def realL:List U->Option (List Value)
 | []=>some []
 | u::l=>(realU u).bind λa=>(realL l).map (a++·)
def realA:SA->Option Value
 | .one (.val v)=>some v
 | .one (.sym z)=>some (.int .i64 z)
 | .one (.sml k z)=>some (.int k z)
 | .one (.tst b)=>some (.bool b)
 | .one _=>none
 | .agg l=>(realL l).map λcs=>.agg cs.toArray
def realAs:List SA->Option (List Value)
 | []=>some []
 | x::l=>(realA x).bind λa=>(realAs l).map (a::·)
def realV:SV->Option Value
 | .a x=>realA x
 | .tup l=>(realAs l).map λvs=>.tuple vs.toArray
 | .no=>none
theorem Zrb:∀{u:U} {a cs:List Value},realU u=some a->denU D ρ w u cs->cs=a
 | .val v,a,cs,h,⟨e,_⟩=>by cases h;exact e
 | .raw _ _,a,cs,h,⟨e,_⟩=>by cases h;exact e
 | .sym _,a,cs,h,e=>by cases h;exact e
 | .sml _ _,a,cs,h,e=>by cases h;exact e
 | .tst _,a,cs,h,e=>by cases h;exact e
theorem Zkv:∀{l:List U} {a cs:List Value},realL l=some a->denL D ρ w l cs->cs=a
 | [],a,cs,h,e=>by cases h;exact e
 | u :: l, a, cs, h, ⟨c, d, e, hc, hd⟩ => by
   unfold realL at h;obtain⟨x,hx,h2⟩:=Ybg.1 h;obtain⟨y,hy,rfl⟩:=Yad.1 h2;rw[e,Zrb hx hc,Zkv hy hd]
theorem Zkw:∀{x:SA} {a v:Value},realA x=some a->denA D ρ w x v->v=a
 | .one (.val u), a, v, h, e => by
   cases h;have:=e.1;simpa using this
 | .one (.sym z), a, v, h, e => by
   cases h;simpa[denA,denU]using e
 | .one (.sml k z), a, v, h, e => by
   cases h;simpa[denA,denU]using e
 | .one (.tst z), a, v, h, e => by
   cases h;simpa[denA,denU]using e
 | .agg l, a, v, h, ⟨cs, e, hl⟩ => by
   unfold realA at h;obtain⟨y,hy,rfl⟩:=Yad.1 h;rw[e,Zkv hy hl]
theorem Zii:∀{l:List SA} {a vs:List Value},realAs l=some a->denAs D ρ w l vs->vs=a
 | [],a,cs,h,e=>by cases h;exact e
 | x :: l, a, cs, h, ⟨v, r, e, hv, hr⟩ => by
   unfold realAs at h;obtain⟨y,hy,h2⟩:=Ybg.1 h;obtain⟨z,hz,rfl⟩:=Yad.1 h2;rw[e,Zkw hy hv,Zii hz hr]
theorem Zgs:∀{x:SV} {a v:Value},realV x=some a->denV D ρ w x v->v=a
 | .a x,a,v,h,e=>Zkw h e
 | .tup l, a, v, h, ⟨vs, e, hl⟩ => by
   unfold realV at h;obtain⟨y,hy,rfl⟩:=Yad.1 h;rw[e,Zii hy hl]
def ncase {α:Type} (n:Nat) (f:Nat->α):α:=
 match n with
 | 0=>f 0
 | k+1=>f (k+1)
theorem Zeo {α:Type} (n:Nat) (f:Nat->α):ncase n f=f n:=by cases n<;>rfl
def icase {α:Type} (z:Int) (f:Int->α):α:=
 match z with
 | .ofNat n=>ncase n λm=>f (.ofNat m)
 | .negSucc n=>ncase n λm=>f (.negSucc m)
theorem Zcw {α:Type} (z:Int) (f:Int->α):icase z f=f z:=by cases z<;>simp only[icase,Zeo]
def qcase {α:Type} (q:Rat) (f:Rat->α):α:=icase q.num λn=>ncase q.den λd=>f (mkRat n d)
theorem Zcx {α:Type} (q:Rat) (f:Rat->α):qcase q f=f q:=by
 unfold qcase;rw[Zcw,Zeo,Rat.mkRat_self]
def ofValA:Value->Option SA
 | .int k z=>icase z λz=>some (.one (.val (.int k z)))
 | .bool true=>some (.one (.val (.bool true)))
 | .bool false=>some (.one (.val (.bool false)))
 | .agg cs=>if cs.toList.all (·.oneCell') then some (.agg (cs.toList.map .val)) else none
 | v=>if v.oneCell' then some (.one (.val v)) else none
def ofVals:List Value->Option (List SA)
 | []=>some []
 | v::r=>(ofValA v).bind λa=>(ofVals r).map (a::·)
def ofVal:Value->Option SV
 | .tuple vs=>(ofVals vs.toList).map .tup
 | v=>(ofValA v).map .a
theorem Zij {v:Value} {x:SA} (h:ofValA v=some x):denA D ρ w x v:=by
 unfold ofValA at h;split at h
 ·rw[Zcw]at h
  cases h;exact⟨rfl,rfl⟩
 ·cases h
  exact⟨rfl,rfl⟩
 ·cases h
  exact⟨rfl,rfl⟩
 ·rename_i cs
  split at h
  ·rename_i hc
   cases h;exact⟨cs.toList,rfl,Zdn _ λv hv=>Ybn.1 hc v hv⟩
  ·cases h
 ·split at h
  ·rename_i hc
   cases h;exact⟨rfl,hc⟩
  ·cases h
theorem Zik:∀{vs:List Value} {l:List SA},ofVals vs=some l->denAs D ρ w l vs
 | [],l,h=>by cases h;rfl
 | v :: r, l, h => by
   unfold ofVals at h;obtain⟨a,ha,h2⟩:=Ybg.1 h;obtain⟨m,hm,rfl⟩:=Yad.1 h2;exact⟨v,r,rfl,Zij ha,Zik hm⟩
theorem Zkx {v:Value} {x:SV} (h:ofVal v=some x):denV D ρ w x v:=by
 unfold ofVal at h;split at h
 ·rename_i vs
  obtain⟨l,hl,rfl⟩:=Yad.1 h;exact⟨vs.toList,Zs,Zik hl⟩
 ·obtain⟨l,hl,rfl⟩:=Yad.1 h
  exact Zij hl
end
end Go.Ex
namespace Go.Mono
def Flm.join (f g:Flm):Flm:=⟨f.ix,f.p*g.q+g.p*f.q,f.q*g.q-f.p*g.p⟩
section
open Go.RowKit
theorem LgV.unique {m m':Nat} {w:World} {v:Value} {z z':Int} (h:LgV m w v z) (h':LgV m' w v z'):z=z':=by
 obtain⟨p,n,c,f,rfl,s1,d1,e1,_⟩:=h;obtain⟨p',n',c',f',hv,s2,d2,e2,_⟩:=h';simp only[Value.agg.injEq,Array.mk.injEq,List.cons.injEq,Value.bool.injEq,Ydm,and_true]at hv;obtain⟨hs,rfl,rfl,rfl⟩:=hv;have hf:∀i,i<n->f i=f' i:=λi hi=>by
  obtain⟨_,_,x1⟩:=s1.opens;obtain⟨_,_,x2⟩:=s2.opens;obtain⟨b,off,hp,_,g1⟩:=x1 Zo;obtain⟨b',off',hp',_,g2⟩:=x2 Zo;rw[hp]at hp';simp only[Ybp,Addr.mk.injEq]at hp';obtain⟨rfl,rfl,_⟩:=hp';have:=g1 i hi;rw[g2 i hi]at this;simpa using this.symm
 have e:=Zbj hf;have h3:(z<0↔z'<0):=by simpa using hs
 omega
def IsVal (w:World) (B:Nat) (T:TypeId) (k:Nat):Prop:=∃C z m,Box w B T C∧LgV m w (.agg C) z∧z.natAbs=k
noncomputable def valAt (w:World) (B:Nat) (T:TypeId):Nat:=Classical.epsilon (IsVal w B T)
theorem Zgi {w:World} {B:Nat} {T:TypeId} {C:Array Value} {z:Int} {m:Nat} (hb:Box w B T C) (h:LgV m w (.agg C) z):valAt w B T=z.natAbs:=by
 obtain⟨C',z',m',hb',h',e⟩:=Classical.epsilon_spec (p:=IsVal w B T) ⟨z.natAbs,C,z,m,hb,h,rfl⟩;have hc:C'=C:=by
  have:=hb.blk.symm.trans hb'.blk;simp at this;exact this.symm
 subst hc;have:=h.unique h';subst this;exact e.symm
end
end Go.Mono
namespace Go.Proofs.W
open Go.RowKit Go.Mono
theorem Zco {m1 m2:Nat} {v1 v2:Value} {z y:Int} (w:World) (h1:LgV m1 w v1 z) (h2:LgV m2 w v2 y) (hy:y≠0) (hm1:m1<=100000) (hm2:m2<=100000) :
  Calls Tryz.prog 253 #[v1,v2] w λe w'=>∃q r,e=.returned (.tuple #[q,r])∧LgV m1 w' q (z.tdiv y)∧LgV m2 w' r (z.tmod y)∧Below w.heap.size w w':=by
 obtain⟨p,n,c,f,rfl,s1,d1,e1,l1⟩:=h1;obtain⟨q,m,c',g,rfl,s2,d2,e2,l2⟩:=h2;have hm0:0<m:=d2.pos.1 Zo;obtain⟨m,rfl⟩:∃k,m=k+1:=⟨m-1,Zo⟩
 obtain⟨t1,t2,t3,t4⟩:=Zp0 z y hy;refine(Zh9 _ _ p q n m c c' f g w s1 s2 d1 d2 Zo Zo).mono ?_;rintro e w' ⟨p1,k1,c1,h1,p2,k2,c2,h2,rfl,hs1,hd1,hv1,hk1,hs2,hd2,hv2,hk2,hb⟩;rw[e1,e2]at hv1 hv2 ⊢;rw[t1]at hv1 ⊢;rw[t2]at hv2 ⊢;rw[t3,t4];exact⟨_,_,rfl,⟨p1,k1,c1,h1,rfl,hs1,hd1,hv1,Zo⟩,⟨p2,k2,c2,h2,rfl,hs2,hd2,hv2,Zo⟩,hb⟩
theorem Zha {m:Nat} {v1 v2:Value} {z y:Int} (w:World) (h1:LgV m w v1 z) (h2:LgV m w v2 y) (hm:m<=100000) :
  Calls Tryz.prog 252 #[v1,v2] w λe w'=>∃v,e=.returned v∧LgV m w' v (Int.gcd z y)∧Below w.heap.size w w':=by
 obtain⟨A0,rfl,hA0,hA0o⟩:=h1.cells;obtain⟨A1,rfl,hA1,hA1o⟩:=h2.cells;obtain⟨gz,hgz⟩:∃k,Int.gcd z y=k:=⟨_,rfl⟩
 rw[hgz];go_enter Tryz.func252,Tryz.ntmps252
 go_wp2_with fail
 refine Zfw λW hB hs b0 b1 b2=>?_;go_loopw [5,6] (λu v wr=>∃(A B:Array Value) (a b:Int),Box wr w.heap.size 45 A∧Box wr (w.heap.size+1) 45 B∧LgV m wr (.agg A) a∧LgV m wr (.agg B) b∧Int.gcd a b=gz∧Box wr (w.heap.size+1+1) 45 #[.bool false,.slice none 0 0]∧Below w.heap.size w wr∧w.heap.size+1+1+1<=wr.heap.size) (λ_ _ wr=>valAt wr (w.heap.size+1) 45)
 case atStart=>exact⟨A0,A1,z,y,b0,b1,h1.below hB,h2.below hB,hgz,b2,hB,hs⟩
 case round=>
  clear b0 b1 b2 hB hs h1 h2 hgz;obtain⟨A,B,a,b,b0,b1,ha,hb,hg,b2,hB,hsz⟩:=hrel;by_cases hb0:b=0
  ·subst hb0
   obtain⟨pz,cz,hBv⟩:=hb.zero;cases hBv;have hga:(Int.natAbs a)=gz:=by rw[<-hg];simp
   obtain⟨p,n,c,f,hAv,s1,d1,e1,l1⟩:=ha;cases hAv;generalize decide (a<0)=sa at *;have hmade:=λ(X:World) (hX:Ext wr X)=>Zbm false p n c f X (s1.ext hX) Zo d1.lo d1.hi;have cb0:=b0.cell;have lb0:=b0.lt;have fb0:=b0.frozen;have cb1:=b1.cell;have lb1:=b1.lt;have fb1:=b1.frozen;go_wp2_with fail
   refine(hmade wr (Ext.refl _)).mono ?_;rintro e W2 ⟨v',rfl,ho2,d3,e3,hbb⟩;replace b2:=b2.below hbb;have hB1:=Zaa hB hbb;obtain⟨p',c',rfl⟩:=ho2.shape;have hlg:LgV m W2 (.agg #[.bool false,.slice p' (trimN f n) c']) (gz:Int):=⟨p',_,c',f,by rw[decide_eq_false Zo],ho2.sl (by have:=Za3 f n;omega),d3,by rw[e3,e1,hga];rfl,by have:=Za3 f n;omega⟩
   rw[Bool.false_and];clear hmade ho2 b0 b1 cb0 cb1 fb0 fb1 lb0 lb1 hB hb;go_wp2_with first|(refine Zab rfl 45 _ _ rfl (w.heap.size+1+1) 0 45 _ #[.bool false,.slice p' (trimN f n) c'] #[.bool false,.slice p' (trimN f n) c'] rfl rfl b2 Zae (Yaa rfl) (Zal _ _ _ _) (Zag rfl) ?_;intro W3 hk b4)
   have hb2:=hk.below hB1 Zo hB1.size;exact bodyPost_ret (b4.results rfl _ _ rfl Tryz.underlying45 rfl Zae) rfl ⟨_,rfl,hlg.ext (hk.ext b2 Zd),hb2⟩
  ·have hval:=Zgi b1 hb
   have hpt:=λ(X:World) (hX:Ext wr X)=>Zco X (ha.ext hX) (hb.ext hX) hb0 hm hm;have hg2:Int.gcd b (a.tmod b)=gz:=by
    rw[<-hg];unfold Int.gcd;rw[Ydy,Nat.gcd_comm a.natAbs b.natAbs,Nat.gcd_comm b.natAbs (a.natAbs%b.natAbs)];exact(Nat.gcd_rec b.natAbs a.natAbs).symm
   have hlt:(a.tmod b).natAbs<b.natAbs:=by
    rw[Ydy];exact Nat.mod_lt _ Zo
   obtain⟨q,n,c,hBv,hn0⟩:=hb.nz hb0;have hn':(0:Int)<n:=Zo;cases hBv;obtain⟨sa,pa,na,ca,hAv⟩:=ha.parts;cases hAv;generalize decide (b<0)=sb at *;have cb0:=b0.cell;have lb0:=b0.lt;have fb0:=b0.frozen;have cb1:=b1.cell;have lb1:=b1.lt;have fb1:=b1.frozen;go_wp2_with fail
   refine(hpt wr (Ext.refl _)).mono ?_;rintro e W2 ⟨vq,vr,rfl,hq,hr,hbb⟩;obtain⟨sq,pq,nq,cq,rfl⟩:=hq.parts;obtain⟨sr,pr,nr,cr,rfl⟩:=hr.parts;have hsz2:=hbb.size;replace b0:=b0.below hbb;replace b1:=b1.below hbb;replace b2:=b2.below hbb;replace hb:=hb.below hbb;have hB2:=Zaa hB hbb;clear hpt ha hq cb0 lb0 fb0 cb1 lb1 fb1 hB hbb hg;go_wp2_with fail
   have h2n:=(Yae W2.heap.size W2).alloc (Yab _) (.cells #[.bool sq,.slice pq nq cq] 45);have b6:=Box.new (W2.alloc (.cells #[.bool sq,.slice pq nq cq] 45)) 45 #[.bool sr,.slice pr nr cr];rw[Yav]at b6;have hbn:Below W2.heap.size W2 ((W2.alloc (.cells #[.bool sq,.slice pq nq cq] 45)).alloc (.cells #[.bool sr,.slice pr nr cr] 45)):=Zad (Zad (Yae _ _) _) _;replace b0:=b0.below hbn;replace b1:=b1.below hbn;replace b2:=b2.below hbn;replace hb:=hb.below hbn;replace hr:=hr.below hbn;replace hB2:=Zaa hB2 hbn;have hs3:=hbn.size;generalize (W2.alloc (.cells #[.bool sq,.slice pq nq cq] 45)).alloc (.cells #[.bool sr,.slice pr nr cr] 45)=V at *;refine wp_region_held_drew (S:=λw'=>Box w' (W2.heap.size+1) 45 #[.bool sr,.slice pr nr cr]∧Below w.heap.size w w') Zx ⟨b6.drew,hB2.drew⟩ (λhHeld=>?_);have c0:=b0.drew;have c1:=b1.drew;have c2:=b2.drew;have hbX:LgV m V.drew (.agg #[.bool sb,.slice q n c]) b:=hb.ext (Ext.refl _).drew;have hrX:LgV m V.drew (.agg #[.bool sr,.slice pr nr cr]) (a.tmod b):=hr.ext (Ext.refl _).drew;have hsX:w.heap.size+1+1+1<=V.drew.heap.size:=by show _<=V.heap.size;omega
   clear b0 b1 b2 hb hr b6 hbn h2n hB2;generalize V.drew=X0 at *;refine tl 1 (some 18) rfl (.agg #[.bool sr,.slice pr nr cr]) (Zaj 45 _ rfl (W2.heap.size+1) 0 rfl #[.bool sr,.slice pr nr cr] (λw h=>h.1.range) _ Tryz.underlying45 rfl Zae) ?_;refine Mono.sta 0 (some 17) (.agg #[.bool sb,.slice q n c]) X0 hHeld (λhHeld=>Mono.pt ?_) rfl rfl Zx Zx (Zaj (S:=λw=>w=X0) 45 _ rfl (w.heap.size+1) 0 Zx #[.bool sb,.slice q n c] (λw hS=>by subst hS;exact c1.range) _ Tryz.underlying45 rfl Zae X0 rfl);refine Zb8 w.heap.size 45 2 rfl rfl rfl rfl 0 #[.bool sb,.slice q n c] #[.bool sa,.slice pa na ca] #[.bool sb,.slice q n c] Zx (λX i u h=>⟨h.1.other _ _ (by show W2.heap.size+1≠w.heap.size;omega),Zaf h.2 Zo _ _⟩) Zx Zx c0 hHeld Zae (Yaa rfl) (Zal _ _ _ _) (Zag rfl) (λY1 hk1 r0 hHeld=>?_);have d1:=hk1.box c1 c1.lt Zo;have d2:=hk1.box c2 c2.lt Zo;have e1:=hk1.ext c0 Zd;refine Zb8 (w.heap.size+1) 45 3 rfl rfl rfl rfl 0 #[.bool sr,.slice pr nr cr] #[.bool sb,.slice q n c] #[.bool sr,.slice pr nr cr] Zx (λX i u h=>⟨h.1.other _ _ (by show W2.heap.size+1≠w.heap.size+1;omega),Zaf h.2 Zo _ _⟩) Zx Zx d1 hHeld Zae (Yaa rfl) (Zal _ _ _ _) (Zag rfl) (λY2 hk2 r1 hHeld=>?_);have r0':=hk2.box r0 r0.lt Zo;have d2':=hk2.box d2 d2.lt Zo;have e2:=hk2.ext d1 Zd;have hbY:=(hbX.ext e1).ext e2;have hrY:=(hrX.ext e1).ext e2;have hBY:=hHeld.2;have hsY:w.heap.size+1+1+1<=Y2.heap.size:=by have:=hk1.size;have:=hk2.size;omega
   have hvn:=Zgi r1 hrY;replace hval:=Yah hval;refine wpAnyH_done Zx ?_ _;clear hHeld hk1 hk2 r0 c0 c1 c2 d1 d2 e1 e2 hbX hrX;go_wp2
   go_roundw
   case rel=>exact⟨_,_,b,a.tmod b,r0',r1,hbY,hrY,hg2,d2',hBY,hsY⟩
   case measure=>rw[hvn,hval.out];exact hlt
end Go.Proofs.W
namespace Go.Mono
def Mov (N D:Nat) (x:Mat):Prop:=∃d,d<=D∧Ov N d x.a∧Ov N d x.b∧Ov N d x.c∧Ov N d x.d
def bnd:Nat:=4000000000000000000000
theorem Mov.parts {N D N' D':Nat} {x y:Mat} (h:Mov N D x) (g:Mov N' D' y):∃d,d<=D*D'∧
  (∀u v,(u=x.a∨u=x.b∨u=x.c∨u=x.d)->(v=y.a∨v=y.b∨v=y.c∨v=y.d)->Ov (N*N') d (u*v)):=by
 obtain⟨d,hd,a,b,c,e⟩:=h;obtain⟨d',hd',a',b',c',e'⟩:=g;refine⟨d*d',Ybv hd hd',?_⟩;intro u v hu hv;rcases hu with rfl|rfl|rfl|rfl<;>rcases hv with rfl|rfl|rfl|rfl<;>exact Ov.mul (by assumption) (by assumption)
theorem Mov.mul {N D N' D':Nat} {x y:Mat} (h:Mov N D x) (g:Mov N' D' y):Mov (2*(N*N')) (D*D') (x.mul y):=by
 obtain⟨d,hd,hp⟩:=h.parts g;rw[Nat.two_mul];exact⟨d,hd,(hp _ _ Zs Zs).sub_same (hp _ _ Zs Zs),(hp _ _ Zs Zs).add_same (hp _ _ Zs Zs),(hp _ _ Zs Zs).add_same (hp _ _ Zs Zs),(hp _ _ Zs Zs).sub_same (hp _ _ Zs Zs)⟩
theorem Mov.one:Mov 1 1 Mat.one:=by
 have h0:Ov 1 1 (0:Rat):=Ov.of 0 1 Zd 1 Zd;have h1:Ov 1 1 (1:Rat):=Ov.of 1 1 Zd 1 Zd;exact⟨1,Yab _,h1,h0,h0,h1⟩
end Go.Mono
namespace Go.Ex
open Go.RowKit Go.Mono
section
def pureOf {α:Type} (P:Program):Sem α->Option α
 | .pure a=>some a
 | .program k=>pureOf P (k P)
 | .mark _ k=>pureOf P k
 | _=>none
theorem Zc7 {α:Type} {P:Program}:∀{s:Sem α} {x:α},pureOf P s=some x->∀w,s.run P w=.ok x w
 | .pure a,x,h,w=>by simp only[pureOf,Ybp]at h;subst h;rfl
 | .program k,x,h,w=>by simp only[pureOf]at h;exact Zc7 h w
 | .mark _ k,x,h,w=>by simp only[pureOf]at h;exact Zc7 h w
def szOf (P:Program) (t:TypeId):Option Nat:=(P.info? t).map (·.size)
def rowT (P:Program) (t:TypeId):Option Bool:=(P.underlying t).map TypeDesc.isRow
section
variable {P:Program} {w:World} {B off:Nat}
theorem Zck {t:TypeId} {n:Nat} (h:szOf P t=some n) (w:World):(sizeOf t).run P w=.ok n w:=by
 obtain⟨i,hi,rfl⟩:=Yad.1 h;unfold sizeOf typeInfo;simp[hi]
theorem Zf7 {t:TypeId} {b:Bool} (h:rowT P t=some b) (w:World):(isAgg t).run P w=.ok b w:=by
 obtain⟨d,hd,rfl⟩:=Yad.1 h;unfold isAgg;simp only[Yar,run_underlying hd,Yag];cases d<;>rfl
theorem Zky {s f:Nat} {fs:Array Field} {fl:Field} {n:Nat} (hs:P.underlying s=some (.struct fs)) (hf:fs[f]? = some fl) (hz:szOf P fl.type=some (n+1)) :
  (Instr.fieldAt s (.pointer (some ⟨B,off,none⟩)) f).run P w=.ok (.pointer (some ⟨B,off+fl.offset,none⟩)) w:=by
 unfold Instr.fieldAt;simp only[Yar,run_underlying hs,Yag,hf,Instr.sureAddr,Yau,fieldPlace,Zck hz];simp[Yem]
theorem Zcl {t e len cap:Nat} {k:IntKind} {i:Int} {n:Nat} (hs:P.underlying t=some (.slice e)) (hz:szOf P e=some n) (hi:0<=i∧i<len) :
  (Instr.indexAt t (.slice (some ⟨B,off,none⟩) len cap) (.int k i)).run P w=.ok (.pointer (some ⟨B,off+i.toNat*n,none⟩)) w:=by
 unfold Instr.indexAt;simp only[Yar,asIntOf,run_underlying hs,Yag,Yau,if_pos hi,Zck hz,Yem]
theorem Zjd {t e len:Nat} {k:IntKind} {i:Int} {n:Nat} (hs:P.underlying t=some (.array len e)) (hz:szOf P e=some n) (hi:0<=i∧i<len) :
  (Instr.indexAt t (.pointer (some ⟨B,off,none⟩)) (.int k i)).run P w=.ok (.pointer (some ⟨B,off+i.toNat*n,none⟩)) w:=by
 unfold Instr.indexAt;simp only[Yar,asIntOf,run_underlying hs,Yag,Yau,Instr.sureAddr,if_pos hi,Zck hz,Yem]
end
def fieldAddrS (P:Program) (s:TypeId) (x:Option SV) (f:Nat):Option SV:=
 match x with
 | some (.a (.one (.ptr k off))) => match P.underlying s with
   | some (.struct fs) => match fs[f]? with
     | some fl => match szOf P fl.type with
       | some (_+1)=>some (.a (.one (.ptr k (off+fl.offset))))
       | _=>none
     | none=>none
   | _=>none
 | _=>none
def indexAddrS (P:Program) (t:TypeId) (x ix:Option SV):Option SV:=
 match x,ix with
 | some (.a (.one (.ptr k off))), some (.a (.one (.val (.int _ i)))) => match P.underlying t with
   | some (.array n e) => match szOf P e with
     | some s=>if 0<=i∧i<n then some (.a (.one (.ptr k (off+i.toNat*s)))) else none
     | none=>none
   | _=>none
 | some (.a (.one (.slc k off len _))), some (.a (.one (.val (.int _ i)))) => match P.underlying t with
   | some (.slice e) => match szOf P e with
     | some s=>if 0<=i∧i<len then some (.a (.one (.ptr k (off+i.toNat*s)))) else none
     | none=>none
   | _=>none
 | some (.a (.one (.sli k off len))), some (.a (.one (.val (.int _ i)))) => match P.underlying t with
   | some (.slice e) => match szOf P e with
     | some s=>if 0<=i∧i<len then some (.a (.one (.ptr k (off+i.toNat*s)))) else none
     | none=>none
   | _=>none
 | some (.a (.one (.own k len _))), some (.a (.one (.val (.int _ i)))) => match P.underlying t with
   | some (.slice e) => match szOf P e with
     | some s=>if 0<=i∧i<len then some (.a (.one (.ptr k (i.toNat*s)))) else none
     | none=>none
   | _=>none
 | some (.a (.one (.slx k off m _))), some (.a (.one (.val (.int _ i)))) => match P.underlying t with
   | some (.slice e) => match szOf P e with
     | some s=>if 0<=i∧i<m then some (.a (.one (.ptr k (off+i.toNat*s)))) else none
     | none=>none
   | _=>none
 | _,_=>none
def partS (P:Program) (t:TypeId) (l:List U) (off:Nat):Option SV:=
 match rowT P t,szOf P t with
 | some true,some n=>(subX l off n).map λm=>.a (.agg m)
 | some false, some _ => match subX l off 1 with
   | some [u]=>some (.a (.one u))
   | _=>none
 | _,_=>none
def fieldS (P:Program) (t:TypeId) (x:Option SV) (f:Nat):Option SV:=
 match x with
 | some (.a (.agg l)) => match P.underlying t with
   | some (.struct fs) => match fs[f]? with
     | some fl=>partS P fl.type l fl.offset
     | none=>none
   | _=>none
 | _=>none
def indexS (P:Program) (t:TypeId) (x ix:Option SV):Option SV:=
 match x,ix with
 | some (.a (.agg l)), some (.a (.one (.val (.int _ i)))) => match P.underlying t with
   | some (.array n e) => match szOf P e with
     | some s=>if 0<=i∧i<n then partS P e l (i.toNat*s) else none
     | none=>none
   | _=>none
 | _,_=>none
section
variable {D:Den} {P:Program} {ρ:Nm} {wc w:World}
theorem Znx {t:TypeId} {l:List U} {off:Nat} {x:SV} {cs:List Value} (h:partS P t l off=some x) (hl:denL D ρ wc l cs) :
  ∃v,(part t cs.toArray off).run P w=.ok v w∧denV D ρ wc x v:=by
 unfold partS at h;split at h
 ·rename_i n hr hz
  obtain⟨m,hm,rfl⟩:=Yad.1 h;obtain⟨h1,h2⟩:=Zf6 hm hl;refine⟨.agg ((cs.drop off).take n).toArray,?_,_,rfl,h1⟩;unfold part;simp only[Yar,Zf7 hr,Yag,if_true,Zck hz,Yau];congr 2
  apply Yee.1;simp[List.extract_eq_take_drop]
 ·rename_i n hr hz
  split at h
  ·rename_i u hu
   cases h;obtain⟨h1,h2⟩:=Zf6 hu hl;obtain⟨c,d,e,hc,hd⟩:=h1;obtain rfl:d=[]:=hd;rw[Ydg]at e;rw[e]at h2;obtain⟨v,rfl⟩:∃v,c=[v]:=Ydr.1 h2;refine⟨v,?_,hc⟩;have hv:cs[off]? = some v:=by
    have:=congrArg (·[0]?) e;simpa using this
   unfold part;simp only[Yar,Zf7 hr,Yag,Ybq,if_false,List.getElem?_toArray,hv,Yau]
  ·cases h
 ·cases h
end
end
end Go.Ex
namespace Go.Proofs.W
open Go.RowKit Go.Mono
theorem Zrw (a b:Int) (h0:b≠0) (w:World) (a1 : -9223372036854775808<=a) (a2:a<=9223372036854775807) (b1 : -9223372036854775808<=b) (b2:b<=9223372036854775807) :
  Calls Tryz.prog 66 #[.int .i64 a,.int .i64 b] w λe w'=>∃r,e=.returned (.tuple #[r,.int .i64 0])∧QV w' r (Rat.divInt a b)∧Below w.heap.size w w':=by
 go_enter Tryz.func66,Tryz.ntmps66
 go_wp2_with fail
 refine Zbz λW hB hs bb=>?_;refine(Zwj a W a1 a2).mono ?_;rintro e W1 ⟨p,k,c,rfl,z1,hb1⟩;replace hB:=Zaa hB hb1;replace bb:=bb.below hb1;have cbb:=bb.cell;have lbb:=bb.lt;have fbb:=bb.frozen;go_wp2_with fail
 refine(Zwj b W1 b1 b2).mono ?_;rintro e W2 ⟨q,l,d,rfl,z2,hb2⟩;replace hB:=Zaa hB hb2;replace z1:=z1.ext (.of_below hb2);replace bb:=bb.below hb2;try clear cbb lbb fbb
 have cbb:=bb.cell;have lbb:=bb.lt;have fbb:=bb.frozen;go_wp2_with fail
 refine(Zxf a b h0 p q k c l d W2 W2 (Ext.refl _) z1 z2).mono ?_;rintro e W3 ⟨r,rfl,⟨p7,k7,c7,q7,l7,d7,rfl,z7,y7⟩,hb7⟩;replace hB:=Zaa hB hb7;replace z1:=z1.ext (.of_below hb7);replace bb:=bb.below hb7;try clear cbb lbb fbb
 have cbb:=bb.cell;have lbb:=bb.lt;have fbb:=bb.frozen;go_wp2
 have b3':=((((bb.set 0 (.bool (decide ((Rat.divInt a b).num<0)))).set 1 (.slice p7 k7 c7)).set 2 (.bool false)).set 3 (.slice q7 l7 d7)).cell;have xE:Ext W3 _:=(((((Ext.refl W3).set bb Zd 0 (.bool (decide ((Rat.divInt a b).num<0)))).set (bb.set 0 (.bool (decide ((Rat.divInt a b).num<0)))) Zd 1 (.slice p7 k7 c7))).set ((bb.set 0 (.bool (decide ((Rat.divInt a b).num<0)))).set 1 (.slice p7 k7 c7)) Zd 2 (.bool false)).set (((bb.set 0 (.bool (decide ((Rat.divInt a b).num<0)))).set 1 (.slice p7 k7 c7)).set 2 (.bool false)) Zd 3 (.slice q7 l7 d7);refine bodyPost_ret (v:=.tuple #[.agg #[.bool (decide ((Rat.divInt a b).num<0)),.slice p7 k7 c7,.bool false,.slice q7 l7 d7],.int .i64 0]) (by simp[results,Tryz.results66,go_sem,b3']) rfl ⟨_,rfl,⟨_,_,_,_,_,_,rfl,z7.ext xE,y7.ext xE⟩,?_⟩;exact Zaf (Zaf (Zaf (Zaf hB Zo _ _) Zo _ _) Zo _ _) Zo _ _
end Go.Proofs.W
