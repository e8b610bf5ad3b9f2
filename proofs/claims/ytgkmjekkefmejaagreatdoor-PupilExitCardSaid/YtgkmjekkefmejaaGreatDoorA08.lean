/- Contracts of package matrix,and a verified evaluator. Part 8 of 27. No condition beside the row. -/
import Derived.Test.YtgkmjekkefmejaaGreatDoorA02
import Derived.Test.YtgkmjekkefmejaaGreatDoorA03
import Derived.Test.YtgkmjekkefmejaaGreatDoorA06
set_option linter.unusedVariables false
set_option linter.unusedSimpArgs false
set_option maxRecDepth 100000
set_option maxHeartbeats 4000000
namespace Go.Proofs.W
open Go.RowKit Go.Mono
theorem Zy0 (w:World):Calls Tryz.prog 157 #[] w λe w'=>∃p k c,e=.returned (.slice p k c)∧Sz 1 w' (.slice p k c) 1∧Below w.heap.size w w':=by
 go_enter Tryz.func157,Tryz.ntmps157
 go_wp2
 go_ret
 refine⟨_,_,_,rfl,?_,(Yae _ _).alloc (Yab _) _⟩;refine⟨1,λ_=>1,.inr ⟨_,_,_,#[.int .i64 1],(0,0),rfl,Zo,Zo,?_,?_⟩,⟨λi hi=>Zo,λi hi=>Zo,λ_=>Zd⟩,Zd,Zo⟩
 ·exact(Box.new w 3 #[.int .i64 1]).blk
 ·intro i hi
  obtain rfl:i=0:=Zo;rfl
theorem Zc6 (s:Bool) (p:Option Addr) (n c:Nat) (N:Int) (w wf:World) (hx:Ext wf w) (h:Sz 600 wf (.slice p n c) N) (hs:s=true->0<N) :
  Calls Tryz.prog 155 #[.agg #[.bool s,.slice p n c]] w λe w'=>e=.returned (.int .i64 0)∧Below w.heap.size w w':=by
 replace h:=h.ext hx;clear hx;have hp:=h.len_pos;obtain⟨n',f,h1,h2,h3,h4,rfl⟩:=h.sl;obtain⟨hc,hn,hcell⟩:=h1.opens;clear h h1 h3;by_cases h0:0<n'
 ·obtain⟨b,off,rfl,hb,hcell⟩:=hcell h0
  obtain⟨k,rfl⟩:∃k,n'=k+1:=⟨n'-1,Zo⟩
  have ht:=h2.top h0;simp only[Ybf]at ht;have ht':(f k==0)=false:=by simpa using ht
  replace ht:=Yah ht;go_enter Tryz.func155,Tryz.ntmps155
  go_wp2_with fail
  refine Zb3 λW hB hs b0=>?_;replace hcell:∀i,i<k+1->W.cell? ⟨b,off+i,none⟩=some (.int .i64 (f i)):=λi hi=>(hB.cell hb).trans (hcell i hi);have hlast:=hcell k Zo;have cb0:=b0.cell;have lb0:=b0.lt;have fb0:=b0.frozen;go_wp2
  go_loopw [35] (λa wr=>∃i:Nat,i<=k+1∧a=.int .i64 (i:Int)∧wr=W) (λa _=>(k+1-intOf a).toNat)
  case atStart=>exact⟨0,Zo,rfl,rfl⟩
  case round=>
   obtain⟨i,hi,rfl,rfl⟩:=hrel;by_cases hik:i<k+1
   ·have a1:=hcell i hik
    have a2:=h2.lo i hik;have a3:=h2.hi i hik;clear hcell h2 hlast;have a4:¬(f i<0):=Zo;have a5:¬(1000000000<=f i):=Zo;have hik':(i:Int)<k+1:=Zo;go_wp2
    go_roundw
    case rel=>refine⟨i+1,Zo,?_⟩;simp
    case measure=>simp[intOf];omega
   ·obtain rfl:i=k+1:=by omega
    go_wp2
    go_ret
    exact⟨rfl,hB⟩
 ·obtain rfl:n'=0:=by omega
  have hsf:s=false:=by
   cases s
   ·rfl
   ·have:=hp.1 (hs rfl);omega
  subst hsf;go_enter Tryz.func155,Tryz.ntmps155
  go_wp2_with fail
  refine Zb3 λW hB hs b0=>?_;have cb0:=b0.cell;have lb0:=b0.lt;have fb0:=b0.frozen;go_wp2
  go_loopw [35] (λa wr=>a=.int .i64 0∧wr=W) (λa _=>0)
  case atStart=>exact⟨rfl,rfl⟩
  case round=>
   obtain⟨rfl,rfl⟩:=hrel;go_wp2
   go_ret
   exact⟨rfl,hB⟩
end Go.Proofs.W
namespace Go.Mono
open Go.RowKit
def LgV (m:Nat) (w:World) (v:Value) (z:Int):Prop:=∃p n c f,v=.agg #[.bool (decide (z<0)),.slice p n c]∧SlF w (.slice p n c) n f∧Digs f n∧vf f n=z.natAbs∧n<=m
theorem LgV.ext {m:Nat} {w w':World} {v:Value} {z:Int} (h:LgV m w v z) (hx:Ext w w'):LgV m w' v z:=by
 obtain⟨p,n,c,f,hv,h1,h2⟩:=h;exact⟨p,n,c,f,hv,h1.ext hx,h2⟩
theorem LgV.below {m:Nat} {w w':World} {v:Value} {z:Int} (h:LgV m w v z) (hb:Below w.heap.size w w'):LgV m w' v z:=h.ext (.of_below hb)
theorem LgV.mono {m m':Nat} {w:World} {v:Value} {z:Int} (h:LgV m w v z) (hm:m<=m'):LgV m' w v z:=by
 obtain⟨p,n,c,f,hv,h1,h2,h3,h4⟩:=h;exact⟨p,n,c,f,hv,h1,h2,h3,Zo⟩
theorem LgV.tight {m k:Nat} {w:World} {v:Value} {z:Int} (h:LgV m w v z) (hz:(z.natAbs:Int)<pw k):LgV k w v z:=by
 obtain⟨p,n,c,f,hv,h1,h2,h3,h4⟩:=h;refine⟨p,n,c,f,hv,h1,h2,h3,?_⟩;by_cases hn:n=0
 ·omega
 have:=h2.ge Zo;by_cases hk:n<=k
 ·exact hk
 ·have:=Zbp (i:=k) (k:=n-1) Zo
  omega
theorem LgV.lt {m:Nat} {w:World} {v:Value} {z:Int} (h:LgV m w v z):(z.natAbs:Int)<pw m:=by
 obtain⟨p,n,c,f,hv,h1,h2,h3,h4⟩:=h;have:=h2.lt;have:=Zbp h4;omega
theorem Zxu {z y:Int} {n m:Nat} {f g:Nat->Int} (d1:Digs f n) (v1:vf f n=z.natAbs) (d2:Digs g m) (v2:vf g m=y.natAbs) :
  z=y↔(decide (z<0)=decide (y<0)∧n=m∧∀i,i<n->f i=g i):=by
 constructor
 ·rintro rfl
  obtain⟨rfl,h⟩:=d1.unique d2 Zo;exact⟨rfl,rfl,h⟩
 ·rintro⟨h1,rfl,h2⟩
  have e:=Zbj h2;have h3:(z<0↔y<0):=by simpa using h1
  omega
end Go.Mono
namespace Go.Proofs.W
open Go.RowKit Go.Mono
theorem Zp3 (s t:Bool) (p q:Option Addr) (n m c1 c2:Nat) (f g:Nat->Int) (r:Bool) (w:World) (h1:SlF w (.slice p n c1) n f) (h2:SlF w (.slice q m c2) m g) (hr:Hid (r=true↔(s=t∧n=m∧∀i,i<n->f i=g i))) :
  Calls Tryz.prog 251 #[.agg #[.bool s,.slice p n c1],.agg #[.bool t,.slice q m c2]] w λe w'=>e=.returned (.bool r)∧Below w.heap.size w w':=by
 obtain⟨hc1,hn1,hx1⟩:=h1.opens;obtain⟨hc2,hn2,hx2⟩:=h2.opens;clear h1 h2;by_cases hst:s=t
 ·subst hst
  by_cases hnm:n=m
  ·subst hnm
   go_enter Tryz.func251,Tryz.ntmps251
   go_wp2
   refine Zej λW hB hs b0 b1=>?_;have cb0:=b0.cell;have lb0:=b0.lt;have fb0:=b0.frozen;have cb1:=b1.cell;have lb1:=b1.lt;have fb1:=b1.frozen;go_loopw [5] (λa wr=>∃i:Nat,i<=n∧a=.int .i64 (i:Int)∧(∀j,j<i->f j=g j)∧∃k,wr=W.drewN k) (λa _=>(n-intOf a).toNat)
   case atStart=>exact⟨0,Yat _,rfl,λj hj=>absurd hj (Nat.not_lt_zero _),0,rfl⟩
   case round=>
    obtain⟨i,hi,rfl,heq,k,rfl⟩:=hrel;replace heq:=Yah heq;by_cases hin:i<n
    ·obtain⟨b,off,rfl,hb,hcell⟩:=hx1 Zo
     obtain⟨b2,off2,rfl,hb2,hcell2⟩:=hx2 Zo;have a1:=(hB.cell (p:=⟨b,off+i,none⟩) hb).trans (hcell i hin);have a2:=(hB.cell (p:=⟨b2,off2+i,none⟩) hb2).trans (hcell2 i hin);have hin':(i:Int)<n:=Zo;clear hcell hcell2 hx1 hx2;by_cases hfg:f i=g i
     ·have hq:(f i != g i)=false:=by simpa using hfg
      replace hfg:=Yah hfg;go_wp2
      go_quiet (fail)
      go_wp2
      go_roundw
      case rel=>
       refine⟨i+1,Zo,Zs,λj hj=>?_,_,rfl⟩;by_cases hji:j=i
       ·subst hji;exact hfg.out
       ·exact heq.out j Zo
      case measure=>simp[intOf];omega
     ·have hq:(f i != g i)=true:=by simpa using hfg
      obtain rfl:r=false:=by
       rw[Bool.eq_false_iff];intro e;exact hfg ((hr.out.1 e).2.2 i hin)
      replace hfg:=Yah hfg;go_wp2
      go_quiet (fail)
      go_wp2
      go_ret
      exact⟨rfl,below_drewN (below_drewN hB _) _⟩
    ·obtain rfl:i=n:=by omega
     obtain rfl:r=true:=hr.out.2 ⟨by trivial,by trivial,heq.out⟩;clear hx1 hx2;go_wp2
     go_ret
     exact⟨rfl,below_drewN hB _⟩
  ·obtain rfl:r=false:=by
    rw[Bool.eq_false_iff];intro e;exact hnm (hr.out.1 e).2.1
   have hnm':((n:Int) != (m:Int))=true:=by simp;omega
   clear hx1 hx2;go_enter Tryz.func251,Tryz.ntmps251
   go_wp2
   go_ret
   exact⟨rfl,Zad (Zad (Yae _ _) _) _⟩
 ·obtain rfl:r=false:=by
   rw[Bool.eq_false_iff];intro e;exact hst (hr.out.1 e).1
  have hst':(s != t)=true:=by simpa using hst
  clear hx1 hx2;go_enter Tryz.func251,Tryz.ntmps251
  go_wp2
  go_ret
  exact⟨rfl,Zad (Zad (Yae _ _) _) _⟩
theorem Zlo {m1 m2:Nat} {v1 v2:Value} {z y:Int} (w:World) (h1:LgV m1 w v1 z) (h2:LgV m2 w v2 y) :
  Calls Tryz.prog 251 #[v1,v2] w λe w'=>e=.returned (.bool (decide (z=y)))∧Below w.heap.size w w':=by
 obtain⟨p,n,c,f,rfl,s1,d1,e1,_⟩:=h1;obtain⟨q,m,c',g,rfl,s2,d2,e2,_⟩:=h2;refine Zp3 _ _ p q n m c c' f g _ w s1 s2 (Yah ?_);rw[decide_eq_true_eq];exact Zxu d1 e1 d2 e2
end Go.Proofs.W
namespace Go.Mono
open Go.RowKit
theorem LgV.cells {m:Nat} {w:World} {v:Value} {z:Int} (h:LgV m w v z):∃C:Array Value,v=.agg C∧C.size=2∧C.all (·.oneCell')=true:=by
 obtain⟨p,n,c,f,rfl,_⟩:=h;exact⟨_,rfl,rfl,by simp[Value.oneCell']⟩
theorem OwnF.lg {w:World} {base:Nat} {v:Value} {n m:Nat} {f:Nat->Int} {z:Int} (h:OwnF w base v n f) (hd:Digs f n) (hv:vf f n=z.natAbs) (hm:n<=m) (hm6:m<=1000000):LgV m w (.agg #[.bool (decide (z<0)),v]) z:=by
 obtain⟨p,c,rfl⟩:=h.shape;exact⟨p,n,c,f,rfl,h.sl Zo,hd,hv,hm⟩
theorem Zcr {z:Int} (h1 : -9223372036854775808<=z) (h2:z<=9223372036854775807):IntKind.i64.wrap z=z:=by
 simp[IntKind.wrap,IntKind.signed,IntKind.bits];omega
theorem Zal (b:Bool) (p:Option Addr) (n c:Nat):(#[.bool b,.slice p n c]:Array Value).all (·.oneCell')=true:=by simp[Value.oneCell']
end Go.Mono
namespace Go.Proofs.W
open Go.RowKit Go.Mono
theorem Zis {m:Nat} {v:Value} {z:Int} (w:World) (h:LgV m w v z) (hm:m<=100000) :
  Calls Tryz.prog 282 #[v] w λe w'=>∃v',e=.returned v'∧LgV m w' v' (-z)∧Below w.heap.size w w':=by
 obtain⟨p,n,c,f,rfl,s1,d1,e1,l1⟩:=h;have hb1:(!decide (z<0))=decide (0<=z):=by
  rw[Ycx];simp
 have hsg:(decide (0<=z)&&decide (0<vf f n))=decide (-z<0):=by
  rw[Ycx];simp;omega
 rw[e1]at hsg;generalize decide (z<0)=sz at *;go_enter Tryz.func282,Tryz.ntmps282
 go_wp2_with fail
 refine Zbq λW hB hs b0 b1=>?_;refine(Zbm _ p n c f W (s1.ext (.of_below hB)) Zo d1.lo d1.hi).mono ?_;rintro e W1 ⟨v',rfl,ho,d2,e2,hb⟩;replace b1:=b1.below hb;replace hB:=Zaa hB hb;rw[e1,hsg];have hlg:=ho.lg (z:=-z) (m:=m) d2 (by rw[e2,e1,Int.natAbs_neg]) (by have:=Za3 f n;omega) Zo;generalize decide (-z<0)=ng at *;obtain⟨p',c',rfl⟩:=ho.shape;clear ho hb b0 hsg;go_wp2_with first|(refine Zab rfl 45 _ _ rfl (w.heap.size+1) 0 45 _ #[.bool ng,.slice p' (trimN f n) c'] #[.bool ng,.slice p' (trimN f n) c'] rfl rfl b1 Zae (Yaa rfl) (Zal _ _ _ _) (Zag rfl) ?_;intro W2 hk b2)
 have hb2:=hk.below hB Zo hB.size;refine bodyPost_ret (b2.results rfl _ _ rfl Tryz.underlying45 rfl Zae) rfl ⟨_,rfl,hlg.ext (hk.ext b1 Zd),hb2⟩
end Go.Proofs.W
namespace Go.Mono
theorem Zuq (q:Rat):gcdZ q.num.natAbs q.den=1:=by
 have:=q.reduced;simp only[gcdZ,Ycb];rw[this.gcd_eq_one];rfl
end Go.Mono
namespace Go.Proofs.W
open Go.RowKit Go.Mono
theorem Zur (m1 m2:Nat) (w:World) (p q:Option Addr) (n m c1 c2:Nat) (N:Int) (h1:Sz m1 w (.slice p n c1) N) (h2:Sz m2 w (.slice q m c2) N) :
  Calls Tryz.prog 156 #[.slice p n c1,.slice q m c2] w λe w'=>e=.returned (.int .i64 0)∧Below w.heap.size w w':=by
 refine(Zkt m1 m2 w w (Ext.refl _) p q n m c1 c2 N N h1 h2).mono ?_;rintro e w' ⟨c,⟨rfl,k,rfl⟩,_,hc⟩;obtain rfl:=hc.2 rfl;exact⟨rfl,below_drewN (Yae _ _) k⟩
theorem Zem (v:Value) (q:Rat) (w wf:World) (hx:Ext wf w) (h:QV wf v q) :
  Calls Tryz.prog 109 #[v] w λe w'=>e=.returned (.int .i64 0)∧Below w.heap.size w w':=by
 replace h:=h.ext hx;clear hx;obtain⟨p,k,c,p',k',c',rfl,h1,h2⟩:=h;have hden:0<k':=h2.len_pos.1 (by have:=Yck q.den_nz;omega);have hneg:decide (q.num<0)=true->(0:Int)<q.num.natAbs:=by intro h;simp at h;omega
 have hone:=Zuq q;have hf0:∀w:World,(Instr.field 123 (.agg #[.bool (decide (q.num<0)),.slice p k c,.slice p' k' c']) 0).run Tryz.prog w=.ok (.agg #[.bool (decide (q.num<0)),.slice p k c]) w:=λ_=>Zk;have hf1:∀w:World,(Instr.field 121 (.agg #[.bool (decide (q.num<0)),.slice p k c]) 1).run Tryz.prog w=.ok (.slice p k c) w:=λ_=>Zk;go_enter Tryz.func109,Tryz.ntmps109
 go_wp2_with fail
 refine Zb3 λW hB hs b0=>?_;replace h1:=h1.ext (.of_below hB);replace h2:=h2.ext (.of_below hB);have cb0:=b0.cell;have lb0:=b0.lt;have fb0:=b0.frozen;have hne:((k':Int)==0)=false:=by simp;omega
 go_region_held3 (λw'=>(∀b o,b<W.heap.size->w'.cell? ⟨b,o,none⟩=W.cell? ⟨b,o,none⟩)∧Below W.heap.size W w') ((refine Za2 ?_;first|exact(Yae _ _).drew|(repeat' (first|exact Yai ‹_› | exact Zaa (Yai ‹_›) ‹_› | exact Zad (Yai ‹_›) _|exact Zad ‹_› _|refine Zaf ?_ Zo _ _)))) (first|(go_at_call 155;(with_reducible refine(Zc6 _ p k c _ _ W (.of_below (Yai ‹_›)) h1 hneg).mono ?_);rintro e W4 ⟨rfl,hb4⟩)|(go_at_call 155;(with_reducible refine(Zc6 _ p' k' c' _ _ W (.of_below (Yai ‹_›)) h2 Zs).mono ?_);rintro e W5 ⟨rfl,hb5⟩)|(go_at_call 110;refine(Zi8 _ _ p p' k c k' c' _).mono ?_;rintro e W6 ⟨rfl,hb6⟩)|(go_at_call 115;refine(Zel 600 _ W (.of_below (Yai ‹_›)) p p' k k' c c' _ _ h1 h2 Zo).mono ?_;rintro e W7 ⟨pg,kg,cg,rfl,zg,hb7⟩;rw[hone]at zg;(try replace z1:=z1.ext (by first|exact .of_below hb7|exact((Ext.refl _).alloc _).below hb7|exact((Ext.refl _).alloc _).drew.below hb7)))|(go_at_call 157;refine(Zy0 _).mono ?_;rintro e W8 ⟨p1,k1,c1,rfl,z1,hb8⟩;(try replace zg:=zg.ext (by first|exact .of_below hb8|exact((Ext.refl _).alloc _).below hb8|exact((Ext.refl _).alloc _).drew.below hb8)))|(go_at_call 156;refine(Zur 600 1 _ pg p1 kg k1 cg c1 _ zg z1).mono ?_;rintro e W9 ⟨rfl,hb9⟩))
 all_goals
  go_wp2
  go_ret
  exact⟨rfl,Zaa hB (Yai ‹_›)⟩
theorem Zea (z:Int) (w:World) (h1 : -9223372036854775808<=z) (h2:z<=9223372036854775807) :
  Calls Tryz.prog 234 #[.int .i64 z] w λe w'=>∃v,e=.returned v∧LgV 3 w' v z∧Below w.heap.size w w':=by
 obtain⟨sz,hsz⟩:∃sz,decide (z<0)=sz:=⟨_,rfl⟩
 go_enter Tryz.func234,Tryz.ntmps234
 go_wp2_with fail
 refine Zb3 λW hB hs b0=>?_;replace hsz:=Yah hsz;go_loopw [0,3] (λa v wr=>∃(k:Nat) (f:Nat->Int) (r:Int),a=.int .i64 r∧OwnF wr (w.heap.size+1) v k f∧Box wr w.heap.size 45 #[.bool false,.slice none 0 0]∧OfInv z r k f∧Below w.heap.size w wr∧w.heap.size+1<=wr.heap.size) (λa _ _=>(intOf a).natAbs)
 case atStart=>exact⟨0,_,z,rfl,OwnF.nil _ _ _,b0,OfInv.start z,hB,hs⟩
 case round=>
  clear b0 hB hs;obtain⟨k,f,r,rfl,ho,b0,hI,hB,hs⟩:=hrel;have hr:=hI.bound h1 h2;obtain⟨p,c,rfl⟩:=ho.shape;by_cases h0:r=0
  ·subst h0
   have hv:=hI.val;have hd:Digs f k:=⟨hI.lo,hI.hi,hI.top rfl⟩
   have hk3:k<=3:=by
    by_cases h:k<=3
    ·exact h
    ·have:=hd.ge Zo
     have h3:=Zbp (i:=3) (k:=k-1) Zo;have e3:pw 3=1000000000000000000000000000:=Zd;simp at hv;omega
   have hv':vf f k=z.natAbs:=by simpa using hv
   go_wp2_with fail
   refine(Zbm sz p k c f wr (ho.sl Zo) Zo hI.lo hI.hi).mono ?_;rintro e W1 ⟨v',rfl,ho2,d2,e2,hb⟩;replace b0:=b0.below hb;have hB1:=Zaa hB hb;have hneg:(sz&&decide (0<vf f k))=decide (z<0):=by
    rw[<-hsz.out,hv',Ycx];simp;omega
   rw[hneg];have hlg:=ho2.lg (z:=z) (m:=3) d2 (by rw[e2,hv']) (by have:=Za3 f k;omega) Zo;rw[hsz.out]at hlg ⊢;obtain⟨p',c',rfl⟩:=ho2.shape;have hw1:=hb.size;clear ho ho2 hb hneg hI hv hv' d2 e2 hB;go_wp2_with first|(refine Zab rfl 45 _ _ rfl w.heap.size 0 45 _ #[.bool sz,.slice p' (trimN f k) c'] #[.bool sz,.slice p' (trimN f k) c'] rfl rfl b0 Zae (Yaa rfl) (Zal _ _ _ _) (Zag rfl) ?_;intro W2 hk b2)
   have hb2:=hk.below hB1 Zo hB1.size;refine bodyPost_ret (b2.results rfl _ _ rfl Tryz.underlying45 rfl Zae) rfl ⟨_,rfl,hlg.ext (hk.ext b0 Zd),hb2⟩
  ·have hk:=hI.small h1 h2 h0
   have hst:=hI.step h0;have h0':(r != 0)=true:=by simpa using h0
   have hmm:(r.tmod 1000000000).natAbs<1000000000:=by rw[Ydy];exact Nat.mod_lt _ Zd
   have hm1 : -1000000000<r.tmod 1000000000:=Zo;have hm2:r.tmod 1000000000<1000000000:=Zo;have hdd:(r.tdiv 1000000000).natAbs=r.natAbs/1000000000:=by rw[Yfg];rfl
   have hw:wrap64 (r.tdiv 1000000000)=r.tdiv 1000000000:=by unfold wrap64;omega
   replace h0:=Yah h0;by_cases hneg:r.tmod 1000000000<0
   all_goals
    go_wp2_with (at_builtin;(refine Za9 _ rfl _ _ 43 rfl Tryz.underlying43 Zby (w.heap.size+1) (.slice p k c) k f rfl ?_ (some ⟨wr.heap.size,0,none⟩) 1 1 (λ_=>((r.tmod 1000000000).natAbs:Int)) rfl ?_ ?_ ?_ ?_);(exact(ho.below ((Yae _ _).alloc (Yab _) _)));(exact(Zjb wr _ _ Zo));omega;(simp;omega);(intro v' w1 ho' hg))
    obtain⟨p',c',rfl⟩:=ho'.shape;have hz:=((Yae (w.heap.size+1) wr).alloc hs (.cells _ 3)).grown hg (by simp;omega) (λk hk=>ho.low k hk);replace b0:=b0.low hz Zo;go_wp2
    go_roundw
    case rel=>
     refine⟨k+1,_,r.tdiv 1000000000,rfl,ho',b0,hst,hB.trans (hz.mono Zo),?_⟩;have:=hz.size;omega
    case measure=>
     have:=h0.out;show(r.tdiv 1000000000).natAbs<r.natAbs;rw[hdd];exact Nat.div_lt_self Zo Zd
end Go.Proofs.W
