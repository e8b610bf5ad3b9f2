/- Contracts of package paraxial,and a verified evaluator. Part 9 of 26. No condition beside the row. -/
import Derived.Test.YtpfpiecljfimjaaGreatDoorA02
import Derived.Test.YtpfpiecljfimjaaGreatDoorA03
import Derived.Test.YtpfpiecljfimjaaGreatDoorA04
import Derived.Test.YtpfpiecljfimjaaGreatDoorA06
import Derived.Test.YtpfpiecljfimjaaGreatDoorA07
import Derived.Test.YtpfpiecljfimjaaGreatDoorA08
set_option linter.unusedVariables false
set_option linter.unusedSimpArgs false
set_option maxRecDepth 100000
set_option maxHeartbeats 4000000
namespace Go.Mono
open Go.RowKit
def LgV (m:Nat) (w:World) (v:Value) (z:Int):Prop:=∃p n c f,v=.agg #[.bool (decide (z<0)),.slice p n c]∧SlF w (.slice p n c) n f∧Digs f n∧vf f n=z.natAbs∧n<=m
theorem LgV.ext {m:Nat} {w w':World} {v:Value} {z:Int} (h:LgV m w v z) (hx:Ext w w'):LgV m w' v z:=by
 obtain⟨p,n,c,f,hv,h1,h2⟩:=h;exact⟨p,n,c,f,hv,h1.ext hx,h2⟩
theorem LgV.below {m:Nat} {w w':World} {v:Value} {z:Int} (h:LgV m w v z) (hb:Below w.heap.size w w'):LgV m w' v z:=h.ext (.of_below hb)
theorem LgV.mono {m m':Nat} {w:World} {v:Value} {z:Int} (h:LgV m w v z) (hm:m<=m'):LgV m' w v z:=by
 obtain⟨p,n,c,f,hv,h1,h2,h3,h4⟩:=h;exact⟨p,n,c,f,hv,h1,h2,h3,Zo⟩
theorem LgV.tight {m k:Nat} {w:World} {v:Value} {z:Int} (h:LgV m w v z) (hz:(z.natAbs:Int)<pw k):LgV k w v z:=by
 obtain⟨p,n,c,f,hv,h1,h2,h3,h4⟩:=h;refine⟨p,n,c,f,hv,h1,h2,h3,?_⟩;by_cases hn:n=0
 ·omega
 have:=h2.ge Zo;by_cases hk:n<=k
 ·exact hk
 ·have:=Zbs (i:=k) (k:=n-1) Zo
  omega
theorem LgV.lt {m:Nat} {w:World} {v:Value} {z:Int} (h:LgV m w v z):(z.natAbs:Int)<pw m:=by
 obtain⟨p,n,c,f,hv,h1,h2,h3,h4⟩:=h;have:=h2.lt;have:=Zbs h4;omega
theorem Zwv {z y:Int} {n m:Nat} {f g:Nat->Int} (d1:Digs f n) (v1:vf f n=z.natAbs) (d2:Digs g m) (v2:vf g m=y.natAbs) :
  z=y↔(decide (z<0)=decide (y<0)∧n=m∧∀i,i<n->f i=g i):=by
 constructor
 ·rintro rfl
  obtain⟨rfl,h⟩:=d1.unique d2 Zo;exact⟨rfl,rfl,h⟩
 ·rintro⟨h1,rfl,h2⟩
  have e:=Zbi h2;have h3:(z<0↔y<0):=by simpa using h1
  omega
end Go.Mono
namespace Go.Proofs.W
open Go.RowKit Go.Mono
theorem Zpd (s t:Bool) (p q:Option Addr) (n m c1 c2:Nat) (f g:Nat->Int) (r:Bool) (w:World) (h1:SlF w (.slice p n c1) n f) (h2:SlF w (.slice q m c2) m g) (hr:Hid (r=true↔(s=t∧n=m∧∀i,i<n->f i=g i))) :
  Calls Tryz.prog 44 #[.agg #[.bool s,.slice p n c1],.agg #[.bool t,.slice q m c2]] w λe w'=>e=.returned (.bool r)∧Below w.heap.size w w':=by
 obtain⟨hc1,hn1,hx1⟩:=h1.opens;obtain⟨hc2,hn2,hx2⟩:=h2.opens;clear h1 h2;by_cases hst:s=t
 ·subst hst
  by_cases hnm:n=m
  ·subst hnm
   go_enter Tryz.func44,Tryz.ntmps44
   go_wp2
   refine Zd3 λW hB hs b0 b1=>?_;have cb0:=b0.cell;have lb0:=b0.lt;have fb0:=b0.frozen;have cb1:=b1.cell;have lb1:=b1.lt;have fb1:=b1.frozen;go_loopw [5] (λa wr=>∃i:Nat,i<=n∧a=.int .i64 (i:Int)∧(∀j,j<i->f j=g j)∧∃k,wr=W.drewN k) (λa _=>(n-intOf a).toNat)
   case atStart=>exact⟨0,Yat _,rfl,λj hj=>absurd hj (Nat.not_lt_zero _),0,rfl⟩
   case round=>
    obtain⟨i,hi,rfl,heq,k,rfl⟩:=hrel;replace heq:=Yah heq;by_cases hin:i<n
    ·obtain⟨b,off,rfl,hb,hcell⟩:=hx1 Zo
     obtain⟨b2,off2,rfl,hb2,hcell2⟩:=hx2 Zo;have a1:=(hB.cell (p:=⟨b,off+i,none⟩) hb).trans (hcell i hin);have a2:=(hB.cell (p:=⟨b2,off2+i,none⟩) hb2).trans (hcell2 i hin);have hin':(i:Int)<n:=Zo;clear hcell hcell2 hx1 hx2;by_cases hfg:f i=g i
     ·have hq:(f i != g i)=false:=by simpa using hfg
      replace hfg:=Yah hfg;go_wp2
      go_quiet (fail)
      go_wp2
      go_roundw
      case rel=>
       refine⟨i+1,Zo,Zs,λj hj=>?_,_,rfl⟩;by_cases hji:j=i
       ·subst hji;exact hfg.out
       ·exact heq.out j Zo
      case measure=>simp[intOf];omega
     ·have hq:(f i != g i)=true:=by simpa using hfg
      obtain rfl:r=false:=by
       rw[Bool.eq_false_iff];intro e;exact hfg ((hr.out.1 e).2.2 i hin)
      replace hfg:=Yah hfg;go_wp2
      go_quiet (fail)
      go_wp2
      go_ret
      exact⟨rfl,below_drewN (below_drewN hB _) _⟩
    ·obtain rfl:i=n:=by omega
     obtain rfl:r=true:=hr.out.2 ⟨by trivial,by trivial,heq.out⟩;clear hx1 hx2;go_wp2
     go_ret
     exact⟨rfl,below_drewN hB _⟩
  ·obtain rfl:r=false:=by
    rw[Bool.eq_false_iff];intro e;exact hnm (hr.out.1 e).2.1
   have hnm':((n:Int) != (m:Int))=true:=by simp;omega
   clear hx1 hx2;go_enter Tryz.func44,Tryz.ntmps44
   go_wp2
   go_ret
   exact⟨rfl,Zad (Zad (Yae _ _) _) _⟩
 ·obtain rfl:r=false:=by
   rw[Bool.eq_false_iff];intro e;exact hst (hr.out.1 e).1
  have hst':(s != t)=true:=by simpa using hst
  clear hx1 hx2;go_enter Tryz.func44,Tryz.ntmps44
  go_wp2
  go_ret
  exact⟨rfl,Zad (Zad (Yae _ _) _) _⟩
theorem Ze4 {m1 m2:Nat} {v1 v2:Value} {z y:Int} (w:World) (h1:LgV m1 w v1 z) (h2:LgV m2 w v2 y) :
  Calls Tryz.prog 44 #[v1,v2] w λe w'=>e=.returned (.bool (decide (z=y)))∧Below w.heap.size w w':=by
 obtain⟨p,n,c,f,rfl,s1,d1,e1,_⟩:=h1;obtain⟨q,m,c',g,rfl,s2,d2,e2,_⟩:=h2;refine Zpd _ _ p q n m c c' f g _ w s1 s2 (Yah ?_);rw[decide_eq_true_eq];exact Zwv d1 e1 d2 e2
end Go.Proofs.W
namespace Go.Mono
theorem Ztw (q:Rat):gcdZ q.num.natAbs q.den=1:=by
 have:=q.reduced;simp only[gcdZ,Ycb];rw[this.gcd_eq_one];rfl
end Go.Mono
namespace Go.Proofs.W
open Go.RowKit Go.Mono
theorem Ztx (m1 m2:Nat) (w:World) (p q:Option Addr) (n m c1 c2:Nat) (N:Int) (h1:Sz m1 w (.slice p n c1) N) (h2:Sz m2 w (.slice q m c2) N) :
  Calls Tryz.prog 132 #[.slice p n c1,.slice q m c2] w λe w'=>e=.returned (.int .i64 0)∧Below w.heap.size w w':=by
 refine(Zj3 m1 m2 w w (Ext.refl _) p q n m c1 c2 N N h1 h2).mono ?_;rintro e w' ⟨c,⟨rfl,k,rfl⟩,_,hc⟩;obtain rfl:=hc.2 rfl;exact⟨rfl,below_drewN (Yae _ _) k⟩
theorem Zgp (v:Value) (q:Rat) (w wf:World) (hx:Ext wf w) (h:QV wf v q) :
  Calls Tryz.prog 87 #[v] w λe w'=>e=.returned (.int .i64 0)∧Below w.heap.size w w':=by
 replace h:=h.ext hx;clear hx;obtain⟨p,k,c,p',k',c',rfl,h1,h2⟩:=h;have hden:0<k':=h2.len_pos.1 (by have:=Yck q.den_nz;omega);have hneg:decide (q.num<0)=true->(0:Int)<q.num.natAbs:=by intro h;simp at h;omega
 have hone:=Ztw q;have hf0:∀w:World,(Instr.field 174 (.agg #[.bool (decide (q.num<0)),.slice p k c,.slice p' k' c']) 0).run Tryz.prog w=.ok (.agg #[.bool (decide (q.num<0)),.slice p k c]) w:=λ_=>Zk;have hf1:∀w:World,(Instr.field 172 (.agg #[.bool (decide (q.num<0)),.slice p k c]) 1).run Tryz.prog w=.ok (.slice p k c) w:=λ_=>Zk;go_enter Tryz.func87,Tryz.ntmps87
 go_wp2_with fail
 refine Zb1 λW hB hs b0=>?_;replace h1:=h1.ext (.of_below hB);replace h2:=h2.ext (.of_below hB);have cb0:=b0.cell;have lb0:=b0.lt;have fb0:=b0.frozen;have hne:((k':Int)==0)=false:=by simp;omega
 go_region_held3 (λw'=>(∀b o,b<W.heap.size->w'.cell? ⟨b,o,none⟩=W.cell? ⟨b,o,none⟩)∧Below W.heap.size W w') ((refine Za1 ?_;first|exact(Yae _ _).drew|(repeat' (first|exact Yai ‹_› | exact Zaa (Yai ‹_›) ‹_› | exact Zad (Yai ‹_›) _|exact Zad ‹_› _|refine Zag ?_ Zo _ _)))) (first|(go_at_call 129;(with_reducible refine(Zc7 _ p k c _ _ W (.of_below (Yai ‹_›)) h1 hneg).mono ?_);rintro e W4 ⟨rfl,hb4⟩)|(go_at_call 129;(with_reducible refine(Zc7 _ p' k' c' _ _ W (.of_below (Yai ‹_›)) h2 Zs).mono ?_);rintro e W5 ⟨rfl,hb5⟩)|(go_at_call 130;refine(Zip _ _ p p' k c k' c' _).mono ?_;rintro e W6 ⟨rfl,hb6⟩)|(go_at_call 131;refine(Zei 600 _ W (.of_below (Yai ‹_›)) p p' k k' c c' _ _ h1 h2 Zo).mono ?_;rintro e W7 ⟨pg,kg,cg,rfl,zg,hb7⟩;rw[hone]at zg;(try replace z1:=z1.ext (by first|exact .of_below hb7|exact((Ext.refl _).alloc _).below hb7|exact((Ext.refl _).alloc _).drew.below hb7)))|(go_at_call 133;refine(Zxv _).mono ?_;rintro e W8 ⟨p1,k1,c1,rfl,z1,hb8⟩;(try replace zg:=zg.ext (by first|exact .of_below hb8|exact((Ext.refl _).alloc _).below hb8|exact((Ext.refl _).alloc _).drew.below hb8)))|(go_at_call 132;refine(Ztx 600 1 _ pg p1 kg k1 cg c1 _ zg z1).mono ?_;rintro e W9 ⟨rfl,hb9⟩))
 all_goals
  go_wp2
  go_ret
  exact⟨rfl,Zaa hB (Yai ‹_›)⟩
end Go.Proofs.W
namespace Go.Mono
open Go.RowKit
theorem LgV.cells {m:Nat} {w:World} {v:Value} {z:Int} (h:LgV m w v z):∃C:Array Value,v=.agg C∧C.size=2∧C.all (·.oneCell')=true:=by
 obtain⟨p,n,c,f,rfl,_⟩:=h;exact⟨_,rfl,rfl,by simp[Value.oneCell']⟩
theorem OwnF.lg {w:World} {base:Nat} {v:Value} {n m:Nat} {f:Nat->Int} {z:Int} (h:OwnF w base v n f) (hd:Digs f n) (hv:vf f n=z.natAbs) (hm:n<=m) (hm6:m<=1000000):LgV m w (.agg #[.bool (decide (z<0)),v]) z:=by
 obtain⟨p,c,rfl⟩:=h.shape;exact⟨p,n,c,f,rfl,h.sl Zo,hd,hv,hm⟩
theorem Zct {z:Int} (h1 : -9223372036854775808<=z) (h2:z<=9223372036854775807):IntKind.i64.wrap z=z:=by
 simp[IntKind.wrap,IntKind.signed,IntKind.bits];omega
theorem Zal (b:Bool) (p:Option Addr) (n c:Nat):(#[.bool b,.slice p n c]:Array Value).all (·.oneCell')=true:=by simp[Value.oneCell']
end Go.Mono
namespace Go.Proofs.W
open Go.RowKit Go.Mono
theorem Zfo {m:Nat} {v:Value} {z:Int} (w:World) (h:LgV m w v z) (hm:m<=100000) :
  Calls Tryz.prog 174 #[v] w λe w'=>∃v',e=.returned v'∧LgV m w' v' (-z)∧Below w.heap.size w w':=by
 obtain⟨p,n,c,f,rfl,s1,d1,e1,l1⟩:=h;have hb1:(!decide (z<0))=decide (0<=z):=by
  rw[Ycx];simp
 have hsg:(decide (0<=z)&&decide (0<vf f n))=decide (-z<0):=by
  rw[Ycx];simp;omega
 rw[e1]at hsg;generalize decide (z<0)=sz at *;go_enter Tryz.func174,Tryz.ntmps174
 go_wp2_with fail
 refine Zbj λW hB hs b0 b1=>?_;refine(Zbo _ p n c f W (s1.ext (.of_below hB)) Zo d1.lo d1.hi).mono ?_;rintro e W1 ⟨v',rfl,ho,d2,e2,hb⟩;replace b1:=b1.below hb;replace hB:=Zaa hB hb;rw[e1,hsg];have hlg:=ho.lg (z:=-z) (m:=m) d2 (by rw[e2,e1,Int.natAbs_neg]) (by have:=Za3 f n;omega) Zo;generalize decide (-z<0)=ng at *;obtain⟨p',c',rfl⟩:=ho.shape;clear ho hb b0 hsg;go_wp2_with first|(refine Zab rfl 49 _ _ rfl (w.heap.size+1) 0 49 _ #[.bool ng,.slice p' (trimN f n) c'] #[.bool ng,.slice p' (trimN f n) c'] rfl rfl b1 Zae (Yaa rfl) (Zal _ _ _ _) (Zaf rfl) ?_;intro W2 hk b2)
 have hb2:=hk.below hB Zo hB.size;refine bodyPost_ret (b2.results rfl _ _ rfl Tryz.underlying49 rfl Zae) rfl ⟨_,rfl,hlg.ext (hk.ext b1 Zd),hb2⟩
theorem Zqj (a b:Rat) (s1 t1 s2 t2:Bool) (p1 q1 p2 q2:Option Addr) (k1 c1 l1 d1 k2 c2 l2 d2 g:Nat) (w:World)
  (h:Box w g 51 #[.bool s1,.slice p1 k1 c1,.bool t1,.slice q1 l1 d1,.bool s2,.slice p2 k2 c2,.bool t2,.slice q2 l2 d2])
  (ha:QV w (.agg #[.bool s1,.slice p1 k1 c1,.bool t1,.slice q1 l1 d1]) a) (hb:QV w (.agg #[.bool s2,.slice p2 k2 c2,.bool t2,.slice q2 l2 d2]) b) :
  Calls Tryz.prog 101 #[.slice (some ⟨g,0,none⟩) 2 2] w λe w'=>e=.returned (.int .i64 0)∧Below w.heap.size w w':=by
 go_enter Tryz.func101,Tryz.ntmps101
 go_wp2
 go_loopw [8] (λx wr=>∃i:Nat,i<=2∧x=.int .i64 (i:Int)∧Below w.heap.size w wr) (λx _=>(2-intOf x).toNat)
 case atStart=>exact⟨0,Zo,rfl,Yae _ _⟩
 case round=>
  obtain⟨i,hi,rfl,hB⟩:=hrel;replace h:=h.below hB;have ch:=h.cell;have fh:=h.frozen;have lh:=h.lt;replace ha:=ha.ext (.of_below hB);replace hb:=hb.ext (.of_below hB);rcases(by omega:i=0∨i=1∨i=2) with rfl|rfl|rfl
  ·go_wp2_with (go_at_call 87;(with_reducible refine(Zgp _ a _ _ ((Ext.refl wr).alloc _) ha).mono ?_);rintro e W4 ⟨rfl,hb4⟩)
   go_roundw
   case rel=>exact⟨1,Zo,Zs,Zaa (Zad hB _) hb4⟩
   case measure=>simp[intOf]
  ·go_wp2_with (go_at_call 87;(with_reducible refine(Zgp _ b _ _ ((Ext.refl wr).alloc _) hb).mono ?_);rintro e W4 ⟨rfl,hb4⟩)
   go_roundw
   case rel=>exact⟨2,Zo,Zs,Zaa (Zad hB _) hb4⟩
   case measure=>simp[intOf]
  ·go_wp2
   go_ret
   exact⟨rfl,hB⟩
theorem Zra (w:World):Sz 600 w (.slice none 0 0) 0:=⟨0,λ_=>0,.inl ⟨rfl,rfl⟩,⟨λi hi=>Zo,λi hi=>Zo,λh=>Zo⟩,rfl,Zo⟩
theorem Zrb (w:World):Calls Tryz.prog 87 #[.agg #[.bool false,.slice none 0 0,.bool false,.slice none 0 0]] w λe w'=>e=.returned (.int .i64 40)∧Below w.heap.size w w':=by
 go_enter Tryz.func87,Tryz.ntmps87
 go_wp2_with fail
 refine Zb1 λW hB hs b0=>?_;have cb0:=b0.cell;have lb0:=b0.lt;have fb0:=b0.frozen;refine wp_region_held_drew (S:=λw'=>(∀b o,b<W.heap.size->w'.cell? ⟨b,o,none⟩=W.cell? ⟨b,o,none⟩)∧Below W.heap.size W w') Zk (Za1 (Yae _ _).drew) (λhHeld=>?_);refine tk 0 (some 3) ?_;refine tk 1 (some 4) ?_;refine Mono.st 2 ?_;intro K hK;go_simp
 (refine(Zc7 _ _ _ _ _ _ _ (Ext.refl _) (Zra _) Zs).mono ?_;rintro e W4 ⟨rfl,hb4⟩)
 refine kp hK (Za1 (Zaa hHeld.2 hb4)) (λhHeld=>?_);clear hK K;refine tk 3 (some 6) ?_;refine tk 4 (some 7) ?_;refine tk 5 (some 8) ?_;refine tk 6 (some 9) ?_;refine Mono.st 7 ?_;intro K hK;go_simp
 (refine(Zc7 _ _ _ _ _ _ _ (Ext.refl _) (Zra _) Zs).mono ?_;rintro e W5 ⟨rfl,hb5⟩)
 refine kp hK (Za1 (Zaa hHeld.2 hb5)) (λhHeld=>?_);clear hK K;refine tk 8 (some 11) ?_;refine tk 9 (some 12) ?_;refine tk 10 (some 13) ?_;refine tk 11 (some 14) ?_;refine tk 12 (some 15) ?_;refine tk 13 (some 16) ?_;refine tk 14 (some 17) ?_;refine tk 15 (some 18) ?_;refine tk 16 (some 19) ?_;refine tk 17 (some 20) ?_;refine tk 18 (some 21) ?_;refine tk 19 (some 22) ?_;refine tk 20 (some 23) ?_;refine tk 21 (some 24) ?_;refine tk 22 (some 25) ?_;refine ts 23 (some 26) ?_;refine ts 24 (some 27) ?_;refine ts 25 (some 28) ?_;refine ts 26 (some 29) ?_;refine ts 27 (some 30) ?_;refine ts 28 (some 31) ?_;refine ts 29 (some 32) ?_;refine ts 30 (some 33) ?_;refine ts 31 (some 34) ?_;refine ts 32 (some 35) ?_;refine ts 33 (some 36) ?_;refine tk 34 (some 37) ?_;refine wpAnyH_done Zk ?_ _;go_wp2
 go_ret
 exact⟨rfl,Zaa hB hHeld.2⟩
theorem Zea (z:Int) (w:World) (h1 : -9223372036854775808<=z) (h2:z<=9223372036854775807) :
  Calls Tryz.prog 128 #[.int .i64 z] w λe w'=>∃v,e=.returned v∧LgV 3 w' v z∧Below w.heap.size w w':=by
 obtain⟨sz,hsz⟩:∃sz,decide (z<0)=sz:=⟨_,rfl⟩
 go_enter Tryz.func128,Tryz.ntmps128
 go_wp2_with fail
 refine Zb1 λW hB hs b0=>?_;replace hsz:=Yah hsz;go_loopw [0,3] (λa v wr=>∃(k:Nat) (f:Nat->Int) (r:Int),a=.int .i64 r∧OwnF wr (w.heap.size+1) v k f∧Box wr w.heap.size 49 #[.bool false,.slice none 0 0]∧OfInv z r k f∧Below w.heap.size w wr∧w.heap.size+1<=wr.heap.size) (λa _ _=>(intOf a).natAbs)
 case atStart=>exact⟨0,_,z,rfl,OwnF.nil _ _ _,b0,OfInv.start z,hB,hs⟩
 case round=>
  clear b0 hB hs;obtain⟨k,f,r,rfl,ho,b0,hI,hB,hs⟩:=hrel;have hr:=hI.bound h1 h2;obtain⟨p,c,rfl⟩:=ho.shape;by_cases h0:r=0
  ·subst h0
   have hv:=hI.val;have hd:Digs f k:=⟨hI.lo,hI.hi,hI.top rfl⟩
   have hk3:k<=3:=by
    by_cases h:k<=3
    ·exact h
    ·have:=hd.ge Zo
     have h3:=Zbs (i:=3) (k:=k-1) Zo;have e3:pw 3=1000000000000000000000000000:=Zd;simp at hv;omega
   have hv':vf f k=z.natAbs:=by simpa using hv
   go_wp2_with fail
   refine(Zbo sz p k c f wr (ho.sl Zo) Zo hI.lo hI.hi).mono ?_;rintro e W1 ⟨v',rfl,ho2,d2,e2,hb⟩;replace b0:=b0.below hb;have hB1:=Zaa hB hb;have hneg:(sz&&decide (0<vf f k))=decide (z<0):=by
    rw[<-hsz.out,hv',Ycx];simp;omega
   rw[hneg];have hlg:=ho2.lg (z:=z) (m:=3) d2 (by rw[e2,hv']) (by have:=Za3 f k;omega) Zo;rw[hsz.out]at hlg ⊢;obtain⟨p',c',rfl⟩:=ho2.shape;have hw1:=hb.size;clear ho ho2 hb hneg hI hv hv' d2 e2 hB;go_wp2_with first|(refine Zab rfl 49 _ _ rfl w.heap.size 0 49 _ #[.bool sz,.slice p' (trimN f k) c'] #[.bool sz,.slice p' (trimN f k) c'] rfl rfl b0 Zae (Yaa rfl) (Zal _ _ _ _) (Zaf rfl) ?_;intro W2 hk b2)
   have hb2:=hk.below hB1 Zo hB1.size;refine bodyPost_ret (b2.results rfl _ _ rfl Tryz.underlying49 rfl Zae) rfl ⟨_,rfl,hlg.ext (hk.ext b0 Zd),hb2⟩
  ·have hk:=hI.small h1 h2 h0
   have hst:=hI.step h0;have h0':(r != 0)=true:=by simpa using h0
   have hmm:(r.tmod 1000000000).natAbs<1000000000:=by rw[Ydy];exact Nat.mod_lt _ Zd
   have hm1 : -1000000000<r.tmod 1000000000:=Zo;have hm2:r.tmod 1000000000<1000000000:=Zo;have hdd:(r.tdiv 1000000000).natAbs=r.natAbs/1000000000:=by rw[Yfg];rfl
   have hw:wrap64 (r.tdiv 1000000000)=r.tdiv 1000000000:=by unfold wrap64;omega
   replace h0:=Yah h0;by_cases hneg:r.tmod 1000000000<0
   all_goals
    go_wp2_with (at_builtin;(refine Za9 _ rfl _ _ 47 rfl Tryz.underlying47 Zby (w.heap.size+1) (.slice p k c) k f rfl ?_ (some ⟨wr.heap.size,0,none⟩) 1 1 (λ_=>((r.tmod 1000000000).natAbs:Int)) rfl ?_ ?_ ?_ ?_);(exact(ho.below ((Yae _ _).alloc (Yab _) _)));(exact(Zir wr _ _ Zo));omega;(simp;omega);(intro v' w1 ho' hg))
    obtain⟨p',c',rfl⟩:=ho'.shape;have hz:=((Yae (w.heap.size+1) wr).alloc hs (.cells _ 3)).grown hg (by simp;omega) (λk hk=>ho.low k hk);replace b0:=b0.low hz Zo;go_wp2
    go_roundw
    case rel=>
     refine⟨k+1,_,r.tdiv 1000000000,rfl,ho',b0,hst,hB.trans (hz.mono Zo),?_⟩;have:=hz.size;omega
    case measure=>
     have:=h0.out;show(r.tdiv 1000000000).natAbs<r.natAbs;rw[hdd];exact Nat.div_lt_self Zo Zd
theorem Zk1 (s:Bool) (p q:Option Addr) (n m c1 c2:Nat) (f g:Nat->Int) (w:World) (h1:SlF w (.slice p n c1) n f) (h2:SlF w (.slice q m c2) m g) (d1:Digs f n) (d2:Digs g m) (hn0:0<n) (hm0:0<m) (hn6:n<=100000) (hm6:m<=100000) :
  Calls Tryz.prog 173 #[.agg #[.bool s,.slice p n c1],.agg #[.bool s,.slice q m c2]] w λe w'=>∃p k c h,e=.returned (.agg #[.bool s,.slice p k c])∧SlF w' (.slice p k c) k h∧Digs h k∧vf h k=vf f n+vf g m∧k<=max n m+1∧Below w.heap.size w w':=by
 obtain⟨hc1,hn1,_⟩:=h1.opens;obtain⟨hc2,hn2,_⟩:=h2.opens;have hn0':((n:Int)==0)=false:=by simp;omega
 have hm0':((m:Int)==0)=false:=by simp;omega
 go_enter Tryz.func173,Tryz.ntmps173
 go_wp2
 refine Zfv λW hB hs b0 b1 b2=>?_;go_loopw [5,6,7] (λv x y wr=>∃(i:Nat) (c:Int) (h:Nat->Int),i<=max n m+1∧x=.int .i64 c∧y=.int .i64 (i:Int)∧OwnF wr (w.heap.size+1+1+1) v i h∧SumI (xt f n) (xt g m) i h c∧Box wr w.heap.size 49 #[.bool s,.slice p n c1]∧Box wr (w.heap.size+1) 49 #[.bool s,.slice q m c2]∧Box wr (w.heap.size+1+1) 49 #[.bool false,.slice none 0 0]∧Below w.heap.size w wr∧w.heap.size+1+1+1<=wr.heap.size) (λ_ _ y _=>(max n m+1-intOf y).toNat)
 case atStart=>exact⟨0,0,_,Yat _,rfl,rfl,OwnF.nil _ _ _,SumI.start _ _ (λ_=>0),b0,b1,b2,hB,hs⟩
 case round=>
  clear b0 b1 b2 hB hs;obtain⟨i,c,h,hi,rfl,rfl,ho,hI,b0,b1,b2,hB,hs⟩:=hrel;obtain⟨pv,cv,rfl⟩:=ho.shape;by_cases hgo:i<n∨i<m∨0<c
  ·have hlt:i<max n m+1:=by
    rcases hgo with h|h|h
    ·omega
    ·omega
    ·by_cases hin : i < n
     ·omega
     ·by_cases him:i<m
      ·omega
      ·have:=hI.len d1.hi d2.hi Zo Zo h
       omega
   have x0:=Zjd d1.lo i;have x1:=Zo8 d1.hi i;have y0:=Zjd d2.lo i;have y1:=Zo8 d2.hi i;have hat1:=λX (hX:Below w.heap.size w X)=>Zfn p n c1 i f X (h1.ext (.of_below hX));have hat2:=λX (hX:Below w.heap.size w X)=>Zfn q m c2 i g X (h2.ext (.of_below hX));have hnx:=hI.next x0 x1 y0 y1;have k0:=hI.c0;have k1:=hI.c1;generalize hX:xt f n=Xf at *;generalize hY:xt g m=Yf at *;generalize Xf i=x at *;generalize Yf i=y at *;have hways:((i:Int)<n)∨(¬(i:Int)<n∧(i:Int)<m)∨(¬(i:Int)<n∧¬(i:Int)<m∧0<c):=Zo;have cb0:=b0.cell;have lb0:=b0.lt;have fb0:=b0.frozen;have cb1:=b1.cell;have lb1:=b1.lt;have fb1:=b1.frozen;clear hgo;rcases hways with hw1|⟨hw1,hw2⟩|⟨hw1,hw2,hw3⟩
   all_goals
    go_wp2
    refine wp_region_held_drew (S:=λw'=>(∀i,w'.cell? ⟨w.heap.size,i,none⟩=(#[.bool s,.slice p n c1]:Array Value)[i]?)∧(∀i,w'.cell? ⟨w.heap.size+1,i,none⟩=(#[.bool s,.slice q m c2]:Array Value)[i]?)∧Below w.heap.size w w') Zx ⟨cb0,cb1,hB.drew⟩ (λhHeld=>?_);have hoX:=ho.below (Yae wr.heap.size wr).drew;have bX0:=b0.drew;have bX1:=b1.drew;have bX2:=b2.drew;have hsX:w.heap.size+1+1+1<=wr.drew.heap.size:=hs;generalize wr.drew=X0 at *;refine tk 0 (some 46) ?_;refine tk 1 (some 47) ?_;refine tk 2 (some 48) ?_;refine tk 4 (some 50) ?_;refine tk 5 (some 51) ?_;refine tk 6 (some 52) ?_;refine tk 9 (some 55) ?_;refine Mono.stc 3 (some 49) (hat1 X0 hHeld.2.2) (λe X1 hR=>?_);obtain⟨rfl,rfl⟩:=hR;refine⟨(hHeld),λhHeld=>Mono.pt ?_⟩;refine Mono.stc 7 (some 53) (hat2 X1 hHeld.2.2) (λe X2 hR=>?_);obtain⟨rfl,rfl⟩:=hR;refine⟨(hHeld),λhHeld=>Mono.pt ?_⟩;refine tk 8 (some 54) ?_;refine tk 10 (some 56) ?_;refine tk 11 (some 8) ?_;refine wpAnyH_done Zx ?_ _;have hB2:=hHeld.2.2;clear hHeld hat1 hat2 cb0 cb1 fb0 fb1 lb0 lb1 b0 b1 b2 ho hI;have e1:(x+y+c).tmod 1000000000=(x+y+c)%1000000000:=Ybr Zo;have e2:(x+y+c).tdiv 1000000000=(x+y+c)/1000000000:=Ybk Zo;rw[Zct (z:=x+y) Zo Zo,Zct (z:=x+y+c) Zo Zo];go_wp2_with (at_builtin;(refine Za9 _ rfl _ _ 47 rfl Tryz.underlying47 Zby (w.heap.size+1+1+1) (.slice pv i cv) i h rfl ?_ (some ⟨X2.heap.size,0,none⟩) 1 1 (λ_=>(x+y+c)%1000000000) rfl ?_ ?_ ?_ ?_);(exact(hoX.below (Zad (Yae _ _) _)));(exact(Zir X2 _ _ rfl));omega;(simp;omega);(intro v' w1 ho' hg))
    obtain⟨p',c',rfl⟩:=ho'.shape;have hz:=((Yae (w.heap.size+1+1+1) X2).alloc hsX (.cells _ 3)).grown hg (by simp;omega) (λk hk=>hoX.low k hk);replace bX0:=bX0.low hz Zo;replace bX1:=bX1.low hz Zo;replace bX2:=bX2.low hz Zo;have hB3:=hB2.trans (hz.mono Zo);have hs3:=hz.size;clear hoX hB2 hg hz hB hs;go_wp2
    go_roundw
    case rel=>
     refine⟨i+1,_,_,hlt,rfl,Zs,ho'.congr (f':=λj=>if j=i then(x+y+c)%1000000000 else h j) (λj hj=>?_),?_,bX0,bX1,bX2,hB3,Zo⟩
     ·by_cases hji:j=i
      ·subst hji;simp
      ·rw[if_pos Zo,if_neg hji]
     ·exact hnx
    case measure=>simp[intOf];omega
  ·have hI0:SumI (xt f n) (xt g m) i h 0:=by
    have h0:=hI.c0;obtain rfl:c=0:=Zo;exact hI
   have hval:=hI0.done Zo Zo;have hc0:¬(0<c):=Zo;have hw1:¬(i:Int)<n:=Zo;have hw2:¬(i:Int)<m:=Zo;have cb0:=b0.cell;have lb0:=b0.lt;have fb0:=b0.frozen;have cb1:=b1.cell;have lb1:=b1.lt;have fb1:=b1.frozen;have hmm:=λW1 hW1=>Zbo s pv i cv h W1 ((ho.sl Zo).ext hW1) Zo hI.lo hI.hi;have hpos:decide (0<vf h i)=true:=decide_eq_true (by rw[hval];have:=d1.pos.2 hn0;have:=d2.nonneg;omega);rw[hpos,Bool.and_true]at hmm;have hli:i<=max n m+1:=hi;replace hval:=Yah hval;clear hgo hI hI0 ho;go_wp2_with fail
   refine(hmm wr (Ext.refl _)).mono ?_;rintro e W1 ⟨v',rfl,ho2,d3,e3,hb⟩;replace b2:=b2.below hb;have hB1:=Zaa hB hb;obtain⟨p',c',rfl⟩:=ho2.shape;have hsl:=ho2.sl (by have:=Za3 h i;omega);clear hmm ho2 b0 b1 cb0 cb1 fb0 fb1 lb0 lb1 hB;go_wp2_with first|(refine Zab rfl 49 _ _ rfl (w.heap.size+1+1) 0 49 _ #[.bool s,.slice p' (trimN h i) c'] #[.bool s,.slice p' (trimN h i) c'] rfl rfl b2 Zae (Yaa rfl) (Zal _ _ _ _) (Zaf rfl) ?_;intro W2 hk b4)
   have hb2:=hk.below hB1 Zo hB1.size;refine bodyPost_ret (b4.results rfl _ _ rfl Tryz.underlying49 rfl Zae) rfl ⟨p',_,c',h,rfl,hsl.ext (hk.ext b2 Zd),d3,by rw[e3];exact hval.out,by have:=Za3 h i;omega,hb2⟩
theorem Zjg (s:Bool) (p q:Option Addr) (n m c1 c2:Nat) (f g:Nat->Int) (w:World) (h1:SlF w (.slice p n c1) n f) (h2:SlF w (.slice q m c2) m g) (d1:Digs f n) (d2:Digs g m) (hn0:0<n) (hm0:0<m) (hn6:n<=100000) (hge:vf g m<=vf f n) :
  Calls Tryz.prog 206 #[.agg #[.bool s,.slice p n c1],.agg #[.bool s,.slice q m c2]] w λe w'=>∃p k c h,e=.returned (.agg #[.bool (s&&decide (0<vf f n-vf g m)),.slice p k c])∧SlF w' (.slice p k c) k h∧Digs h k∧vf h k=vf f n-vf g m∧k<=n∧Below w.heap.size w w':=by
 obtain⟨hc1,hn1,hx1⟩:=h1.opens;obtain⟨hc2,hn2,_⟩:=h2.opens;have hmn:m<=n:=d2.len_le d1 hge;have hn0':((n:Int)==0)=false:=by simp;omega
 have hm0':((m:Int)==0)=false:=by simp;omega
 have hless:=λ(W:World) (hW:Below w.heap.size w W)=>Ze3 p q n m c1 c2 f g W (h1.ext (.of_below hW)) (h2.ext (.of_below hW)) d1 d2;rw[decide_eq_false Zo]at hless;obtain⟨sg,hsg⟩:∃sg:Bool,(s&&decide (0<vf f n-vf g m))=sg:=⟨_,rfl⟩
 rw[hsg];go_enter Tryz.func206,Tryz.ntmps206
 go_wp2_with fail
 refine Zbk λW hB hs b0 b1 b2=>?_;refine(hless W hB).mono ?_;rintro e Wl ⟨rfl,kl,rfl⟩;have hBl:=below_drewN hB kl;replace b0:Box (W.drewN kl) w.heap.size 49 #[.bool s,.slice p n c1]:=⟨b0.blk⟩
 replace b1:Box (W.drewN kl) (w.heap.size+1) 49 #[.bool s,.slice q m c2]:=⟨b1.blk⟩
 replace b2:Box (W.drewN kl) (w.heap.size+1+1) 49 #[.bool false,.slice none 0 0]:=⟨b2.blk⟩
 have hsl:w.heap.size+1+1+1<=(W.drewN kl).heap.size:=hs;clear hless hB hs;generalize W.drewN kl=V at *;go_wp2
 go_loopw [5,6,7] (λv x y wr=>∃(i:Nat) (c:Int) (h:Nat->Int),i<=n∧x=.int .i64 c∧y=.int .i64 (i:Int)∧OwnF wr (w.heap.size+1+1+1) v i h∧DifI f (xt g m) i h c∧Box wr w.heap.size 49 #[.bool s,.slice p n c1]∧Box wr (w.heap.size+1) 49 #[.bool s,.slice q m c2]∧Box wr (w.heap.size+1+1) 49 #[.bool false,.slice none 0 0]∧Below w.heap.size w wr∧w.heap.size+1+1+1<=wr.heap.size) (λ_ _ y _=>(n-intOf y).toNat)
 case atStart=>exact⟨0,0,_,Yat _,rfl,rfl,OwnF.nil _ _ _,DifI.start _ _ (λ_=>0),b0,b1,b2,hBl,hsl⟩
 case round=>
  clear b0 b1 b2 hBl hsl;obtain⟨i,c,h,hi,rfl,rfl,ho,hI,b0,b1,b2,hB,hs⟩:=hrel;obtain⟨pv,cv,rfl⟩:=ho.shape;by_cases hlt:i<n
  ·have hlt':(i:Int)<n:=by omega
   obtain⟨b,off,rfl,hb,hcell⟩:=hx1 hn0;have hci:=hcell i hlt;have x0:=d1.lo i hlt;have x1:=d1.hi i hlt;have y0:=Zjd d2.lo i;have y1:=Zo8 d2.hi i;have hat2:=λX (hX:Below w.heap.size w X)=>Zfn q m c2 i g X (h2.ext (.of_below hX));have hbel:=λe=>hI.below x0 y1 e;have habo:=λe=>hI.above x1 y0 e;have k0:=hI.c0;have k1:=hI.c1;generalize hX:f i=x at *;generalize hY:xt g m i=y at *;have cb0:=b0.cell;have lb0:=b0.lt;have fb0:=b0.frozen;have cb1:=b1.cell;have lb1:=b1.lt;have fb1:=b1.frozen;have hck:∀w',Below w.heap.size w w'->w'.cell? ⟨b,off+i,none⟩=some (.int .i64 x):=λw' hw'=>(hw'.cell (p:=⟨b,off+i,none⟩) hb).trans hci;clear hcell hci hI;by_cases hneg:x-y-c<0
   all_goals
    go_wp2
    refine wp_region_held_drew (S:=λw'=>(∀i,w'.cell? ⟨w.heap.size,i,none⟩=(#[.bool s,.slice (some ⟨b,off,none⟩) n c1]:Array Value)[i]?)∧(∀i,w'.cell? ⟨w.heap.size+1,i,none⟩=(#[.bool s,.slice q m c2]:Array Value)[i]?)∧w'.cell? ⟨b,off+i,none⟩=some (.int .i64 x)∧Below w.heap.size w w') Zx ⟨cb0,cb1,hck _ hB.drew,hB.drew⟩ (λhHeld=>?_);have hoX:=ho.below (Yae wr.heap.size wr).drew;have bX0:=b0.drew;have bX1:=b1.drew;have bX2:=b2.drew;have hsX:w.heap.size+1+1+1<=wr.drew.heap.size:=hs;generalize wr.drew=X0 at *;refine tk 0 (some 45) ?_;refine tk 1 (some 46) ?_;refine tk 2 (some 47) ?_;refine tk 3 (some 48) ?_;refine tk 4 (some 49) ?_;refine tk 5 (some 50) ?_;refine tk 6 (some 51) ?_;refine tk 7 (some 52) ?_;refine tk 10 (some 55) ?_;refine Mono.stc 8 (some 53) (hat2 X0 hHeld.2.2.2) (λe X2 hR=>?_);obtain⟨rfl,rfl⟩:=hR;refine⟨(hHeld),λhHeld=>Mono.pt ?_⟩;refine tk 9 (some 54) ?_;refine tk 11 (some 56) ?_;refine tk 12 (some 8) ?_;refine wpAnyH_done Zx ?_ _;have hB2:=hHeld.2.2.2;clear hHeld hat2 cb0 cb1 fb0 fb1 lb0 lb1 b0 b1 b2 ho hck;rw[Zct (z:=x-y) Zo Zo,Zct (z:=x-y-c) Zo Zo];go_wp2_with (at_builtin;(refine Za9 _ rfl _ _ 47 rfl Tryz.underlying47 Zby (w.heap.size+1+1+1) (.slice pv i cv) i h rfl ?_ (some ⟨X2.heap.size,0,none⟩) 1 1 (λ_=>if x-y-c<0 then x-y-c+1000000000 else x-y-c) rfl ?_ ?_ ?_ ?_);(exact(hoX.below (Zad (Yae _ _) _)));(exact(Zir X2 _ _ (by split<;>omega)));omega;(simp;omega);(intro v' w1 ho' hg))
    obtain⟨p',c',rfl⟩:=ho'.shape;have hz:=((Yae (w.heap.size+1+1+1) X2).alloc hsX (.cells _ 3)).grown hg (by simp;omega) (λk hk=>hoX.low k hk);replace bX0:=bX0.low hz Zo;replace bX1:=bX1.low hz Zo;replace bX2:=bX2.low hz Zo;have hB3:=hB2.trans (hz.mono Zo);have hs3:=hz.size;clear hoX hB2 hg hz hB hs;go_wp2
    go_roundw
    case rel=>
     refine⟨i+1,_,_,hlt,rfl,Zs,ho'.congr (f':=λj=>if j=i then(if x-y-c<0 then x-y-c+1000000000 else x-y-c) else h j) (λj hj=>?_),?_,bX0,bX1,bX2,hB3,Zo⟩
     ·by_cases hji:j=i
      ·subst hji;simp
      ·rw[if_pos Zo,if_neg hji]
     ·by_cases hq:x-y-c<0
      ·simp only[if_pos hq]
       first|(exfalso;omega)|exact hbel hq
      ·simp only[if_neg hq]
       first|(exfalso;omega)|exact habo Zo
    case measure=>simp[intOf];omega
  ·obtain rfl:i=n:=by omega
   have hval:=hI.done hmn hge;have hw1:¬(i:Int)<i:=Zo;have cb0:=b0.cell;have lb0:=b0.lt;have fb0:=b0.frozen;have cb1:=b1.cell;have lb1:=b1.lt;have fb1:=b1.frozen;have hmm:=λW1 hW1=>Zbo s pv i cv h W1 ((ho.sl Zo).ext hW1) Zo hI.lo hI.hi;rw[hval,hsg]at hmm;replace hval:=Yah hval;replace hsg:=Yah hsg;clear hI ho hx1;go_wp2_with fail
   refine(hmm wr (Ext.refl _)).mono ?_;rintro e W1 ⟨v',rfl,ho2,d3,e3,hb⟩;replace b2:=b2.below hb;have hB1:=Zaa hB hb;obtain⟨p',c',rfl⟩:=ho2.shape;have hsl:=ho2.sl (by have:=Za3 h i;omega);clear hmm ho2 b0 b1 cb0 cb1 fb0 fb1 lb0 lb1 hB;go_wp2_with first|(refine Zab rfl 49 _ _ rfl (w.heap.size+1+1) 0 49 _ #[.bool sg,.slice p' (trimN h i) c'] #[.bool sg,.slice p' (trimN h i) c'] rfl rfl b2 Zae (Yaa rfl) (Zal _ _ _ _) (Zaf rfl) ?_;intro W2 hk b4)
   have hb2:=hk.below hB1 Zo hB1.size;refine bodyPost_ret (b4.results rfl _ _ rfl Tryz.underlying49 rfl Zae) rfl ⟨p',_,c',h,rfl,hsl.ext (hk.ext b2 Zd),d3,e3,Za3 h i,hb2⟩
theorem Zk2 {m1 m2:Nat} {v1 v2:Value} {z y:Int} (w:World) (h1:LgV m1 w v1 z) (h2:LgV m2 w v2 y) (hz:z≠0) (hy:y≠0) (hs:decide (z<0)=decide (y<0)) (hge:y.natAbs<=z.natAbs) (hm1:m1<=100000) :
  Calls Tryz.prog 206 #[v1,v2] w λe w'=>∃v,e=.returned v∧LgV m1 w' v (z-y)∧Below w.heap.size w w':=by
 obtain⟨p,n,c,f,rfl,s1,d1,e1,l1⟩:=h1;obtain⟨q,m,c',g,rfl,s2,d2,e2,l2⟩:=h2;have hn0:0<n:=d1.pos.1 Zo;have hm0:0<m:=d2.pos.1 Zo;have hsg:(z<0↔y<0):=by simpa using hs
 rw[<-hs];refine(Zjg _ p q n m c c' f g w s1 s2 d1 d2 hn0 hm0 Zo Zo).mono ?_;rintro e w' ⟨p',k,c2,h,rfl,hsl,hd,hv,hk,hb⟩;rw[e1,e2]at hv ⊢;have hneg:(decide (z<0)&&decide (0<(z.natAbs:Int)-y.natAbs))=decide (z-y<0):=by
  rw[Ycx,Yam,decide_eq_true_eq,decide_eq_true_eq,decide_eq_true_eq];omega
 rw[hneg];exact⟨_,rfl,⟨p',k,c2,h,rfl,hsl,hd,Zo,Zo⟩,hb⟩
theorem Zr2 {m1 m2:Nat} {v1 v2:Value} {z y:Int} (w:World) (h1:LgV m1 w v1 z) (h2:LgV m2 w v2 y) (hz:z≠0) (hy:y≠0) (hs:decide (z<0)=decide (y<0)) (hlt:z.natAbs<y.natAbs) (hm2:m2<=100000) :
  Calls Tryz.prog 206 #[v1,v2] w λe w'=>∃v,e=.returned v∧LgV m2 w' v (z-y)∧Below w.heap.size w w':=by
 have hd:=λ(W:World) (hW:Below w.heap.size w W)=>Zk2 W (h2.below hW) (h1.below hW) hy hz hs.symm Zo hm2;have hmi:=λ(W:World) (v:Value) (h:LgV m2 W v (y-z))=>Zfo W h hm2;obtain⟨p,n,c,f,rfl,s1,d1,e1,l1⟩:=h1;obtain⟨q,m,c',g,rfl,s2,d2,e2,l2⟩:=h2;have hn0:0<n:=d1.pos.1 Zo;have hm0:0<m:=d2.pos.1 Zo;have hn0':((n:Int)==0)=false:=by simp;omega
 have hm0':((m:Int)==0)=false:=by simp;omega
 have hless:=λ(W:World) (hW:Below w.heap.size w W)=>Ze3 p q n m c c' f g W (s1.ext (.of_below hW)) (s2.ext (.of_below hW)) d1 d2;rw[decide_eq_true Zo]at hless;rw[<-hs]at hd ⊢;clear hs;generalize decide (z<0)=s at *;go_enter Tryz.func206,Tryz.ntmps206
 go_wp2_with fail
 refine Zbk λW hB hs b0 b1 b2=>?_;refine(hless W hB).mono ?_;rintro e Wl ⟨rfl,kl,rfl⟩;have hBl:=below_drewN hB kl;replace b0:Box (W.drewN kl) w.heap.size 49 #[.bool s,.slice p n c]:=⟨b0.blk⟩
 replace b1:Box (W.drewN kl) (w.heap.size+1) 49 #[.bool s,.slice q m c']:=⟨b1.blk⟩
 replace b2:Box (W.drewN kl) (w.heap.size+1+1) 49 #[.bool false,.slice none 0 0]:=⟨b2.blk⟩
 have hsl:w.heap.size+1+1+1<=(W.drewN kl).heap.size:=hs;clear hless hB hs;generalize W.drewN kl=V at *;have cb0:=b0.cell;have lb0:=b0.lt;have fb0:=b0.frozen;have cb1:=b1.cell;have lb1:=b1.lt;have fb1:=b1.frozen;go_wp2_with fail
 refine(hd V hBl).mono ?_;rintro e W1 ⟨v',rfl,hl1,hb1⟩;replace b2:=b2.below hb1;have hB1:=Zaa hBl hb1;have hs1:=hb1.size;clear hd cb0 cb1 fb0 fb1 lb0 lb1 b0 b1;go_wp2_with fail
 refine(hmi W1 v' hl1).mono ?_;rintro e W2 ⟨v2,rfl,hl2,hb2⟩;replace b2:=b2.below hb2;have hB2:=Zaa hB1 hb2;obtain⟨C,rfl,hCs,hCo⟩:=hl2.cells;have hiC:(Tryz.prog.info? 49).map (·.size)=some C.size:=by rw[hCs];exact Zae
 clear hmi hl1 hb1 hb2 hB1;go_wp2_with first|(refine Zab rfl 49 _ _ rfl (w.heap.size+1+1) 0 49 _ C C rfl rfl b2 hiC (by rw[hCs];exact Yaa rfl) hCo (Zaf (by rw[hCs];rfl)) ?_;intro W3 hk b4)
 have hb3:=hk.below hB2 Zo hB2.size;refine bodyPost_ret (b4.results rfl _ _ rfl Tryz.underlying49 rfl hiC) rfl ⟨_,rfl,?_,hb3⟩;rw[show z-y = -(y-z) by omega];exact hl2.ext (hk.ext b2 Zd)
theorem Zmi {m1 m2:Nat} {v1 v2:Value} {z y:Int} (w:World) (h1:LgV m1 w v1 z) (h2:LgV m2 w v2 y) (hz:z≠0) (hy:y≠0) (hs:decide (z<0)=decide (y<0)) (hm1:m1<=100000) (hm2:m2<=100000) :
  Calls Tryz.prog 206 #[v1,v2] w λe w'=>∃v,e=.returned v∧LgV (max m1 m2) w' v (z-y)∧Below w.heap.size w w':=by
 by_cases h:y.natAbs<=z.natAbs
 ·refine(Zk2 w h1 h2 hz hy hs h hm1).mono ?_
  rintro e w' ⟨v,rfl,hl,hb⟩;exact⟨v,rfl,hl.mono Zo,hb⟩
 ·refine(Zr2 w h1 h2 hz hy hs Zo hm2).mono ?_
  rintro e w' ⟨v,rfl,hl,hb⟩;exact⟨v,rfl,hl.mono Zo,hb⟩
theorem Zpe {m1 m2:Nat} {v1 v2:Value} {z y:Int} (w:World) (h1:LgV m1 w v1 z) (h2:LgV m2 w v2 y) (hz:z≠0) (hy:y≠0) (hs:decide (z<0)=decide (y<0)) (hm1:m1<=100000) (hm2:m2<=100000) :
  Calls Tryz.prog 173 #[v1,v2] w λe w'=>∃v,e=.returned v∧LgV (max m1 m2+1) w' v (z+y)∧Below w.heap.size w w':=by
 obtain⟨p,n,c,f,rfl,s1,d1,e1,l1⟩:=h1;obtain⟨q,m,c',g,rfl,s2,d2,e2,l2⟩:=h2;have hn0:0<n:=d1.pos.1 Zo;have hm0:0<m:=d2.pos.1 Zo;have hsg:(z<0↔y<0):=by simpa using hs
 rw[<-hs];refine(Zk1 _ p q n m c c' f g w s1 s2 d1 d2 hn0 hm0 Zo Zo).mono ?_;rintro e w' ⟨p',k,c2,h,rfl,hsl,hd,hv,hk,hb⟩;rw[e1,e2]at hv;have hneg:decide (z<0)=decide (z+y<0):=by rw[decide_eq_decide];omega
 rw[hneg];exact⟨_,rfl,⟨p',k,c2,h,rfl,hsl,hd,Zo,Zo⟩,hb⟩
end Go.Proofs.W
