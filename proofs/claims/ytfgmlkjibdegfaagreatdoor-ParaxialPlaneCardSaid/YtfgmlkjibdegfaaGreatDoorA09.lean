/- Contracts of package paraxial,and a verified evaluator. Part 9 of 28. No condition beside the row. -/
import Derived.Test.YtfgmlkjibdegfaaGreatDoorA03
import Derived.Test.YtfgmlkjibdegfaaGreatDoorA06
import Derived.Test.YtfgmlkjibdegfaaGreatDoorA07
import Derived.Test.YtfgmlkjibdegfaaGreatDoorA08
set_option linter.unusedVariables false
set_option linter.unusedSimpArgs false
set_option maxRecDepth 100000
set_option maxHeartbeats 4000000
namespace Go.Proofs.W
open Go.RowKit Go.Mono
theorem Zfz (m:Nat) (w wf:World) (hx:Ext wf w) (p:Option Addr) (n c:Nat) (N:Int) (h:Sz m wf (.slice p n c) N) (hm:m<=1000000) :
  Calls Tryz.prog 158 #[.slice p n c] w λe w'=>∃p k c,e=.returned (.slice p k c)∧Sz m w' (.slice p k c) N∧k=n∧Below w.heap.size w w':=by
 obtain⟨n',f,h1,h2,h3,h4,rfl⟩:=h.sl;refine(Zgm p n' c f w (h1.ext hx) Zo).mono ?_;rintro e w' ⟨v,rfl,ho,hb⟩;have hs:=ho.sl Zo;obtain⟨p1,c1,rfl,_⟩:=hs.open;exact⟨_,_,_,rfl,⟨n',f,hs,h2,h3,h4⟩,rfl,hb⟩
theorem Zu7 (s s':Bool) (p q:Option Addr) (k c l d:Nat) (w:World) :
  Calls Tryz.prog 159 #[.agg #[.bool s,.slice p k c,.bool s',.slice q l d],.int .i64 0] w λe w'=>e=.returned (.tuple #[.agg #[.bool s,.slice p k c,.bool s',.slice q l d],.int .i64 0])∧Below w.heap.size w w':=by
 go_enter Tryz.func159,Tryz.ntmps159
 go_wp2_with fail
 have b3':=(Box.new (w.alloc (.cells #[.bool s,.slice p k c,.bool s',.slice q l d] 54)) 54 #[.bool s,.slice p k c,.bool s',.slice q l d]).cell;simp only[Yav]at b3';refine bodyPost_ret (v:=.tuple #[.agg #[.bool s,.slice p k c,.bool s',.slice q l d],.int .i64 0]) (by simp[results,Tryz.results159,go_sem,b3']) rfl ⟨rfl,?_⟩;exact Zad (Zad (Yae _ _) _) _
theorem Zfb (m:Nat) (s:Bool) (p q:Option Addr) (k c l d:Nat) (a:Rat) (w wf:World) (hx:Ext wf w) (h1:Sg s a.num) (h2:Sz m wf (.slice p k c) a.num.natAbs) (h3:Sz m wf (.slice q l d) a.den) (hm:m<=600) :
  Calls Tryz.prog 114 #[.agg #[.bool s,.slice p k c,.slice q l d]] w λe w'=>∃p n c q l d,e=.returned (.tuple #[.agg #[.bool (decide (a.num<0)),.slice p n c,.bool false,.slice q l d],.int .i64 0])∧Sz m w' (.slice p n c) a.num.natAbs∧Sz m w' (.slice q l d) a.den∧Below w.heap.size w w':=by
 replace h2:=h2.ext hx;replace h3:=h3.ext hx;clear hx;have hk:k<=600:=by
  obtain⟨n',f,_,_,_,h4,rfl⟩:=h2.sl;omega
 have hl:l<=600:=by
  obtain⟨n',f,_,_,_,h4,rfl⟩:=h3.sl;omega
 have hmx:¬(600<if(k:Int)<l then(l:Int) else k):=by split<;>omega
 have hpos:=h2.len_pos;have hbs:(s&&decide (0<k))=decide (a.num<0):=by
  obtain⟨g1,g2⟩:=h1;cases s with
  | false=>have:=g2 rfl;simp only[Bool.false_and];exact(decide_eq_false Zo).symm
  | true=>have:=g1 rfl;simp only[Bool.true_and,decide_eq_decide];omega
 clear h1 hpos;go_enter Tryz.func114,Tryz.ntmps114
 go_wp2_with fail
 all_goals try(exfalso;revert hmx;simp_all;done)
 all_goals
  refine Zeh λW hB hs b0 b1=>?_;have x0:=Ext.of_below hB;replace h2:=h2.ext x0;replace h3:=h3.ext x0;have cb0:=b0.cell;have lb0:=b0.lt;have fb0:=b0.frozen;have cb1:=b1.cell;have lb1:=b1.lt;have fb1:=b1.frozen;clear x0;go_cut [5] (λs5 wx=>∃B3 p n c,s5=.pointer (some ⟨B3,0,none⟩)∧Box wx B3 52 #[.bool (decide (a.num<0)),.slice p n c]∧W.heap.size<=B3∧Below W.heap.size W wx∧Sz m wx (.slice p n c) a.num.natAbs)
  case first=>
   cases s;case true=>
    simp only[Bool.true_and]at hbs;replace hbs:=Yah hbs;go_region_held3 (λw'=>(∀b o,b<W.heap.size->w'.cell? ⟨b,o,none⟩=W.cell? ⟨b,o,none⟩)∧Below W.heap.size W w') ((refine Za3 ?_;first|exact(Yae _ _).drew|(repeat' (first|exact Yai ‹_› | exact Zaa (Yai ‹_›) ‹_› | exact Zad (Yai ‹_›) _|exact Zad ‹_› _|refine Zai ?_ Zo _ _)))) (first|(go_at_call 158;(with_reducible refine(Zfz m _ W (.of_below (Yai ‹_›)) p k c _ h2 Zo).mono ?_);rintro e W4 ⟨p4,k4,c4,rfl,z4,rfl,hb4⟩;(have hzhb4:=Zaa (Yai ‹_›) hb4);(have hshb4:=hzhb4.size);(first|(replace bn:=bn.below hb4;clear cbn fbn lbn;have cbn:=bn.cell;have fbn:=bn.frozen;have lbn:=bn.lt)|(have bn:=(Box.new _ 52 _).below hb4;have cbn:=bn.cell;have fbn:=bn.frozen;have lbn:=bn.lt)|(have bn:=(Box.new _ 52 _).drew.below hb4;have cbn:=bn.cell;have fbn:=bn.frozen;have lbn:=bn.lt)|skip)))
    all_goals
     go_wp2_with fail
     go_meet
     exact⟨_,_,_,_,rfl,(by rw[<-hbs.out];first|exact Box.new _ _ _|exact(bn.set 0 _).set 1 _),Zo,Yai ‹_›,(by first|exact z4.ext ((Ext.refl _).alloc _)|exact z4.ext (((Ext.refl _).set bn Zd _ _).set (bn.set _ _) Zd _ _))⟩
   case false=>
    simp only[Bool.false_and]at hbs;replace hbs:=Yah hbs;refine wp_region_held_drew (S:=λw'=>(∀b o,b<W.heap.size->w'.cell? ⟨b,o,none⟩=W.cell? ⟨b,o,none⟩)∧Below W.heap.size W w') Zk (Za3 (Yae _ _).drew) (λhHeld=>?_);refine tk 0 (some 15) ?_;refine tk 1 (some 16) ?_;refine tk 2 (some 17) ?_;refine tk 3 (some 18) ?_;refine ts 4 (some 19) ?_;refine ts 5 (some 20) ?_;refine ts 6 (some 21) ?_;refine ts 7 (some 22) ?_;refine ts 8 (some 23) ?_;refine tk 9 (some 24) ?_;refine tk 10 (some 25) ?_;refine tk 11 (some 26) ?_;refine tk 12 (some 27) ?_;refine wpAnyH_ready (rs:=[13,15]) Zk Zs ?_;refine Yal rfl (λK hK=>?_) (Yal rfl (λK hK=>?_) Yas)
    ·
     go_simp
     (refine(Zfz m _ W (.of_below hHeld.2) p k c _ h2 Zo).mono ?_;rintro e W4 ⟨p4,k4,c4,rfl,z4,rfl,hb4⟩)
     refine kp hK (Za3 (Zaa hHeld.2 hb4)) (λhHeld=>?_);clear hK K;refine tk 14 (some 29) ?_;refine Mono.st 15 ?_;intro K hK;go_simp
     have hb5:=hHeld.2;refine kp hK (Za3 (Zad hHeld.2 _)) (λhHeld=>?_);clear hK K;refine Mono.st 16 ?_;intro K hK;go_simp
     refine kp hK (Za3 (Zad hb5 _)) (λhHeld=>?_);clear hK K;refine wpAnyH_done Zk ?_ _;go_wp2_with fail
     go_meet
     exact⟨_,_,_,_,rfl,by rw[<-hbs.out];exact Box.new _ _ _,hb5.size,Zad hb5 _,z4.ext ((Ext.refl _).alloc _)⟩
    ·
     go_simp
     refine kp hK (Za3 (Zad hHeld.2 _)) (λhHeld=>?_);clear hK K;refine Mono.st 13 ?_;intro K hK;go_simp
     (refine(Zfz m _ W (.of_below hHeld.2) p k c _ h2 Zo).mono ?_;rintro e W4 ⟨p4,k4,c4,rfl,z4,rfl,hb4⟩)
     refine kp hK (Za3 (Zaa hHeld.2 hb4)) (λhHeld=>?_);clear hK K;have bn:Box W4 W.heap.size 52 _:=(Box.new W.drew 52 _).below hb4;have cbn:=bn.cell;have fbn:=bn.frozen;refine tk 14 (some 29) ?_;refine Mono.st 16 ?_;intro K hK;go_simp
     refine kp hK (Za3 (Zai (Zai hHeld.2 (Yab _) _ _) (Yab _) _ _)) (λhHeld=>?_);clear hK K;refine wpAnyH_done Zk ?_ _;go_wp2_with fail
     go_meet
     exact⟨_,_,_,_,rfl,by rw[<-hbs.out];exact(bn.set 0 _).set 1 _,Yab _,hHeld.2,z4.ext (((Ext.refl _).set bn Zd _ _).set (bn.set _ _) Zd _ _)⟩
  case rest=>
   obtain⟨B3,p3,k3,c3,rfl,b3,hB3,hb,zn⟩:=hcut;replace hB:=Zaa hB hb;replace h3:=h3.ext (.of_below hb);replace b0:=b0.below hb;try clear cb0 lb0 fb0
   have cb0:=b0.cell;have lb0:=b0.lt;have fb0:=b0.frozen;replace b1:=b1.below hb;try clear cb1 lb1 fb1
   have cb1:=b1.cell;have lb1:=b1.lt;have fb1:=b1.frozen;have cb3:=b3.cell;have lb3:=b3.lt;have fb3:=b3.frozen;have K0:=KeepBut.refl (w.heap.size+1) wc;have n0:w.heap.size≠w.heap.size+1:=Zo;have n3:B3≠w.heap.size+1:=Zo;clear hbs hmx hb hs hB3;go_wp2_with fail
   go_region_held3 (λw'=>(∀b o,b<wc.heap.size->b≠(w.heap.size+1)->w'.cell? ⟨b,o,none⟩=wc.cell? ⟨b,o,none⟩)∧KeepBut (w.heap.size+1) wc.heap.size wc w') ((refine KeepBut.S ?_;first|exact K0.drew|(repeat' (first|exact Yai ‹_› | exact KeepBut.call (Yai ‹_›) ‹_› | refine KeepBut.set ?_ _ _|refine KeepBut.alloc ?_ _)))) (first|(go_at_call 158;(with_reducible refine(Zfz m _ wc (KeepBut.ext (Yai ‹_›) b1 Zd) q l d _ h3 Zo).mono ?_);rintro e W4 ⟨p4,k4,c4,rfl,z4,rfl,hb4⟩;have b14:=b1.drew.below hb4;have cb14:=b14.cell;have fb14:=b14.frozen)|(go_at_call 159;(with_reducible refine(Zu7 _ _ _ _ _ _ _ _ _).mono ?_);rintro e W5 ⟨rfl,hb5⟩;have b15:=b14.below hb5;have cb15:=b15.cell;have fb15:=b15.frozen;replace z4:=z4.ext (.of_below hb5)))
   go_wp2
   have b3':=((((b15.set 0 (.bool (decide (a.num<0)))).set 1 (.slice p3 k3 c3)).set 2 (.bool false)).set 3 (.slice p4 k4 c4)).cell;have xE:Ext W5 _:=(((((Ext.refl W5).set b15 Zd 0 (.bool (decide (a.num<0)))).set (b15.set 0 (.bool (decide (a.num<0)))) Zd 1 (.slice p3 k3 c3))).set ((b15.set 0 (.bool (decide (a.num<0)))).set 1 (.slice p3 k3 c3)) Zd 2 (.bool false)).set (((b15.set 0 (.bool (decide (a.num<0)))).set 1 (.slice p3 k3 c3)).set 2 (.bool false)) Zd 3 (.slice p4 k4 c4);refine bodyPost_ret (v:=.tuple #[.agg #[.bool (decide (a.num<0)),.slice p3 k3 c3,.bool false,.slice p4 k4 c4],.int .i64 0]) (by simp[results,Tryz.results114,go_sem,b3']) rfl ⟨_,_,_,_,_,_,rfl,?_,?_,?_⟩
   ·exact zn.ext (KeepBut.ext (Yai ‹_›) b1 Zd)
   ·exact z4.ext xE
   ·exact KeepBut.below (Yai ‹_›) hB Zo hB.size
theorem Zw2 (w:World):Calls Tryz.prog 146 #[] w λe w'=>∃p k c,e=.returned (.slice p k c)∧Sz 1 w' (.slice p k c) 1∧Below w.heap.size w w':=by
 go_enter Tryz.func146,Tryz.ntmps146
 go_wp2
 go_ret
 refine⟨_,_,_,rfl,?_,(Yae _ _).alloc (Yab _) _⟩;refine⟨1,λ_=>1,.inr ⟨_,_,_,#[.int .i64 1],(0,0),rfl,Zo,Zo,?_,?_⟩,⟨λi hi=>Zo,λi hi=>Zo,λ_=>Zd⟩,Zd,Zo⟩
 ·exact(Box.new w 3 #[.int .i64 1]).blk
 ·intro i hi
  obtain rfl:i=0:=Zo;rfl
theorem Zda (s:Bool) (p:Option Addr) (n c:Nat) (N:Int) (w wf:World) (hx:Ext wf w) (h:Sz 600 wf (.slice p n c) N) (hs:s=true->0<N) :
  Calls Tryz.prog 144 #[.agg #[.bool s,.slice p n c]] w λe w'=>e=.returned (.int .i64 0)∧Below w.heap.size w w':=by
 replace h:=h.ext hx;clear hx;have hp:=h.len_pos;obtain⟨n',f,h1,h2,h3,h4,rfl⟩:=h.sl;obtain⟨hc,hn,hcell⟩:=h1.opens;clear h h1 h3;by_cases h0:0<n'
 ·obtain⟨b,off,rfl,hb,hcell⟩:=hcell h0
  obtain⟨k,rfl⟩:∃k,n'=k+1:=⟨n'-1,Zo⟩
  have ht:=h2.top h0;simp only[Ybf]at ht;have ht':(f k==0)=false:=by simpa using ht
  replace ht:=Yah ht;go_enter Tryz.func144,Tryz.ntmps144
  go_wp2_with fail
  refine Zbo λW hB hs b0=>?_;replace hcell:∀i,i<k+1->W.cell? ⟨b,off+i,none⟩=some (.int .i64 (f i)):=λi hi=>(hB.cell hb).trans (hcell i hi);have hlast:=hcell k Zo;have cb0:=b0.cell;have lb0:=b0.lt;have fb0:=b0.frozen;go_wp2
  go_loopw [35] (λa wr=>∃i:Nat,i<=k+1∧a=.int .i64 (i:Int)∧wr=W) (λa _=>(k+1-intOf a).toNat)
  case atStart=>exact⟨0,Zo,rfl,rfl⟩
  case round=>
   obtain⟨i,hi,rfl,rfl⟩:=hrel;by_cases hik:i<k+1
   ·have a1:=hcell i hik
    have a2:=h2.lo i hik;have a3:=h2.hi i hik;clear hcell h2 hlast;have a4:¬(f i<0):=Zo;have a5:¬(1000000000<=f i):=Zo;have hik':(i:Int)<k+1:=Zo;go_wp2
    go_roundw
    case rel=>refine⟨i+1,Zo,?_⟩;simp
    case measure=>simp[intOf];omega
   ·obtain rfl:i=k+1:=by omega
    go_wp2
    go_ret
    exact⟨rfl,hB⟩
 ·obtain rfl:n'=0:=by omega
  have hsf:s=false:=by
   cases s
   ·rfl
   ·have:=hp.1 (hs rfl);omega
  subst hsf;go_enter Tryz.func144,Tryz.ntmps144
  go_wp2_with fail
  refine Zbo λW hB hs b0=>?_;have cb0:=b0.cell;have lb0:=b0.lt;have fb0:=b0.frozen;go_wp2
  go_loopw [35] (λa wr=>a=.int .i64 0∧wr=W) (λa _=>0)
  case atStart=>exact⟨rfl,rfl⟩
  case round=>
   obtain⟨rfl,rfl⟩:=hrel;go_wp2
   go_ret
   exact⟨rfl,hB⟩
end Go.Proofs.W
namespace Go.Mono
open Go.RowKit
def LgV (m:Nat) (w:World) (v:Value) (z:Int):Prop:=∃p n c f,v=.agg #[.bool (decide (z<0)),.slice p n c]∧SlF w (.slice p n c) n f∧Digs f n∧vf f n=z.natAbs∧n<=m
theorem LgV.ext {m:Nat} {w w':World} {v:Value} {z:Int} (h:LgV m w v z) (hx:Ext w w'):LgV m w' v z:=by
 obtain⟨p,n,c,f,hv,h1,h2⟩:=h;exact⟨p,n,c,f,hv,h1.ext hx,h2⟩
theorem LgV.below {m:Nat} {w w':World} {v:Value} {z:Int} (h:LgV m w v z) (hb:Below w.heap.size w w'):LgV m w' v z:=h.ext (.of_below hb)
theorem LgV.mono {m m':Nat} {w:World} {v:Value} {z:Int} (h:LgV m w v z) (hm:m<=m'):LgV m' w v z:=by
 obtain⟨p,n,c,f,hv,h1,h2,h3,h4⟩:=h;exact⟨p,n,c,f,hv,h1,h2,h3,Zo⟩
theorem LgV.tight {m k:Nat} {w:World} {v:Value} {z:Int} (h:LgV m w v z) (hz:(z.natAbs:Int)<pw k):LgV k w v z:=by
 obtain⟨p,n,c,f,hv,h1,h2,h3,h4⟩:=h;refine⟨p,n,c,f,hv,h1,h2,h3,?_⟩;by_cases hn:n=0
 ·omega
 have:=h2.ge Zo;by_cases hk:n<=k
 ·exact hk
 ·have:=Zbt (i:=k) (k:=n-1) Zo
  omega
theorem LgV.lt {m:Nat} {w:World} {v:Value} {z:Int} (h:LgV m w v z):(z.natAbs:Int)<pw m:=by
 obtain⟨p,n,c,f,hv,h1,h2,h3,h4⟩:=h;have:=h2.lt;have:=Zbt h4;omega
theorem Zv0 {z y:Int} {n m:Nat} {f g:Nat->Int} (d1:Digs f n) (v1:vf f n=z.natAbs) (d2:Digs g m) (v2:vf g m=y.natAbs) :
  z=y↔(decide (z<0)=decide (y<0)∧n=m∧∀i,i<n->f i=g i):=by
 constructor
 ·rintro rfl
  obtain⟨rfl,h⟩:=d1.unique d2 Zo;exact⟨rfl,rfl,h⟩
 ·rintro⟨h1,rfl,h2⟩
  have e:=Zbk h2;have h3:(z<0↔y<0):=by simpa using h1
  omega
end Go.Mono
namespace Go.Proofs.W
open Go.RowKit Go.Mono
theorem Zor (s t:Bool) (p q:Option Addr) (n m c1 c2:Nat) (f g:Nat->Int) (r:Bool) (w:World) (h1:SlF w (.slice p n c1) n f) (h2:SlF w (.slice q m c2) m g) (hr:Hid (r=true↔(s=t∧n=m∧∀i,i<n->f i=g i))) :
  Calls Tryz.prog 61 #[.agg #[.bool s,.slice p n c1],.agg #[.bool t,.slice q m c2]] w λe w'=>e=.returned (.bool r)∧Below w.heap.size w w':=by
 obtain⟨hc1,hn1,hx1⟩:=h1.opens;obtain⟨hc2,hn2,hx2⟩:=h2.opens;clear h1 h2;by_cases hst:s=t
 ·subst hst
  by_cases hnm:n=m
  ·subst hnm
   go_enter Tryz.func61,Tryz.ntmps61
   go_wp2
   refine Zeh λW hB hs b0 b1=>?_;have cb0:=b0.cell;have lb0:=b0.lt;have fb0:=b0.frozen;have cb1:=b1.cell;have lb1:=b1.lt;have fb1:=b1.frozen;go_loopw [5] (λa wr=>∃i:Nat,i<=n∧a=.int .i64 (i:Int)∧(∀j,j<i->f j=g j)∧∃k,wr=W.drewN k) (λa _=>(n-intOf a).toNat)
   case atStart=>exact⟨0,Yat _,rfl,λj hj=>absurd hj (Nat.not_lt_zero _),0,rfl⟩
   case round=>
    obtain⟨i,hi,rfl,heq,k,rfl⟩:=hrel;replace heq:=Yah heq;by_cases hin:i<n
    ·obtain⟨b,off,rfl,hb,hcell⟩:=hx1 Zo
     obtain⟨b2,off2,rfl,hb2,hcell2⟩:=hx2 Zo;have a1:=(hB.cell (p:=⟨b,off+i,none⟩) hb).trans (hcell i hin);have a2:=(hB.cell (p:=⟨b2,off2+i,none⟩) hb2).trans (hcell2 i hin);have hin':(i:Int)<n:=Zo;clear hcell hcell2 hx1 hx2;by_cases hfg:f i=g i
     ·have hq:(f i != g i)=false:=by simpa using hfg
      replace hfg:=Yah hfg;go_wp2
      go_quiet (fail)
      go_wp2
      go_roundw
      case rel=>
       refine⟨i+1,Zo,Zs,λj hj=>?_,_,rfl⟩;by_cases hji:j=i
       ·subst hji;exact hfg.out
       ·exact heq.out j Zo
      case measure=>simp[intOf];omega
     ·have hq:(f i != g i)=true:=by simpa using hfg
      obtain rfl:r=false:=by
       rw[Bool.eq_false_iff];intro e;exact hfg ((hr.out.1 e).2.2 i hin)
      replace hfg:=Yah hfg;go_wp2
      go_quiet (fail)
      go_wp2
      go_ret
      exact⟨rfl,below_drewN (below_drewN hB _) _⟩
    ·obtain rfl:i=n:=by omega
     obtain rfl:r=true:=hr.out.2 ⟨by trivial,by trivial,heq.out⟩;clear hx1 hx2;go_wp2
     go_ret
     exact⟨rfl,below_drewN hB _⟩
  ·obtain rfl:r=false:=by
    rw[Bool.eq_false_iff];intro e;exact hnm (hr.out.1 e).2.1
   have hnm':((n:Int) != (m:Int))=true:=by simp;omega
   clear hx1 hx2;go_enter Tryz.func61,Tryz.ntmps61
   go_wp2
   go_ret
   exact⟨rfl,Zad (Zad (Yae _ _) _) _⟩
 ·obtain rfl:r=false:=by
   rw[Bool.eq_false_iff];intro e;exact hst (hr.out.1 e).1
  have hst':(s != t)=true:=by simpa using hst
  clear hx1 hx2;go_enter Tryz.func61,Tryz.ntmps61
  go_wp2
  go_ret
  exact⟨rfl,Zad (Zad (Yae _ _) _) _⟩
theorem Zkj {m1 m2:Nat} {v1 v2:Value} {z y:Int} (w:World) (h1:LgV m1 w v1 z) (h2:LgV m2 w v2 y) :
  Calls Tryz.prog 61 #[v1,v2] w λe w'=>e=.returned (.bool (decide (z=y)))∧Below w.heap.size w w':=by
 obtain⟨p,n,c,f,rfl,s1,d1,e1,_⟩:=h1;obtain⟨q,m,c',g,rfl,s2,d2,e2,_⟩:=h2;refine Zor _ _ p q n m c c' f g _ w s1 s2 (Yah ?_);rw[decide_eq_true_eq];exact Zv0 d1 e1 d2 e2
end Go.Proofs.W
namespace Go.Mono
theorem Zsy (q:Rat):gcdZ q.num.natAbs q.den=1:=by
 have:=q.reduced;simp only[gcdZ,Ycb];rw[this.gcd_eq_one];rfl
end Go.Mono
namespace Go.Proofs.W
open Go.RowKit Go.Mono
theorem Zsz (m1 m2:Nat) (w:World) (p q:Option Addr) (n m c1 c2:Nat) (N:Int) (h1:Sz m1 w (.slice p n c1) N) (h2:Sz m2 w (.slice q m c2) N) :
  Calls Tryz.prog 145 #[.slice p n c1,.slice q m c2] w λe w'=>e=.returned (.int .i64 0)∧Below w.heap.size w w':=by
 refine(Zjm m1 m2 w w (Ext.refl _) p q n m c1 c2 N N h1 h2).mono ?_;rintro e w' ⟨c,⟨rfl,k,rfl⟩,_,hc⟩;obtain rfl:=hc.2 rfl;exact⟨rfl,below_drewN (Yae _ _) k⟩
theorem Zek (v:Value) (q:Rat) (w wf:World) (hx:Ext wf w) (h:QV wf v q) :
  Calls Tryz.prog 92 #[v] w λe w'=>e=.returned (.int .i64 0)∧Below w.heap.size w w':=by
 replace h:=h.ext hx;clear hx;obtain⟨p,k,c,p',k',c',rfl,h1,h2⟩:=h;have hden:0<k':=h2.len_pos.1 (by have:=Yck q.den_nz;omega);have hneg:decide (q.num<0)=true->(0:Int)<q.num.natAbs:=by intro h;simp at h;omega
 have hone:=Zsy q;have hf0:∀w:World,(Instr.field 135 (.agg #[.bool (decide (q.num<0)),.slice p k c,.slice p' k' c']) 0).run Tryz.prog w=.ok (.agg #[.bool (decide (q.num<0)),.slice p k c]) w:=λ_=>Zk;have hf1:∀w:World,(Instr.field 133 (.agg #[.bool (decide (q.num<0)),.slice p k c]) 1).run Tryz.prog w=.ok (.slice p k c) w:=λ_=>Zk;go_enter Tryz.func92,Tryz.ntmps92
 go_wp2_with fail
 refine Zbo λW hB hs b0=>?_;replace h1:=h1.ext (.of_below hB);replace h2:=h2.ext (.of_below hB);have cb0:=b0.cell;have lb0:=b0.lt;have fb0:=b0.frozen;have hne:((k':Int)==0)=false:=by simp;omega
 go_region_held3 (λw'=>(∀b o,b<W.heap.size->w'.cell? ⟨b,o,none⟩=W.cell? ⟨b,o,none⟩)∧Below W.heap.size W w') ((refine Za3 ?_;first|exact(Yae _ _).drew|(repeat' (first|exact Yai ‹_› | exact Zaa (Yai ‹_›) ‹_› | exact Zad (Yai ‹_›) _|exact Zad ‹_› _|refine Zai ?_ Zo _ _)))) (first|(go_at_call 144;(with_reducible refine(Zda _ p k c _ _ W (.of_below (Yai ‹_›)) h1 hneg).mono ?_);rintro e W4 ⟨rfl,hb4⟩)|(go_at_call 144;(with_reducible refine(Zda _ p' k' c' _ _ W (.of_below (Yai ‹_›)) h2 Zs).mono ?_);rintro e W5 ⟨rfl,hb5⟩)|(go_at_call 113;refine(Zck _ _ p p' k c k' c' _).mono ?_;rintro e W6 ⟨rfl,hb6⟩)|(go_at_call 117;refine(Zej 600 _ W (.of_below (Yai ‹_›)) p p' k k' c c' _ _ h1 h2 Zo).mono ?_;rintro e W7 ⟨pg,kg,cg,rfl,zg,hb7⟩;rw[hone]at zg;(try replace z1:=z1.ext (by first|exact .of_below hb7|exact((Ext.refl _).alloc _).below hb7|exact((Ext.refl _).alloc _).drew.below hb7)))|(go_at_call 146;refine(Zw2 _).mono ?_;rintro e W8 ⟨p1,k1,c1,rfl,z1,hb8⟩;(try replace zg:=zg.ext (by first|exact .of_below hb8|exact((Ext.refl _).alloc _).below hb8|exact((Ext.refl _).alloc _).drew.below hb8)))|(go_at_call 145;refine(Zsz 600 1 _ pg p1 kg k1 cg c1 _ zg z1).mono ?_;rintro e W9 ⟨rfl,hb9⟩))
 all_goals
  go_wp2
  go_ret
  exact⟨rfl,Zaa hB (Yai ‹_›)⟩
end Go.Proofs.W
namespace Go.Mono
open Go.RowKit
theorem LgV.cells {m:Nat} {w:World} {v:Value} {z:Int} (h:LgV m w v z):∃C:Array Value,v=.agg C∧C.size=2∧C.all (·.oneCell')=true:=by
 obtain⟨p,n,c,f,rfl,_⟩:=h;exact⟨_,rfl,rfl,by simp[Value.oneCell']⟩
theorem OwnF.lg {w:World} {base:Nat} {v:Value} {n m:Nat} {f:Nat->Int} {z:Int} (h:OwnF w base v n f) (hd:Digs f n) (hv:vf f n=z.natAbs) (hm:n<=m) (hm6:m<=1000000):LgV m w (.agg #[.bool (decide (z<0)),v]) z:=by
 obtain⟨p,c,rfl⟩:=h.shape;exact⟨p,n,c,f,rfl,h.sl Zo,hd,hv,hm⟩
theorem Zcv {z:Int} (h1 : -9223372036854775808<=z) (h2:z<=9223372036854775807):IntKind.i64.wrap z=z:=by
 simp[IntKind.wrap,IntKind.signed,IntKind.bits];omega
theorem Zas (b:Bool) (p:Option Addr) (n c:Nat):(#[.bool b,.slice p n c]:Array Value).all (·.oneCell')=true:=by simp[Value.oneCell']
end Go.Mono
namespace Go.Proofs.W
open Go.RowKit Go.Mono
theorem Zh5 {m:Nat} {v:Value} {z:Int} (w:World) (h:LgV m w v z) (hm:m<=100000) :
  Calls Tryz.prog 186 #[v] w λe w'=>∃v',e=.returned v'∧LgV m w' v' (-z)∧Below w.heap.size w w':=by
 obtain⟨p,n,c,f,rfl,s1,d1,e1,l1⟩:=h;have hb1:(!decide (z<0))=decide (0<=z):=by
  rw[Ycx];simp
 have hsg:(decide (0<=z)&&decide (0<vf f n))=decide (-z<0):=by
  rw[Ycx];simp;omega
 rw[e1]at hsg;generalize decide (z<0)=sz at *;go_enter Tryz.func186,Tryz.ntmps186
 go_wp2_with fail
 refine Zbi λW hB hs b0 b1=>?_;refine(Zbp _ p n c f W (s1.ext (.of_below hB)) Zo d1.lo d1.hi).mono ?_;rintro e W1 ⟨v',rfl,ho,d2,e2,hb⟩;replace b1:=b1.below hb;replace hB:=Zaa hB hb;rw[e1,hsg];have hlg:=ho.lg (z:=-z) (m:=m) d2 (by rw[e2,e1,Int.natAbs_neg]) (by have:=Za7 f n;omega) Zo;generalize decide (-z<0)=ng at *;obtain⟨p',c',rfl⟩:=ho.shape;clear ho hb b0 hsg;go_wp2_with first|(refine Zab rfl 52 _ _ rfl (w.heap.size+1) 0 52 _ #[.bool ng,.slice p' (trimN f n) c'] #[.bool ng,.slice p' (trimN f n) c'] rfl rfl b1 Zae (Yaa rfl) (Zas _ _ _ _) (Zah rfl) ?_;intro W2 hk b2)
 have hb2:=hk.below hB Zo hB.size;refine bodyPost_ret (b2.results rfl _ _ rfl Tryz.underlying52 rfl Zae) rfl ⟨_,rfl,hlg.ext (hk.ext b1 Zd),hb2⟩
theorem Zgn (a b:Rat) (s1 t1 s2 t2:Bool) (p1 q1 p2 q2:Option Addr) (k1 c1 l1 d1 k2 c2 l2 d2 g:Nat) (w:World)
  (h:Box w g 54 #[.bool s1,.slice p1 k1 c1,.bool t1,.slice q1 l1 d1,.bool s2,.slice p2 k2 c2,.bool t2,.slice q2 l2 d2])
  (ha:QV w (.agg #[.bool s1,.slice p1 k1 c1,.bool t1,.slice q1 l1 d1]) a) (hb:QV w (.agg #[.bool s2,.slice p2 k2 c2,.bool t2,.slice q2 l2 d2]) b) :
  Calls Tryz.prog 106 #[.slice (some ⟨g,0,none⟩) 2 2] w λe w'=>e=.returned (.int .i64 0)∧Below w.heap.size w w':=by
 go_enter Tryz.func106,Tryz.ntmps106
 go_wp2
 go_loopw [8] (λx wr=>∃i:Nat,i<=2∧x=.int .i64 (i:Int)∧Below w.heap.size w wr) (λx _=>(2-intOf x).toNat)
 case atStart=>exact⟨0,Zo,rfl,Yae _ _⟩
 case round=>
  obtain⟨i,hi,rfl,hB⟩:=hrel;replace h:=h.below hB;have ch:=h.cell;have fh:=h.frozen;have lh:=h.lt;replace ha:=ha.ext (.of_below hB);replace hb:=hb.ext (.of_below hB);rcases(by omega:i=0∨i=1∨i=2) with rfl|rfl|rfl
  ·go_wp2_with (go_at_call 92;(with_reducible refine(Zek _ a _ _ ((Ext.refl wr).alloc _) ha).mono ?_);rintro e W4 ⟨rfl,hb4⟩)
   go_roundw
   case rel=>exact⟨1,Zo,Zs,Zaa (Zad hB _) hb4⟩
   case measure=>simp[intOf]
  ·go_wp2_with (go_at_call 92;(with_reducible refine(Zek _ b _ _ ((Ext.refl wr).alloc _) hb).mono ?_);rintro e W4 ⟨rfl,hb4⟩)
   go_roundw
   case rel=>exact⟨2,Zo,Zs,Zaa (Zad hB _) hb4⟩
   case measure=>simp[intOf]
  ·go_wp2
   go_ret
   exact⟨rfl,hB⟩
end Go.Proofs.W
