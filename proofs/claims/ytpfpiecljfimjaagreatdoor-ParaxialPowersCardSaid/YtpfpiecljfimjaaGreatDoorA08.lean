/- Contracts of package paraxial,and a verified evaluator. Part 8 of 26. No condition beside the row. -/
import Derived.Test.YtpfpiecljfimjaaGreatDoorA02
import Derived.Test.YtpfpiecljfimjaaGreatDoorA07
set_option linter.unusedVariables false
set_option linter.unusedSimpArgs false
set_option maxRecDepth 100000
set_option maxHeartbeats 4000000
namespace Go.Proofs.W
open Go.RowKit Go.Mono
theorem Zf3 (m:Nat) (w wf:World) (hx:Ext wf w) (p:Option Addr) (n c:Nat) (N:Int) (h:Sz m wf (.slice p n c) N) (hm:m<=1000000) :
  Calls Tryz.prog 176 #[.slice p n c] w λe w'=>∃p k c,e=.returned (.slice p k c)∧Sz m w' (.slice p k c) N∧k=n∧Below w.heap.size w w':=by
 obtain⟨n',f,h1,h2,h3,h4,rfl⟩:=h.sl;refine(Zgo p n' c f w (h1.ext hx) Zo).mono ?_;rintro e w' ⟨v,rfl,ho,hb⟩;have hs:=ho.sl Zo;obtain⟨p1,c1,rfl,_⟩:=hs.open;exact⟨_,_,_,rfl,⟨n',f,hs,h2,h3,h4⟩,rfl,hb⟩
theorem Zv1 (s s':Bool) (p q:Option Addr) (k c l d:Nat) (w:World) :
  Calls Tryz.prog 177 #[.agg #[.bool s,.slice p k c,.bool s',.slice q l d],.int .i64 0] w λe w'=>e=.returned (.tuple #[.agg #[.bool s,.slice p k c,.bool s',.slice q l d],.int .i64 0])∧Below w.heap.size w w':=by
 go_enter Tryz.func177,Tryz.ntmps177
 go_wp2_with fail
 have b3':=(Box.new (w.alloc (.cells #[.bool s,.slice p k c,.bool s',.slice q l d] 54)) 54 #[.bool s,.slice p k c,.bool s',.slice q l d]).cell;simp only[Yav]at b3';refine bodyPost_ret (v:=.tuple #[.agg #[.bool s,.slice p k c,.bool s',.slice q l d],.int .i64 0]) (by simp[results,Tryz.results177,go_sem,b3']) rfl ⟨rfl,?_⟩;exact Zad (Zad (Yae _ _) _) _
theorem Zlw (m:Nat) (s:Bool) (p q:Option Addr) (k c l d:Nat) (a:Rat) (w wf:World) (hx:Ext wf w) (h1:Sg s a.num) (h2:Sz m wf (.slice p k c) a.num.natAbs) (h3:Sz m wf (.slice q l d) a.den) (hm:m<=600) :
  Calls Tryz.prog 145 #[.agg #[.bool s,.slice p k c,.slice q l d]] w λe w'=>∃p n c q l d,e=.returned (.tuple #[.agg #[.bool (decide (a.num<0)),.slice p n c,.bool false,.slice q l d],.int .i64 0])∧Sz m w' (.slice p n c) a.num.natAbs∧Sz m w' (.slice q l d) a.den∧Below w.heap.size w w':=by
 replace h2:=h2.ext hx;replace h3:=h3.ext hx;clear hx;have hk:k<=600:=by
  obtain⟨n',f,_,_,_,h4,rfl⟩:=h2.sl;omega
 have hl:l<=600:=by
  obtain⟨n',f,_,_,_,h4,rfl⟩:=h3.sl;omega
 have hmx:¬(600<if(k:Int)<l then(l:Int) else k):=by split<;>omega
 have hpos:=h2.len_pos;have hbs:(s&&decide (0<k))=decide (a.num<0):=by
  obtain⟨g1,g2⟩:=h1;cases s with
  | false=>have:=g2 rfl;simp only[Bool.false_and];exact(decide_eq_false Zo).symm
  | true=>have:=g1 rfl;simp only[Bool.true_and,decide_eq_decide];omega
 clear h1 hpos;go_enter Tryz.func145,Tryz.ntmps145
 go_wp2_with fail
 all_goals try(exfalso;revert hmx;simp_all;done)
 all_goals
  refine Zd3 λW hB hs b0 b1=>?_;have x0:=Ext.of_below hB;replace h2:=h2.ext x0;replace h3:=h3.ext x0;have cb0:=b0.cell;have lb0:=b0.lt;have fb0:=b0.frozen;have cb1:=b1.cell;have lb1:=b1.lt;have fb1:=b1.frozen;clear x0;go_cut [5] (λs5 wx=>∃B3 p n c,s5=.pointer (some ⟨B3,0,none⟩)∧Box wx B3 49 #[.bool (decide (a.num<0)),.slice p n c]∧W.heap.size<=B3∧Below W.heap.size W wx∧Sz m wx (.slice p n c) a.num.natAbs)
  case first=>
   cases s;case true=>
    simp only[Bool.true_and]at hbs;replace hbs:=Yah hbs;go_region_held3 (λw'=>(∀b o,b<W.heap.size->w'.cell? ⟨b,o,none⟩=W.cell? ⟨b,o,none⟩)∧Below W.heap.size W w') ((refine Za1 ?_;first|exact(Yae _ _).drew|(repeat' (first|exact Yai ‹_› | exact Zaa (Yai ‹_›) ‹_› | exact Zad (Yai ‹_›) _|exact Zad ‹_› _|refine Zag ?_ Zo _ _)))) (first|(go_at_call 176;(with_reducible refine(Zf3 m _ W (.of_below (Yai ‹_›)) p k c _ h2 Zo).mono ?_);rintro e W4 ⟨p4,k4,c4,rfl,z4,rfl,hb4⟩;(have hzhb4:=Zaa (Yai ‹_›) hb4);(have hshb4:=hzhb4.size);(first|(replace bn:=bn.below hb4;clear cbn fbn lbn;have cbn:=bn.cell;have fbn:=bn.frozen;have lbn:=bn.lt)|(have bn:=(Box.new _ 49 _).below hb4;have cbn:=bn.cell;have fbn:=bn.frozen;have lbn:=bn.lt)|(have bn:=(Box.new _ 49 _).drew.below hb4;have cbn:=bn.cell;have fbn:=bn.frozen;have lbn:=bn.lt)|skip)))
    all_goals
     go_wp2_with fail
     go_meet
     exact⟨_,_,_,_,rfl,(by rw[<-hbs.out];first|exact Box.new _ _ _|exact(bn.set 0 _).set 1 _),Zo,Yai ‹_›,(by first|exact z4.ext ((Ext.refl _).alloc _)|exact z4.ext (((Ext.refl _).set bn Zd _ _).set (bn.set _ _) Zd _ _))⟩
   case false=>
    simp only[Bool.false_and]at hbs;replace hbs:=Yah hbs;refine wp_region_held_drew (S:=λw'=>(∀b o,b<W.heap.size->w'.cell? ⟨b,o,none⟩=W.cell? ⟨b,o,none⟩)∧Below W.heap.size W w') Zk (Za1 (Yae _ _).drew) (λhHeld=>?_);refine tk 0 (some 15) ?_;refine tk 1 (some 16) ?_;refine tk 2 (some 17) ?_;refine tk 3 (some 18) ?_;refine ts 4 (some 19) ?_;refine ts 5 (some 20) ?_;refine ts 6 (some 21) ?_;refine ts 7 (some 22) ?_;refine ts 8 (some 23) ?_;refine tk 9 (some 24) ?_;refine tk 10 (some 25) ?_;refine tk 11 (some 26) ?_;refine tk 12 (some 27) ?_;refine wpAnyH_ready (rs:=[13,15]) Zk Zs ?_;refine Yal rfl (λK hK=>?_) (Yal rfl (λK hK=>?_) Yas)
    ·
     go_simp
     (refine(Zf3 m _ W (.of_below hHeld.2) p k c _ h2 Zo).mono ?_;rintro e W4 ⟨p4,k4,c4,rfl,z4,rfl,hb4⟩)
     refine kp hK (Za1 (Zaa hHeld.2 hb4)) (λhHeld=>?_);clear hK K;refine tk 14 (some 29) ?_;refine Mono.st 15 ?_;intro K hK;go_simp
     have hb5:=hHeld.2;refine kp hK (Za1 (Zad hHeld.2 _)) (λhHeld=>?_);clear hK K;refine Mono.st 16 ?_;intro K hK;go_simp
     refine kp hK (Za1 (Zad hb5 _)) (λhHeld=>?_);clear hK K;refine wpAnyH_done Zk ?_ _;go_wp2_with fail
     go_meet
     exact⟨_,_,_,_,rfl,by rw[<-hbs.out];exact Box.new _ _ _,hb5.size,Zad hb5 _,z4.ext ((Ext.refl _).alloc _)⟩
    ·
     go_simp
     refine kp hK (Za1 (Zad hHeld.2 _)) (λhHeld=>?_);clear hK K;refine Mono.st 13 ?_;intro K hK;go_simp
     (refine(Zf3 m _ W (.of_below hHeld.2) p k c _ h2 Zo).mono ?_;rintro e W4 ⟨p4,k4,c4,rfl,z4,rfl,hb4⟩)
     refine kp hK (Za1 (Zaa hHeld.2 hb4)) (λhHeld=>?_);clear hK K;have bn:Box W4 W.heap.size 49 _:=(Box.new W.drew 49 _).below hb4;have cbn:=bn.cell;have fbn:=bn.frozen;refine tk 14 (some 29) ?_;refine Mono.st 16 ?_;intro K hK;go_simp
     refine kp hK (Za1 (Zag (Zag hHeld.2 (Yab _) _ _) (Yab _) _ _)) (λhHeld=>?_);clear hK K;refine wpAnyH_done Zk ?_ _;go_wp2_with fail
     go_meet
     exact⟨_,_,_,_,rfl,by rw[<-hbs.out];exact(bn.set 0 _).set 1 _,Yab _,hHeld.2,z4.ext (((Ext.refl _).set bn Zd _ _).set (bn.set _ _) Zd _ _)⟩
  case rest=>
   obtain⟨B3,p3,k3,c3,rfl,b3,hB3,hb,zn⟩:=hcut;replace hB:=Zaa hB hb;replace h3:=h3.ext (.of_below hb);replace b0:=b0.below hb;try clear cb0 lb0 fb0
   have cb0:=b0.cell;have lb0:=b0.lt;have fb0:=b0.frozen;replace b1:=b1.below hb;try clear cb1 lb1 fb1
   have cb1:=b1.cell;have lb1:=b1.lt;have fb1:=b1.frozen;have cb3:=b3.cell;have lb3:=b3.lt;have fb3:=b3.frozen;have K0:=KeepBut.refl (w.heap.size+1) wc;have n0:w.heap.size≠w.heap.size+1:=Zo;have n3:B3≠w.heap.size+1:=Zo;clear hbs hmx hb hs hB3;go_wp2_with fail
   go_region_held3 (λw'=>(∀b o,b<wc.heap.size->b≠(w.heap.size+1)->w'.cell? ⟨b,o,none⟩=wc.cell? ⟨b,o,none⟩)∧KeepBut (w.heap.size+1) wc.heap.size wc w') ((refine KeepBut.S ?_;first|exact K0.drew|(repeat' (first|exact Yai ‹_› | exact KeepBut.call (Yai ‹_›) ‹_› | refine KeepBut.set ?_ _ _|refine KeepBut.alloc ?_ _)))) (first|(go_at_call 176;(with_reducible refine(Zf3 m _ wc (KeepBut.ext (Yai ‹_›) b1 Zd) q l d _ h3 Zo).mono ?_);rintro e W4 ⟨p4,k4,c4,rfl,z4,rfl,hb4⟩;have b14:=b1.drew.below hb4;have cb14:=b14.cell;have fb14:=b14.frozen)|(go_at_call 177;(with_reducible refine(Zv1 _ _ _ _ _ _ _ _ _).mono ?_);rintro e W5 ⟨rfl,hb5⟩;have b15:=b14.below hb5;have cb15:=b15.cell;have fb15:=b15.frozen;replace z4:=z4.ext (.of_below hb5)))
   go_wp2
   have b3':=((((b15.set 0 (.bool (decide (a.num<0)))).set 1 (.slice p3 k3 c3)).set 2 (.bool false)).set 3 (.slice p4 k4 c4)).cell;have xE:Ext W5 _:=(((((Ext.refl W5).set b15 Zd 0 (.bool (decide (a.num<0)))).set (b15.set 0 (.bool (decide (a.num<0)))) Zd 1 (.slice p3 k3 c3))).set ((b15.set 0 (.bool (decide (a.num<0)))).set 1 (.slice p3 k3 c3)) Zd 2 (.bool false)).set (((b15.set 0 (.bool (decide (a.num<0)))).set 1 (.slice p3 k3 c3)).set 2 (.bool false)) Zd 3 (.slice p4 k4 c4);refine bodyPost_ret (v:=.tuple #[.agg #[.bool (decide (a.num<0)),.slice p3 k3 c3,.bool false,.slice p4 k4 c4],.int .i64 0]) (by simp[results,Tryz.results145,go_sem,b3']) rfl ⟨_,_,_,_,_,_,rfl,?_,?_,?_⟩
   ·exact zn.ext (KeepBut.ext (Yai ‹_›) b1 Zd)
   ·exact z4.ext xE
   ·exact KeepBut.below (Yai ‹_›) hB Zo hB.size
theorem Zxv (w:World):Calls Tryz.prog 133 #[] w λe w'=>∃p k c,e=.returned (.slice p k c)∧Sz 1 w' (.slice p k c) 1∧Below w.heap.size w w':=by
 go_enter Tryz.func133,Tryz.ntmps133
 go_wp2
 go_ret
 refine⟨_,_,_,rfl,?_,(Yae _ _).alloc (Yab _) _⟩;refine⟨1,λ_=>1,.inr ⟨_,_,_,#[.int .i64 1],(0,0),rfl,Zo,Zo,?_,?_⟩,⟨λi hi=>Zo,λi hi=>Zo,λ_=>Zd⟩,Zd,Zo⟩
 ·exact(Box.new w 3 #[.int .i64 1]).blk
 ·intro i hi
  obtain rfl:i=0:=Zo;rfl
theorem Zc7 (s:Bool) (p:Option Addr) (n c:Nat) (N:Int) (w wf:World) (hx:Ext wf w) (h:Sz 600 wf (.slice p n c) N) (hs:s=true->0<N) :
  Calls Tryz.prog 129 #[.agg #[.bool s,.slice p n c]] w λe w'=>e=.returned (.int .i64 0)∧Below w.heap.size w w':=by
 replace h:=h.ext hx;clear hx;have hp:=h.len_pos;obtain⟨n',f,h1,h2,h3,h4,rfl⟩:=h.sl;obtain⟨hc,hn,hcell⟩:=h1.opens;clear h h1 h3;by_cases h0:0<n'
 ·obtain⟨b,off,rfl,hb,hcell⟩:=hcell h0
  obtain⟨k,rfl⟩:∃k,n'=k+1:=⟨n'-1,Zo⟩
  have ht:=h2.top h0;simp only[Ybf]at ht;have ht':(f k==0)=false:=by simpa using ht
  replace ht:=Yah ht;go_enter Tryz.func129,Tryz.ntmps129
  go_wp2_with fail
  refine Zb1 λW hB hs b0=>?_;replace hcell:∀i,i<k+1->W.cell? ⟨b,off+i,none⟩=some (.int .i64 (f i)):=λi hi=>(hB.cell hb).trans (hcell i hi);have hlast:=hcell k Zo;have cb0:=b0.cell;have lb0:=b0.lt;have fb0:=b0.frozen;go_wp2
  go_loopw [35] (λa wr=>∃i:Nat,i<=k+1∧a=.int .i64 (i:Int)∧wr=W) (λa _=>(k+1-intOf a).toNat)
  case atStart=>exact⟨0,Zo,rfl,rfl⟩
  case round=>
   obtain⟨i,hi,rfl,rfl⟩:=hrel;by_cases hik:i<k+1
   ·have a1:=hcell i hik
    have a2:=h2.lo i hik;have a3:=h2.hi i hik;clear hcell h2 hlast;have a4:¬(f i<0):=Zo;have a5:¬(1000000000<=f i):=Zo;have hik':(i:Int)<k+1:=Zo;go_wp2
    go_roundw
    case rel=>refine⟨i+1,Zo,?_⟩;simp
    case measure=>simp[intOf];omega
   ·obtain rfl:i=k+1:=by omega
    go_wp2
    go_ret
    exact⟨rfl,hB⟩
 ·obtain rfl:n'=0:=by omega
  have hsf:s=false:=by
   cases s
   ·rfl
   ·have:=hp.1 (hs rfl);omega
  subst hsf;go_enter Tryz.func129,Tryz.ntmps129
  go_wp2_with fail
  refine Zb1 λW hB hs b0=>?_;have cb0:=b0.cell;have lb0:=b0.lt;have fb0:=b0.frozen;go_wp2
  go_loopw [35] (λa wr=>a=.int .i64 0∧wr=W) (λa _=>0)
  case atStart=>exact⟨rfl,rfl⟩
  case round=>
   obtain⟨rfl,rfl⟩:=hrel;go_wp2
   go_ret
   exact⟨rfl,hB⟩
end Go.Proofs.W
