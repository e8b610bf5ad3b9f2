/- Contracts of package matrix,and a verified evaluator. Part 7 of 27. No condition beside the row. -/
import Derived.Test.YtgkmjekkefmejaaGreatDoorA01
import Derived.Test.YtgkmjekkefmejaaGreatDoorA06
set_option linter.unusedVariables false
set_option linter.unusedSimpArgs false
set_option maxRecDepth 100000
set_option maxHeartbeats 4000000
namespace Go.Proofs.W
open Go.RowKit Go.Mono
theorem Zf3 (m:Nat) (w wf:World) (hx:Ext wf w) (p:Option Addr) (n c:Nat) (N:Int) (h:Sz m wf (.slice p n c) N) (hm:m<=1000000) :
  Calls Tryz.prog 158 #[.slice p n c] w λe w'=>∃p k c,e=.returned (.slice p k c)∧Sz m w' (.slice p k c) N∧k=n∧Below w.heap.size w w':=by
 obtain⟨n',f,h1,h2,h3,h4,rfl⟩:=h.sl;refine(Zgq p n' c f w (h1.ext hx) Zo).mono ?_;rintro e w' ⟨v,rfl,ho,hb⟩;have hs:=ho.sl Zo;obtain⟨p1,c1,rfl,_⟩:=hs.open;exact⟨_,_,_,rfl,⟨n',f,hs,h2,h3,h4⟩,rfl,hb⟩
theorem Zw2 (s s':Bool) (p q:Option Addr) (k c l d:Nat) (w:World) :
  Calls Tryz.prog 159 #[.agg #[.bool s,.slice p k c,.bool s',.slice q l d],.int .i64 0] w λe w'=>e=.returned (.tuple #[.agg #[.bool s,.slice p k c,.bool s',.slice q l d],.int .i64 0])∧Below w.heap.size w w':=by
 go_enter Tryz.func159,Tryz.ntmps159
 go_wp2_with fail
 have b3':=(Box.new (w.alloc (.cells #[.bool s,.slice p k c,.bool s',.slice q l d] 54)) 54 #[.bool s,.slice p k c,.bool s',.slice q l d]).cell;simp only[Yav]at b3';refine bodyPost_ret (v:=.tuple #[.agg #[.bool s,.slice p k c,.bool s',.slice q l d],.int .i64 0]) (by simp[results,Tryz.results159,go_sem,b3']) rfl ⟨rfl,?_⟩;exact Zad (Zad (Yae _ _) _) _
theorem Zi9 (m:Nat) (s:Bool) (p q:Option Addr) (k c l d:Nat) (a:Rat) (w wf:World) (hx:Ext wf w) (h1:Sg s a.num) (h2:Sz m wf (.slice p k c) a.num.natAbs) (h3:Sz m wf (.slice q l d) a.den) (hm:m<=600) :
  Calls Tryz.prog 111 #[.agg #[.bool s,.slice p k c,.slice q l d]] w λe w'=>∃p n c q l d,e=.returned (.tuple #[.agg #[.bool (decide (a.num<0)),.slice p n c,.bool false,.slice q l d],.int .i64 0])∧Sz m w' (.slice p n c) a.num.natAbs∧Sz m w' (.slice q l d) a.den∧Below w.heap.size w w':=by
 replace h2:=h2.ext hx;replace h3:=h3.ext hx;clear hx;have hk:k<=600:=by
  obtain⟨n',f,_,_,_,h4,rfl⟩:=h2.sl;omega
 have hl:l<=600:=by
  obtain⟨n',f,_,_,_,h4,rfl⟩:=h3.sl;omega
 have hmx:¬(600<if(k:Int)<l then(l:Int) else k):=by split<;>omega
 have hpos:=h2.len_pos;have hbs:(s&&decide (0<k))=decide (a.num<0):=by
  obtain⟨g1,g2⟩:=h1;cases s with
  | false=>have:=g2 rfl;simp only[Bool.false_and];exact(decide_eq_false Zo).symm
  | true=>have:=g1 rfl;simp only[Bool.true_and,decide_eq_decide];omega
 clear h1 hpos;go_enter Tryz.func111,Tryz.ntmps111
 go_wp2_with fail
 all_goals try(exfalso;revert hmx;simp_all;done)
 all_goals
  refine Zej λW hB hs b0 b1=>?_;have x0:=Ext.of_below hB;replace h2:=h2.ext x0;replace h3:=h3.ext x0;have cb0:=b0.cell;have lb0:=b0.lt;have fb0:=b0.frozen;have cb1:=b1.cell;have lb1:=b1.lt;have fb1:=b1.frozen;clear x0;go_cut [5] (λs5 wx=>∃B3 p n c,s5=.pointer (some ⟨B3,0,none⟩)∧Box wx B3 45 #[.bool (decide (a.num<0)),.slice p n c]∧W.heap.size<=B3∧Below W.heap.size W wx∧Sz m wx (.slice p n c) a.num.natAbs)
  case first=>
   cases s;case true=>
    simp only[Bool.true_and]at hbs;replace hbs:=Yah hbs;go_region_held3 (λw'=>(∀b o,b<W.heap.size->w'.cell? ⟨b,o,none⟩=W.cell? ⟨b,o,none⟩)∧Below W.heap.size W w') ((refine Za2 ?_;first|exact(Yae _ _).drew|(repeat' (first|exact Yai ‹_› | exact Zaa (Yai ‹_›) ‹_› | exact Zad (Yai ‹_›) _|exact Zad ‹_› _|refine Zaf ?_ Zo _ _)))) (first|(go_at_call 158;(with_reducible refine(Zf3 m _ W (.of_below (Yai ‹_›)) p k c _ h2 Zo).mono ?_);rintro e W4 ⟨p4,k4,c4,rfl,z4,rfl,hb4⟩;(have hzhb4:=Zaa (Yai ‹_›) hb4);(have hshb4:=hzhb4.size);(first|(replace bn:=bn.below hb4;clear cbn fbn lbn;have cbn:=bn.cell;have fbn:=bn.frozen;have lbn:=bn.lt)|(have bn:=(Box.new _ 45 _).below hb4;have cbn:=bn.cell;have fbn:=bn.frozen;have lbn:=bn.lt)|(have bn:=(Box.new _ 45 _).drew.below hb4;have cbn:=bn.cell;have fbn:=bn.frozen;have lbn:=bn.lt)|skip)))
    all_goals
     go_wp2_with fail
     go_meet
     exact⟨_,_,_,_,rfl,(by rw[<-hbs.out];first|exact Box.new _ _ _|exact(bn.set 0 _).set 1 _),Zo,Yai ‹_›,(by first|exact z4.ext ((Ext.refl _).alloc _)|exact z4.ext (((Ext.refl _).set bn Zd _ _).set (bn.set _ _) Zd _ _))⟩
   case false=>
    simp only[Bool.false_and]at hbs;replace hbs:=Yah hbs;refine wp_region_held_drew (S:=λw'=>(∀b o,b<W.heap.size->w'.cell? ⟨b,o,none⟩=W.cell? ⟨b,o,none⟩)∧Below W.heap.size W w') Zk (Za2 (Yae _ _).drew) (λhHeld=>?_);refine tk 0 (some 15) ?_;refine tk 1 (some 16) ?_;refine tk 2 (some 17) ?_;refine tk 3 (some 18) ?_;refine ts 4 (some 19) ?_;refine ts 5 (some 20) ?_;refine ts 6 (some 21) ?_;refine ts 7 (some 22) ?_;refine ts 8 (some 23) ?_;refine tk 9 (some 24) ?_;refine tk 10 (some 25) ?_;refine tk 11 (some 26) ?_;refine tk 12 (some 27) ?_;refine wpAnyH_ready (rs:=[13,15]) Zk Zs ?_;refine Yal rfl (λK hK=>?_) (Yal rfl (λK hK=>?_) Yas)
    ·
     go_simp
     (refine(Zf3 m _ W (.of_below hHeld.2) p k c _ h2 Zo).mono ?_;rintro e W4 ⟨p4,k4,c4,rfl,z4,rfl,hb4⟩)
     refine kp hK (Za2 (Zaa hHeld.2 hb4)) (λhHeld=>?_);clear hK K;refine tk 14 (some 29) ?_;refine Mono.st 15 ?_;intro K hK;go_simp
     have hb5:=hHeld.2;refine kp hK (Za2 (Zad hHeld.2 _)) (λhHeld=>?_);clear hK K;refine Mono.st 16 ?_;intro K hK;go_simp
     refine kp hK (Za2 (Zad hb5 _)) (λhHeld=>?_);clear hK K;refine wpAnyH_done Zk ?_ _;go_wp2_with fail
     go_meet
     exact⟨_,_,_,_,rfl,by rw[<-hbs.out];exact Box.new _ _ _,hb5.size,Zad hb5 _,z4.ext ((Ext.refl _).alloc _)⟩
    ·
     go_simp
     refine kp hK (Za2 (Zad hHeld.2 _)) (λhHeld=>?_);clear hK K;refine Mono.st 13 ?_;intro K hK;go_simp
     (refine(Zf3 m _ W (.of_below hHeld.2) p k c _ h2 Zo).mono ?_;rintro e W4 ⟨p4,k4,c4,rfl,z4,rfl,hb4⟩)
     refine kp hK (Za2 (Zaa hHeld.2 hb4)) (λhHeld=>?_);clear hK K;have bn:Box W4 W.heap.size 45 _:=(Box.new W.drew 45 _).below hb4;have cbn:=bn.cell;have fbn:=bn.frozen;refine tk 14 (some 29) ?_;refine Mono.st 16 ?_;intro K hK;go_simp
     refine kp hK (Za2 (Zaf (Zaf hHeld.2 (Yab _) _ _) (Yab _) _ _)) (λhHeld=>?_);clear hK K;refine wpAnyH_done Zk ?_ _;go_wp2_with fail
     go_meet
     exact⟨_,_,_,_,rfl,by rw[<-hbs.out];exact(bn.set 0 _).set 1 _,Yab _,hHeld.2,z4.ext (((Ext.refl _).set bn Zd _ _).set (bn.set _ _) Zd _ _)⟩
  case rest=>
   obtain⟨B3,p3,k3,c3,rfl,b3,hB3,hb,zn⟩:=hcut;replace hB:=Zaa hB hb;replace h3:=h3.ext (.of_below hb);replace b0:=b0.below hb;try clear cb0 lb0 fb0
   have cb0:=b0.cell;have lb0:=b0.lt;have fb0:=b0.frozen;replace b1:=b1.below hb;try clear cb1 lb1 fb1
   have cb1:=b1.cell;have lb1:=b1.lt;have fb1:=b1.frozen;have cb3:=b3.cell;have lb3:=b3.lt;have fb3:=b3.frozen;have K0:=KeepBut.refl (w.heap.size+1) wc;have n0:w.heap.size≠w.heap.size+1:=Zo;have n3:B3≠w.heap.size+1:=Zo;clear hbs hmx hb hs hB3;go_wp2_with fail
   go_region_held3 (λw'=>(∀b o,b<wc.heap.size->b≠(w.heap.size+1)->w'.cell? ⟨b,o,none⟩=wc.cell? ⟨b,o,none⟩)∧KeepBut (w.heap.size+1) wc.heap.size wc w') ((refine KeepBut.S ?_;first|exact K0.drew|(repeat' (first|exact Yai ‹_› | exact KeepBut.call (Yai ‹_›) ‹_› | refine KeepBut.set ?_ _ _|refine KeepBut.alloc ?_ _)))) (first|(go_at_call 158;(with_reducible refine(Zf3 m _ wc (KeepBut.ext (Yai ‹_›) b1 Zd) q l d _ h3 Zo).mono ?_);rintro e W4 ⟨p4,k4,c4,rfl,z4,rfl,hb4⟩;have b14:=b1.drew.below hb4;have cb14:=b14.cell;have fb14:=b14.frozen)|(go_at_call 159;(with_reducible refine(Zw2 _ _ _ _ _ _ _ _ _).mono ?_);rintro e W5 ⟨rfl,hb5⟩;have b15:=b14.below hb5;have cb15:=b15.cell;have fb15:=b15.frozen;replace z4:=z4.ext (.of_below hb5)))
   go_wp2
   have b3':=((((b15.set 0 (.bool (decide (a.num<0)))).set 1 (.slice p3 k3 c3)).set 2 (.bool false)).set 3 (.slice p4 k4 c4)).cell;have xE:Ext W5 _:=(((((Ext.refl W5).set b15 Zd 0 (.bool (decide (a.num<0)))).set (b15.set 0 (.bool (decide (a.num<0)))) Zd 1 (.slice p3 k3 c3))).set ((b15.set 0 (.bool (decide (a.num<0)))).set 1 (.slice p3 k3 c3)) Zd 2 (.bool false)).set (((b15.set 0 (.bool (decide (a.num<0)))).set 1 (.slice p3 k3 c3)).set 2 (.bool false)) Zd 3 (.slice p4 k4 c4);refine bodyPost_ret (v:=.tuple #[.agg #[.bool (decide (a.num<0)),.slice p3 k3 c3,.bool false,.slice p4 k4 c4],.int .i64 0]) (by simp[results,Tryz.results111,go_sem,b3']) rfl ⟨_,_,_,_,_,_,rfl,?_,?_,?_⟩
   ·exact zn.ext (KeepBut.ext (Yai ‹_›) b1 Zd)
   ·exact z4.ext xE
   ·exact KeepBut.below (Yai ‹_›) hB Zo hB.size
end Go.Proofs.W
