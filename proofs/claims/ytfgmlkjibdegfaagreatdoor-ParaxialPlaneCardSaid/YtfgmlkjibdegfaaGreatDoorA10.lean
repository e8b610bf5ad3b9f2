/- Contracts of package paraxial,and a verified evaluator. Part 10 of 28. No condition beside the row. -/
import Derived.Test.YtfgmlkjibdegfaaGreatDoorA03
import Derived.Test.YtfgmlkjibdegfaaGreatDoorA05
import Derived.Test.YtfgmlkjibdegfaaGreatDoorA09
set_option linter.unusedVariables false
set_option linter.unusedSimpArgs false
set_option maxRecDepth 100000
set_option maxHeartbeats 4000000
namespace Go.Proofs.W
open Go.RowKit Go.Mono
theorem Zqj (w:World):Sz 600 w (.slice none 0 0) 0:=⟨0,λ_=>0,.inl ⟨rfl,rfl⟩,⟨λi hi=>Zo,λi hi=>Zo,λh=>Zo⟩,rfl,Zo⟩
theorem Zqk (w:World):Calls Tryz.prog 92 #[.agg #[.bool false,.slice none 0 0,.bool false,.slice none 0 0]] w λe w'=>e=.returned (.int .i64 40)∧Below w.heap.size w w':=by
 go_enter Tryz.func92,Tryz.ntmps92
 go_wp2_with fail
 refine Zbo λW hB hs b0=>?_;have cb0:=b0.cell;have lb0:=b0.lt;have fb0:=b0.frozen;refine wp_region_held_drew (S:=λw'=>(∀b o,b<W.heap.size->w'.cell? ⟨b,o,none⟩=W.cell? ⟨b,o,none⟩)∧Below W.heap.size W w') Zk (Za3 (Yae _ _).drew) (λhHeld=>?_);refine tk 0 (some 3) ?_;refine tk 1 (some 4) ?_;refine Mono.st 2 ?_;intro K hK;go_simp
 (refine(Zda _ _ _ _ _ _ _ (Ext.refl _) (Zqj _) Zs).mono ?_;rintro e W4 ⟨rfl,hb4⟩)
 refine kp hK (Za3 (Zaa hHeld.2 hb4)) (λhHeld=>?_);clear hK K;refine tk 3 (some 6) ?_;refine tk 4 (some 7) ?_;refine tk 5 (some 8) ?_;refine tk 6 (some 9) ?_;refine Mono.st 7 ?_;intro K hK;go_simp
 (refine(Zda _ _ _ _ _ _ _ (Ext.refl _) (Zqj _) Zs).mono ?_;rintro e W5 ⟨rfl,hb5⟩)
 refine kp hK (Za3 (Zaa hHeld.2 hb5)) (λhHeld=>?_);clear hK K;refine tk 8 (some 11) ?_;refine tk 9 (some 12) ?_;refine tk 10 (some 13) ?_;refine tk 11 (some 14) ?_;refine tk 12 (some 15) ?_;refine tk 13 (some 16) ?_;refine tk 14 (some 17) ?_;refine tk 15 (some 18) ?_;refine tk 16 (some 19) ?_;refine tk 17 (some 20) ?_;refine tk 18 (some 21) ?_;refine tk 19 (some 22) ?_;refine tk 20 (some 23) ?_;refine tk 21 (some 24) ?_;refine tk 22 (some 25) ?_;refine ts 23 (some 26) ?_;refine ts 24 (some 27) ?_;refine ts 25 (some 28) ?_;refine ts 26 (some 29) ?_;refine ts 27 (some 30) ?_;refine ts 28 (some 31) ?_;refine ts 29 (some 32) ?_;refine ts 30 (some 33) ?_;refine ts 31 (some 34) ?_;refine ts 32 (some 35) ?_;refine ts 33 (some 36) ?_;refine tk 34 (some 37) ?_;refine wpAnyH_done Zk ?_ _;go_wp2
 go_ret
 exact⟨rfl,Zaa hB hHeld.2⟩
theorem Zeb (z:Int) (w:World) (h1 : -9223372036854775808<=z) (h2:z<=9223372036854775807) :
  Calls Tryz.prog 138 #[.int .i64 z] w λe w'=>∃v,e=.returned v∧LgV 3 w' v z∧Below w.heap.size w w':=by
 obtain⟨sz,hsz⟩:∃sz,decide (z<0)=sz:=⟨_,rfl⟩
 go_enter Tryz.func138,Tryz.ntmps138
 go_wp2_with fail
 refine Zbo λW hB hs b0=>?_;replace hsz:=Yah hsz;go_loopw [0,3] (λa v wr=>∃(k:Nat) (f:Nat->Int) (r:Int),a=.int .i64 r∧OwnF wr (w.heap.size+1) v k f∧Box wr w.heap.size 52 #[.bool false,.slice none 0 0]∧OfInv z r k f∧Below w.heap.size w wr∧w.heap.size+1<=wr.heap.size) (λa _ _=>(intOf a).natAbs)
 case atStart=>exact⟨0,_,z,rfl,OwnF.nil _ _ _,b0,OfInv.start z,hB,hs⟩
 case round=>
  clear b0 hB hs;obtain⟨k,f,r,rfl,ho,b0,hI,hB,hs⟩:=hrel;have hr:=hI.bound h1 h2;obtain⟨p,c,rfl⟩:=ho.shape;by_cases h0:r=0
  ·subst h0
   have hv:=hI.val;have hd:Digs f k:=⟨hI.lo,hI.hi,hI.top rfl⟩
   have hk3:k<=3:=by
    by_cases h:k<=3
    ·exact h
    ·have:=hd.ge Zo
     have h3:=Zbt (i:=3) (k:=k-1) Zo;have e3:pw 3=1000000000000000000000000000:=Zd;simp at hv;omega
   have hv':vf f k=z.natAbs:=by simpa using hv
   go_wp2_with fail
   refine(Zbp sz p k c f wr (ho.sl Zo) Zo hI.lo hI.hi).mono ?_;rintro e W1 ⟨v',rfl,ho2,d2,e2,hb⟩;replace b0:=b0.below hb;have hB1:=Zaa hB hb;have hneg:(sz&&decide (0<vf f k))=decide (z<0):=by
    rw[<-hsz.out,hv',Ycx];simp;omega
   rw[hneg];have hlg:=ho2.lg (z:=z) (m:=3) d2 (by rw[e2,hv']) (by have:=Za7 f k;omega) Zo;rw[hsz.out]at hlg ⊢;obtain⟨p',c',rfl⟩:=ho2.shape;have hw1:=hb.size;clear ho ho2 hb hneg hI hv hv' d2 e2 hB;go_wp2_with first|(refine Zab rfl 52 _ _ rfl w.heap.size 0 52 _ #[.bool sz,.slice p' (trimN f k) c'] #[.bool sz,.slice p' (trimN f k) c'] rfl rfl b0 Zae (Yaa rfl) (Zas _ _ _ _) (Zah rfl) ?_;intro W2 hk b2)
   have hb2:=hk.below hB1 Zo hB1.size;refine bodyPost_ret (b2.results rfl _ _ rfl Tryz.underlying52 rfl Zae) rfl ⟨_,rfl,hlg.ext (hk.ext b0 Zd),hb2⟩
  ·have hk:=hI.small h1 h2 h0
   have hst:=hI.step h0;have h0':(r != 0)=true:=by simpa using h0
   have hmm:(r.tmod 1000000000).natAbs<1000000000:=by rw[Ydy];exact Nat.mod_lt _ Zd
   have hm1 : -1000000000<r.tmod 1000000000:=Zo;have hm2:r.tmod 1000000000<1000000000:=Zo;have hdd:(r.tdiv 1000000000).natAbs=r.natAbs/1000000000:=by rw[Yfg];rfl
   have hw:wrap64 (r.tdiv 1000000000)=r.tdiv 1000000000:=by unfold wrap64;omega
   replace h0:=Yah h0;by_cases hneg:r.tmod 1000000000<0
   all_goals
    go_wp2_with (at_builtin;(refine Zbb _ rfl _ _ 33 rfl Tryz.underlying33 Zbz (w.heap.size+1) (.slice p k c) k f rfl ?_ (some ⟨wr.heap.size,0,none⟩) 1 1 (λ_=>((r.tmod 1000000000).natAbs:Int)) rfl ?_ ?_ ?_ ?_);(exact(ho.below ((Yae _ _).alloc (Yab _) _)));(exact(Zii wr _ _ Zo));omega;(simp;omega);(intro v' w1 ho' hg))
    obtain⟨p',c',rfl⟩:=ho'.shape;have hz:=((Yae (w.heap.size+1) wr).alloc hs (.cells _ 3)).grown hg (by simp;omega) (λk hk=>ho.low k hk);replace b0:=b0.low hz Zo;go_wp2
    go_roundw
    case rel=>
     refine⟨k+1,_,r.tdiv 1000000000,rfl,ho',b0,hst,hB.trans (hz.mono Zo),?_⟩;have:=hz.size;omega
    case measure=>
     have:=h0.out;show(r.tdiv 1000000000).natAbs<r.natAbs;rw[hdd];exact Nat.div_lt_self Zo Zd
theorem Zs1 (a b:Rat) (u v:Value) (w:World) (ha:QV w u a) (hb:QV w v b) (hf:Fits (a+b)) :
  Calls Tryz.prog 69 #[u,v,.func (.func 71) #[] #[]] w λe w'=>∃r,e=.returned (.tuple #[r,.int .i64 0])∧QV w' r (a+b)∧Below w.heap.size w w':=by
 obtain⟨hf1,hf2⟩:=hf;have ha':=ha;have hb':=hb;obtain⟨p1,k1,c1,q1,l1,d1,rfl,x1,x2⟩:=ha;obtain⟨p2,k2,c2,q2,l2,d2,rfl,y1,y2⟩:=hb;go_enter Tryz.func69,Tryz.ntmps69
 go_wp2_with fail
 refine Zfa λW hB hs b0 b1 b2 b3=>?_;replace ha':=ha'.ext (.of_below hB);replace hb':=hb'.ext (.of_below hB);refine(Zgn a b _ _ _ _ p1 q1 p2 q2 k1 c1 l1 d1 k2 c2 l2 d2 _ _ b3 ha' hb').mono ?_;rintro e W1 ⟨rfl,hb1⟩;replace hB:=Zaa hB hb1;replace ha':=ha'.ext (.of_below hb1);replace hb':=hb'.ext (.of_below hb1);replace b0:=b0.below hb1;try clear cb0 lb0 fb0
 have cb0:=b0.cell;have lb0:=b0.lt;have fb0:=b0.frozen;replace b1:=b1.below hb1;try clear cb1 lb1 fb1
 have cb1:=b1.cell;have lb1:=b1.lt;have fb1:=b1.frozen;replace b2:=b2.below hb1;try clear cb2 lb2 fb2
 have cb2:=b2.cell;have lb2:=b2.lt;have fb2:=b2.frozen;have xW:=Ext.of_below hB;have n0:w.heap.size≠w.heap.size+1+1:=Zo;have n1:w.heap.size+1≠w.heap.size+1+1:=Zo;have K0:=KeepBut.refl (w.heap.size+1+1) W1;go_wp2_with fail
 have ra:RatV 600 W1 (.agg #[.bool (decide (a.num<0)),.slice p1 k1 c1,.slice q1 l1 d1]) a:=⟨_,_,_,_,_,_,_,rfl,Sg.self _,x1.ext xW,x2.ext xW⟩
 have rb:RatV 600 W1 (.agg #[.bool (decide (b.num<0)),.slice p2 k2 c2,.slice q2 l2 d2]) b:=⟨_,_,_,_,_,_,_,rfl,Sg.self _,y1.ext xW,y2.ext xW⟩
 have bR:=b2;clear ha' hb' x1 x2 y1 y2 xW hb1 hs;go_region_held3 (λw'=>(∀b o,b<W1.heap.size->b≠(w.heap.size+1+1)->w'.cell? ⟨b,o,none⟩=W1.cell? ⟨b,o,none⟩)∧KeepBut (w.heap.size+1+1) W1.heap.size W1 w') ((refine KeepBut.S ?_;first|exact K0.drew|(repeat' (first|exact Yai ‹_› | exact KeepBut.call (Yai ‹_›) ‹_› | refine KeepBut.set ?_ _ _|refine KeepBut.alloc ?_ _)))) (first|(go_at_call 113;(with_reducible refine(Zck (decide (a.num<0)) false p1 q1 k1 c1 l1 d1 _).mono ?_);rintro e W5 ⟨rfl,hb5⟩;(first|replace bR:=bR.below hb5|replace bR:=bR.drew.below hb5);have cbR:=bR.cell;have fbR:=bR.frozen)|(go_at_call 113;(with_reducible refine(Zck (decide (b.num<0)) false p2 q2 k2 c2 l2 d2 _).mono ?_);rintro e W5 ⟨rfl,hb5⟩;(first|replace bR:=bR.below hb5|replace bR:=bR.drew.below hb5);have cbR:=bR.cell;have fbR:=bR.frozen)|(go_at_call 71;(with_reducible refine(Zpv 600 a b _ _ _ W1 (KeepBut.ext (Yai ‹_›) b2 Zd) ra rb Zo).mono ?_);rintro e W6 ⟨r,rfl,⟨s6,p6,k6,c6,q6,l6,d6,rfl,g6,z6,y6⟩,hb6⟩;replace bR:=bR.below hb6)|(go_at_call 114;(with_reducible refine(Zfb 600 s6 p6 q6 k6 c6 l6 d6 _ _ _ (Ext.refl _) g6 (z6.tight hf1) (y6.tight hf2) Zo).mono ?_);rintro e W7 ⟨p7,k7,c7,q7,l7,d7,rfl,z7,y7,hb7⟩;replace bR:=bR.below hb7;have cbR:=bR.cell;have fbR:=bR.frozen))
 all_goals
  go_wp2
  have b3':=((((bR.set 0 (.bool (decide ((a+b).num<0)))).set 1 (.slice p7 k7 c7)).set 2 (.bool false)).set 3 (.slice q7 l7 d7)).cell;have xE:Ext W7 _:=(((((Ext.refl W7).set bR Zd 0 (.bool (decide ((a+b).num<0)))).set (bR.set 0 (.bool (decide ((a+b).num<0)))) Zd 1 (.slice p7 k7 c7))).set ((bR.set 0 (.bool (decide ((a+b).num<0)))).set 1 (.slice p7 k7 c7)) Zd 2 (.bool false)).set (((bR.set 0 (.bool (decide ((a+b).num<0)))).set 1 (.slice p7 k7 c7)).set 2 (.bool false)) Zd 3 (.slice q7 l7 d7);refine bodyPost_ret (v:=.tuple #[.agg #[.bool (decide ((a+b).num<0)),.slice p7 k7 c7,.bool false,.slice q7 l7 d7],.int .i64 0]) (by simp[results,Tryz.results69,go_sem,b3']) rfl ⟨_,rfl,⟨_,_,_,_,_,_,rfl,z7.ext xE,y7.ext xE⟩,?_⟩;exact KeepBut.below (Yai ‹_›) hB Zo hB.size
theorem Zpw (a b:Rat) (u v:Value) (w:World) (ha:QV w u a) (hb:QV w v b) (hf:Fits (a-b)) :
  Calls Tryz.prog 69 #[u,v,.func (.func 111) #[] #[]] w λe w'=>∃r,e=.returned (.tuple #[r,.int .i64 0])∧QV w' r (a-b)∧Below w.heap.size w w':=by
 obtain⟨hf1,hf2⟩:=hf;have ha':=ha;have hb':=hb;obtain⟨p1,k1,c1,q1,l1,d1,rfl,x1,x2⟩:=ha;obtain⟨p2,k2,c2,q2,l2,d2,rfl,y1,y2⟩:=hb;go_enter Tryz.func69,Tryz.ntmps69
 go_wp2_with fail
 refine Zfa λW hB hs b0 b1 b2 b3=>?_;replace ha':=ha'.ext (.of_below hB);replace hb':=hb'.ext (.of_below hB);refine(Zgn a b _ _ _ _ p1 q1 p2 q2 k1 c1 l1 d1 k2 c2 l2 d2 _ _ b3 ha' hb').mono ?_;rintro e W1 ⟨rfl,hb1⟩;replace hB:=Zaa hB hb1;replace ha':=ha'.ext (.of_below hb1);replace hb':=hb'.ext (.of_below hb1);replace b0:=b0.below hb1;try clear cb0 lb0 fb0
 have cb0:=b0.cell;have lb0:=b0.lt;have fb0:=b0.frozen;replace b1:=b1.below hb1;try clear cb1 lb1 fb1
 have cb1:=b1.cell;have lb1:=b1.lt;have fb1:=b1.frozen;replace b2:=b2.below hb1;try clear cb2 lb2 fb2
 have cb2:=b2.cell;have lb2:=b2.lt;have fb2:=b2.frozen;have xW:=Ext.of_below hB;have n0:w.heap.size≠w.heap.size+1+1:=Zo;have n1:w.heap.size+1≠w.heap.size+1+1:=Zo;have K0:=KeepBut.refl (w.heap.size+1+1) W1;go_wp2_with fail
 have ra:RatV 600 W1 (.agg #[.bool (decide (a.num<0)),.slice p1 k1 c1,.slice q1 l1 d1]) a:=⟨_,_,_,_,_,_,_,rfl,Sg.self _,x1.ext xW,x2.ext xW⟩
 have rb:RatV 600 W1 (.agg #[.bool (decide (b.num<0)),.slice p2 k2 c2,.slice q2 l2 d2]) b:=⟨_,_,_,_,_,_,_,rfl,Sg.self _,y1.ext xW,y2.ext xW⟩
 have bR:=b2;clear ha' hb' x1 x2 y1 y2 xW hb1 hs;go_region_held3 (λw'=>(∀b o,b<W1.heap.size->b≠(w.heap.size+1+1)->w'.cell? ⟨b,o,none⟩=W1.cell? ⟨b,o,none⟩)∧KeepBut (w.heap.size+1+1) W1.heap.size W1 w') ((refine KeepBut.S ?_;first|exact K0.drew|(repeat' (first|exact Yai ‹_› | exact KeepBut.call (Yai ‹_›) ‹_› | refine KeepBut.set ?_ _ _|refine KeepBut.alloc ?_ _)))) (first|(go_at_call 113;(with_reducible refine(Zck (decide (a.num<0)) false p1 q1 k1 c1 l1 d1 _).mono ?_);rintro e W5 ⟨rfl,hb5⟩;(first|replace bR:=bR.below hb5|replace bR:=bR.drew.below hb5);have cbR:=bR.cell;have fbR:=bR.frozen)|(go_at_call 113;(with_reducible refine(Zck (decide (b.num<0)) false p2 q2 k2 c2 l2 d2 _).mono ?_);rintro e W5 ⟨rfl,hb5⟩;(first|replace bR:=bR.below hb5|replace bR:=bR.drew.below hb5);have cbR:=bR.cell;have fbR:=bR.frozen)|(go_at_call 111;(with_reducible refine(Zsx 600 a b _ _ _ W1 (KeepBut.ext (Yai ‹_›) b2 Zd) ra rb Zo).mono ?_);rintro e W6 ⟨r,rfl,⟨s6,p6,k6,c6,q6,l6,d6,rfl,g6,z6,y6⟩,hb6⟩;replace bR:=bR.below hb6)|(go_at_call 114;(with_reducible refine(Zfb 600 s6 p6 q6 k6 c6 l6 d6 _ _ _ (Ext.refl _) g6 (z6.tight hf1) (y6.tight hf2) Zo).mono ?_);rintro e W7 ⟨p7,k7,c7,q7,l7,d7,rfl,z7,y7,hb7⟩;replace bR:=bR.below hb7;have cbR:=bR.cell;have fbR:=bR.frozen))
 all_goals
  go_wp2
  have b3':=((((bR.set 0 (.bool (decide ((a-b).num<0)))).set 1 (.slice p7 k7 c7)).set 2 (.bool false)).set 3 (.slice q7 l7 d7)).cell;have xE:Ext W7 _:=(((((Ext.refl W7).set bR Zd 0 (.bool (decide ((a-b).num<0)))).set (bR.set 0 (.bool (decide ((a-b).num<0)))) Zd 1 (.slice p7 k7 c7))).set ((bR.set 0 (.bool (decide ((a-b).num<0)))).set 1 (.slice p7 k7 c7)) Zd 2 (.bool false)).set (((bR.set 0 (.bool (decide ((a-b).num<0)))).set 1 (.slice p7 k7 c7)).set 2 (.bool false)) Zd 3 (.slice q7 l7 d7);refine bodyPost_ret (v:=.tuple #[.agg #[.bool (decide ((a-b).num<0)),.slice p7 k7 c7,.bool false,.slice q7 l7 d7],.int .i64 0]) (by simp[results,Tryz.results69,go_sem,b3']) rfl ⟨_,rfl,⟨_,_,_,_,_,_,rfl,z7.ext xE,y7.ext xE⟩,?_⟩;exact KeepBut.below (Yai ‹_›) hB Zo hB.size
theorem Zpx (a b:Rat) (u v:Value) (w:World) (ha:QV w u a) (hb:QV w v b) (hf:Fits (a*b)) :
  Calls Tryz.prog 69 #[u,v,.func (.func 70) #[] #[]] w λe w'=>∃r,e=.returned (.tuple #[r,.int .i64 0])∧QV w' r (a*b)∧Below w.heap.size w w':=by
 obtain⟨hf1,hf2⟩:=hf;have ha':=ha;have hb':=hb;obtain⟨p1,k1,c1,q1,l1,d1,rfl,x1,x2⟩:=ha;obtain⟨p2,k2,c2,q2,l2,d2,rfl,y1,y2⟩:=hb;go_enter Tryz.func69,Tryz.ntmps69
 go_wp2_with fail
 refine Zfa λW hB hs b0 b1 b2 b3=>?_;replace ha':=ha'.ext (.of_below hB);replace hb':=hb'.ext (.of_below hB);refine(Zgn a b _ _ _ _ p1 q1 p2 q2 k1 c1 l1 d1 k2 c2 l2 d2 _ _ b3 ha' hb').mono ?_;rintro e W1 ⟨rfl,hb1⟩;replace hB:=Zaa hB hb1;replace ha':=ha'.ext (.of_below hb1);replace hb':=hb'.ext (.of_below hb1);replace b0:=b0.below hb1;try clear cb0 lb0 fb0
 have cb0:=b0.cell;have lb0:=b0.lt;have fb0:=b0.frozen;replace b1:=b1.below hb1;try clear cb1 lb1 fb1
 have cb1:=b1.cell;have lb1:=b1.lt;have fb1:=b1.frozen;replace b2:=b2.below hb1;try clear cb2 lb2 fb2
 have cb2:=b2.cell;have lb2:=b2.lt;have fb2:=b2.frozen;have xW:=Ext.of_below hB;have n0:w.heap.size≠w.heap.size+1+1:=Zo;have n1:w.heap.size+1≠w.heap.size+1+1:=Zo;have K0:=KeepBut.refl (w.heap.size+1+1) W1;go_wp2_with fail
 have ra:RatV 600 W1 (.agg #[.bool (decide (a.num<0)),.slice p1 k1 c1,.slice q1 l1 d1]) a:=⟨_,_,_,_,_,_,_,rfl,Sg.self _,x1.ext xW,x2.ext xW⟩
 have rb:RatV 600 W1 (.agg #[.bool (decide (b.num<0)),.slice p2 k2 c2,.slice q2 l2 d2]) b:=⟨_,_,_,_,_,_,_,rfl,Sg.self _,y1.ext xW,y2.ext xW⟩
 have bR:=b2;clear ha' hb' x1 x2 y1 y2 xW hb1 hs;go_region_held3 (λw'=>(∀b o,b<W1.heap.size->b≠(w.heap.size+1+1)->w'.cell? ⟨b,o,none⟩=W1.cell? ⟨b,o,none⟩)∧KeepBut (w.heap.size+1+1) W1.heap.size W1 w') ((refine KeepBut.S ?_;first|exact K0.drew|(repeat' (first|exact Yai ‹_› | exact KeepBut.call (Yai ‹_›) ‹_› | refine KeepBut.set ?_ _ _|refine KeepBut.alloc ?_ _)))) (first|(go_at_call 113;(with_reducible refine(Zck (decide (a.num<0)) false p1 q1 k1 c1 l1 d1 _).mono ?_);rintro e W5 ⟨rfl,hb5⟩;(first|replace bR:=bR.below hb5|replace bR:=bR.drew.below hb5);have cbR:=bR.cell;have fbR:=bR.frozen)|(go_at_call 113;(with_reducible refine(Zck (decide (b.num<0)) false p2 q2 k2 c2 l2 d2 _).mono ?_);rintro e W5 ⟨rfl,hb5⟩;(first|replace bR:=bR.below hb5|replace bR:=bR.drew.below hb5);have cbR:=bR.cell;have fbR:=bR.frozen)|(go_at_call 70;(with_reducible refine(Zmn 600 a b _ _ _ W1 (KeepBut.ext (Yai ‹_›) b2 Zd) ra rb Zo).mono ?_);rintro e W6 ⟨r,rfl,⟨s6,p6,k6,c6,q6,l6,d6,rfl,g6,z6,y6⟩,hb6⟩;replace bR:=bR.below hb6)|(go_at_call 114;(with_reducible refine(Zfb 600 s6 p6 q6 k6 c6 l6 d6 _ _ _ (Ext.refl _) g6 (z6.tight hf1) (y6.tight hf2) Zo).mono ?_);rintro e W7 ⟨p7,k7,c7,q7,l7,d7,rfl,z7,y7,hb7⟩;replace bR:=bR.below hb7;have cbR:=bR.cell;have fbR:=bR.frozen))
 all_goals
  go_wp2
  have b3':=((((bR.set 0 (.bool (decide ((a*b).num<0)))).set 1 (.slice p7 k7 c7)).set 2 (.bool false)).set 3 (.slice q7 l7 d7)).cell;have xE:Ext W7 _:=(((((Ext.refl W7).set bR Zd 0 (.bool (decide ((a*b).num<0)))).set (bR.set 0 (.bool (decide ((a*b).num<0)))) Zd 1 (.slice p7 k7 c7))).set ((bR.set 0 (.bool (decide ((a*b).num<0)))).set 1 (.slice p7 k7 c7)) Zd 2 (.bool false)).set (((bR.set 0 (.bool (decide ((a*b).num<0)))).set 1 (.slice p7 k7 c7)).set 2 (.bool false)) Zd 3 (.slice q7 l7 d7);refine bodyPost_ret (v:=.tuple #[.agg #[.bool (decide ((a*b).num<0)),.slice p7 k7 c7,.bool false,.slice q7 l7 d7],.int .i64 0]) (by simp[results,Tryz.results69,go_sem,b3']) rfl ⟨_,rfl,⟨_,_,_,_,_,_,rfl,z7.ext xE,y7.ext xE⟩,?_⟩;exact KeepBut.below (Yai ‹_›) hB Zo hB.size
theorem Zs2 (a b:Rat) (u v:Value) (w:World) (ha:QV w u a) (hb:QV w v b) (h0:b.num≠0) (hf:Fits (a/b)) :
  Calls Tryz.prog 69 #[u,v,.func (.func 107) #[] #[]] w λe w'=>∃r,e=.returned (.tuple #[r,.int .i64 0])∧QV w' r (a/b)∧Below w.heap.size w w':=by
 obtain⟨hf1,hf2⟩:=hf;have ha':=ha;have hb':=hb;obtain⟨p1,k1,c1,q1,l1,d1,rfl,x1,x2⟩:=ha;obtain⟨p2,k2,c2,q2,l2,d2,rfl,y1,y2⟩:=hb;go_enter Tryz.func69,Tryz.ntmps69
 go_wp2_with fail
 refine Zfa λW hB hs b0 b1 b2 b3=>?_;replace ha':=ha'.ext (.of_below hB);replace hb':=hb'.ext (.of_below hB);refine(Zgn a b _ _ _ _ p1 q1 p2 q2 k1 c1 l1 d1 k2 c2 l2 d2 _ _ b3 ha' hb').mono ?_;rintro e W1 ⟨rfl,hb1⟩;replace hB:=Zaa hB hb1;replace ha':=ha'.ext (.of_below hb1);replace hb':=hb'.ext (.of_below hb1);replace b0:=b0.below hb1;try clear cb0 lb0 fb0
 have cb0:=b0.cell;have lb0:=b0.lt;have fb0:=b0.frozen;replace b1:=b1.below hb1;try clear cb1 lb1 fb1
 have cb1:=b1.cell;have lb1:=b1.lt;have fb1:=b1.frozen;replace b2:=b2.below hb1;try clear cb2 lb2 fb2
 have cb2:=b2.cell;have lb2:=b2.lt;have fb2:=b2.frozen;have xW:=Ext.of_below hB;have n0:w.heap.size≠w.heap.size+1+1:=Zo;have n1:w.heap.size+1≠w.heap.size+1+1:=Zo;have K0:=KeepBut.refl (w.heap.size+1+1) W1;go_wp2_with fail
 have ra:RatV 600 W1 (.agg #[.bool (decide (a.num<0)),.slice p1 k1 c1,.slice q1 l1 d1]) a:=⟨_,_,_,_,_,_,_,rfl,Sg.self _,x1.ext xW,x2.ext xW⟩
 have rb:RatV 600 W1 (.agg #[.bool (decide (b.num<0)),.slice p2 k2 c2,.slice q2 l2 d2]) b:=⟨_,_,_,_,_,_,_,rfl,Sg.self _,y1.ext xW,y2.ext xW⟩
 have bR:=b2;clear ha' hb' x1 x2 y1 y2 xW hb1 hs;go_region_held3 (λw'=>(∀b o,b<W1.heap.size->b≠(w.heap.size+1+1)->w'.cell? ⟨b,o,none⟩=W1.cell? ⟨b,o,none⟩)∧KeepBut (w.heap.size+1+1) W1.heap.size W1 w') ((refine KeepBut.S ?_;first|exact K0.drew|(repeat' (first|exact Yai ‹_› | exact KeepBut.call (Yai ‹_›) ‹_› | refine KeepBut.set ?_ _ _|refine KeepBut.alloc ?_ _)))) (first|(go_at_call 113;(with_reducible refine(Zck (decide (a.num<0)) false p1 q1 k1 c1 l1 d1 _).mono ?_);rintro e W5 ⟨rfl,hb5⟩;(first|replace bR:=bR.below hb5|replace bR:=bR.drew.below hb5);have cbR:=bR.cell;have fbR:=bR.frozen)|(go_at_call 113;(with_reducible refine(Zck (decide (b.num<0)) false p2 q2 k2 c2 l2 d2 _).mono ?_);rintro e W5 ⟨rfl,hb5⟩;(first|replace bR:=bR.below hb5|replace bR:=bR.drew.below hb5);have cbR:=bR.cell;have fbR:=bR.frozen)|(go_at_call 107;(with_reducible refine(Zu6 600 a b _ _ _ W1 (KeepBut.ext (Yai ‹_›) b2 Zd) ra rb h0 Zo).mono ?_);rintro e W6 ⟨r,rfl,⟨s6,p6,k6,c6,q6,l6,d6,rfl,g6,z6,y6⟩,hb6⟩;replace bR:=bR.below hb6)|(go_at_call 114;(with_reducible refine(Zfb 600 s6 p6 q6 k6 c6 l6 d6 _ _ _ (Ext.refl _) g6 (z6.tight hf1) (y6.tight hf2) Zo).mono ?_);rintro e W7 ⟨p7,k7,c7,q7,l7,d7,rfl,z7,y7,hb7⟩;replace bR:=bR.below hb7;have cbR:=bR.cell;have fbR:=bR.frozen))
 all_goals
  go_wp2
  have b3':=((((bR.set 0 (.bool (decide ((a/b).num<0)))).set 1 (.slice p7 k7 c7)).set 2 (.bool false)).set 3 (.slice q7 l7 d7)).cell;have xE:Ext W7 _:=(((((Ext.refl W7).set bR Zd 0 (.bool (decide ((a/b).num<0)))).set (bR.set 0 (.bool (decide ((a/b).num<0)))) Zd 1 (.slice p7 k7 c7))).set ((bR.set 0 (.bool (decide ((a/b).num<0)))).set 1 (.slice p7 k7 c7)) Zd 2 (.bool false)).set (((bR.set 0 (.bool (decide ((a/b).num<0)))).set 1 (.slice p7 k7 c7)).set 2 (.bool false)) Zd 3 (.slice q7 l7 d7);refine bodyPost_ret (v:=.tuple #[.agg #[.bool (decide ((a/b).num<0)),.slice p7 k7 c7,.bool false,.slice q7 l7 d7],.int .i64 0]) (by simp[results,Tryz.results69,go_sem,b3']) rfl ⟨_,rfl,⟨_,_,_,_,_,_,rfl,z7.ext xE,y7.ext xE⟩,?_⟩;exact KeepBut.below (Yai ‹_›) hB Zo hB.size
theorem Zkk (s:Bool) (p q:Option Addr) (n m c1 c2:Nat) (f g:Nat->Int) (w:World) (h1:SlF w (.slice p n c1) n f) (h2:SlF w (.slice q m c2) m g) (d1:Digs f n) (d2:Digs g m) (hn0:0<n) (hm0:0<m) (hn6:n<=100000) (hm6:m<=100000) :
  Calls Tryz.prog 185 #[.agg #[.bool s,.slice p n c1],.agg #[.bool s,.slice q m c2]] w λe w'=>∃p k c h,e=.returned (.agg #[.bool s,.slice p k c])∧SlF w' (.slice p k c) k h∧Digs h k∧vf h k=vf f n+vf g m∧k<=max n m+1∧Below w.heap.size w w':=by
 obtain⟨hc1,hn1,_⟩:=h1.opens;obtain⟨hc2,hn2,_⟩:=h2.opens;have hn0':((n:Int)==0)=false:=by simp;omega
 have hm0':((m:Int)==0)=false:=by simp;omega
 go_enter Tryz.func185,Tryz.ntmps185
 go_wp2
 refine Zfs λW hB hs b0 b1 b2=>?_;go_loopw [5,6,7] (λv x y wr=>∃(i:Nat) (c:Int) (h:Nat->Int),i<=max n m+1∧x=.int .i64 c∧y=.int .i64 (i:Int)∧OwnF wr (w.heap.size+1+1+1) v i h∧SumI (xt f n) (xt g m) i h c∧Box wr w.heap.size 52 #[.bool s,.slice p n c1]∧Box wr (w.heap.size+1) 52 #[.bool s,.slice q m c2]∧Box wr (w.heap.size+1+1) 52 #[.bool false,.slice none 0 0]∧Below w.heap.size w wr∧w.heap.size+1+1+1<=wr.heap.size) (λ_ _ y _=>(max n m+1-intOf y).toNat)
 case atStart=>exact⟨0,0,_,Yat _,rfl,rfl,OwnF.nil _ _ _,SumI.start _ _ (λ_=>0),b0,b1,b2,hB,hs⟩
 case round=>
  clear b0 b1 b2 hB hs;obtain⟨i,c,h,hi,rfl,rfl,ho,hI,b0,b1,b2,hB,hs⟩:=hrel;obtain⟨pv,cv,rfl⟩:=ho.shape;by_cases hgo:i<n∨i<m∨0<c
  ·have hlt:i<max n m+1:=by
    rcases hgo with h|h|h
    ·omega
    ·omega
    ·by_cases hin : i < n
     ·omega
     ·by_cases him:i<m
      ·omega
      ·have:=hI.len d1.hi d2.hi Zo Zo h
       omega
   have x0:=Zi1 d1.lo i;have x1:=Zom d1.hi i;have y0:=Zi1 d2.lo i;have y1:=Zom d2.hi i;have hat1:=λX (hX:Below w.heap.size w X)=>Zfl p n c1 i f X (h1.ext (.of_below hX));have hat2:=λX (hX:Below w.heap.size w X)=>Zfl q m c2 i g X (h2.ext (.of_below hX));have hnx:=hI.next x0 x1 y0 y1;have k0:=hI.c0;have k1:=hI.c1;generalize hX:xt f n=Xf at *;generalize hY:xt g m=Yf at *;generalize Xf i=x at *;generalize Yf i=y at *;have hways:((i:Int)<n)∨(¬(i:Int)<n∧(i:Int)<m)∨(¬(i:Int)<n∧¬(i:Int)<m∧0<c):=Zo;have cb0:=b0.cell;have lb0:=b0.lt;have fb0:=b0.frozen;have cb1:=b1.cell;have lb1:=b1.lt;have fb1:=b1.frozen;clear hgo;rcases hways with hw1|⟨hw1,hw2⟩|⟨hw1,hw2,hw3⟩
   all_goals
    go_wp2
    refine wp_region_held_drew (S:=λw'=>(∀i,w'.cell? ⟨w.heap.size,i,none⟩=(#[.bool s,.slice p n c1]:Array Value)[i]?)∧(∀i,w'.cell? ⟨w.heap.size+1,i,none⟩=(#[.bool s,.slice q m c2]:Array Value)[i]?)∧Below w.heap.size w w') Zx ⟨cb0,cb1,hB.drew⟩ (λhHeld=>?_);have hoX:=ho.below (Yae wr.heap.size wr).drew;have bX0:=b0.drew;have bX1:=b1.drew;have bX2:=b2.drew;have hsX:w.heap.size+1+1+1<=wr.drew.heap.size:=hs;generalize wr.drew=X0 at *;refine tk 0 (some 46) ?_;refine tk 1 (some 47) ?_;refine tk 2 (some 48) ?_;refine tk 4 (some 50) ?_;refine tk 5 (some 51) ?_;refine tk 6 (some 52) ?_;refine tk 9 (some 55) ?_;refine Mono.stc 3 (some 49) (hat1 X0 hHeld.2.2) (λe X1 hR=>?_);obtain⟨rfl,rfl⟩:=hR;refine⟨(hHeld),λhHeld=>Mono.pt ?_⟩;refine Mono.stc 7 (some 53) (hat2 X1 hHeld.2.2) (λe X2 hR=>?_);obtain⟨rfl,rfl⟩:=hR;refine⟨(hHeld),λhHeld=>Mono.pt ?_⟩;refine tk 8 (some 54) ?_;refine tk 10 (some 56) ?_;refine tk 11 (some 8) ?_;refine wpAnyH_done Zx ?_ _;have hB2:=hHeld.2.2;clear hHeld hat1 hat2 cb0 cb1 fb0 fb1 lb0 lb1 b0 b1 b2 ho hI;have e1:(x+y+c).tmod 1000000000=(x+y+c)%1000000000:=Ybr Zo;have e2:(x+y+c).tdiv 1000000000=(x+y+c)/1000000000:=Ybk Zo;rw[Zcv (z:=x+y) Zo Zo,Zcv (z:=x+y+c) Zo Zo];go_wp2_with (at_builtin;(refine Zbb _ rfl _ _ 33 rfl Tryz.underlying33 Zbz (w.heap.size+1+1+1) (.slice pv i cv) i h rfl ?_ (some ⟨X2.heap.size,0,none⟩) 1 1 (λ_=>(x+y+c)%1000000000) rfl ?_ ?_ ?_ ?_);(exact(hoX.below (Zad (Yae _ _) _)));(exact(Zii X2 _ _ rfl));omega;(simp;omega);(intro v' w1 ho' hg))
    obtain⟨p',c',rfl⟩:=ho'.shape;have hz:=((Yae (w.heap.size+1+1+1) X2).alloc hsX (.cells _ 3)).grown hg (by simp;omega) (λk hk=>hoX.low k hk);replace bX0:=bX0.low hz Zo;replace bX1:=bX1.low hz Zo;replace bX2:=bX2.low hz Zo;have hB3:=hB2.trans (hz.mono Zo);have hs3:=hz.size;clear hoX hB2 hg hz hB hs;go_wp2
    go_roundw
    case rel=>
     refine⟨i+1,_,_,hlt,rfl,Zs,ho'.congr (f':=λj=>if j=i then(x+y+c)%1000000000 else h j) (λj hj=>?_),?_,bX0,bX1,bX2,hB3,Zo⟩
     ·by_cases hji:j=i
      ·subst hji;simp
      ·rw[if_pos Zo,if_neg hji]
     ·exact hnx
    case measure=>simp[intOf];omega
  ·have hI0:SumI (xt f n) (xt g m) i h 0:=by
    have h0:=hI.c0;obtain rfl:c=0:=Zo;exact hI
   have hval:=hI0.done Zo Zo;have hc0:¬(0<c):=Zo;have hw1:¬(i:Int)<n:=Zo;have hw2:¬(i:Int)<m:=Zo;have cb0:=b0.cell;have lb0:=b0.lt;have fb0:=b0.frozen;have cb1:=b1.cell;have lb1:=b1.lt;have fb1:=b1.frozen;have hmm:=λW1 hW1=>Zbp s pv i cv h W1 ((ho.sl Zo).ext hW1) Zo hI.lo hI.hi;have hpos:decide (0<vf h i)=true:=decide_eq_true (by rw[hval];have:=d1.pos.2 hn0;have:=d2.nonneg;omega);rw[hpos,Bool.and_true]at hmm;have hli:i<=max n m+1:=hi;replace hval:=Yah hval;clear hgo hI hI0 ho;go_wp2_with fail
   refine(hmm wr (Ext.refl _)).mono ?_;rintro e W1 ⟨v',rfl,ho2,d3,e3,hb⟩;replace b2:=b2.below hb;have hB1:=Zaa hB hb;obtain⟨p',c',rfl⟩:=ho2.shape;have hsl:=ho2.sl (by have:=Za7 h i;omega);clear hmm ho2 b0 b1 cb0 cb1 fb0 fb1 lb0 lb1 hB;go_wp2_with first|(refine Zab rfl 52 _ _ rfl (w.heap.size+1+1) 0 52 _ #[.bool s,.slice p' (trimN h i) c'] #[.bool s,.slice p' (trimN h i) c'] rfl rfl b2 Zae (Yaa rfl) (Zas _ _ _ _) (Zah rfl) ?_;intro W2 hk b4)
   have hb2:=hk.below hB1 Zo hB1.size;refine bodyPost_ret (b4.results rfl _ _ rfl Tryz.underlying52 rfl Zae) rfl ⟨p',_,c',h,rfl,hsl.ext (hk.ext b2 Zd),d3,by rw[e3];exact hval.out,by have:=Za7 h i;omega,hb2⟩
theorem Zjo (a b:Rat) (u v:Value) (w wf:World) (hx:Ext wf w) (ha:QV wf u a) (hb:QV wf v b) (hf:Fits (a+b)) :
  Calls Tryz.prog 30 #[u,v] w λe w'=>∃r,e=.returned (.tuple #[r,.int .i64 0])∧QV w' r (a+b)∧Below w.heap.size w w':=by
 replace ha:=ha.ext hx;replace hb:=hb.ext hx;clear hx;have ha':=ha;have hb':=hb;obtain⟨p1,k1,c1,q1,l1,d1,rfl,_,_⟩:=ha;obtain⟨p2,k2,c2,q2,l2,d2,rfl,_,_⟩:=hb;go_enter Tryz.func30,Tryz.ntmps30
 go_wp2_with fail
 refine Zby λW hB hs b0 b1 b2=>?_;refine(Zs1 a b _ _ W (ha'.ext (.of_below hB)) (hb'.ext (.of_below hB)) hf).mono ?_;rintro e W1 ⟨r,rfl,⟨p7,k7,c7,q7,l7,d7,rfl,z7,y7⟩,hb7⟩;replace hB:=Zaa hB hb7;replace b2:=b2.below hb7;have cb2:=b2.cell;have lb2:=b2.lt;have fb2:=b2.frozen;go_wp2
 have b3':=((((b2.set 0 (.bool (decide ((a+b).num<0)))).set 1 (.slice p7 k7 c7)).set 2 (.bool false)).set 3 (.slice q7 l7 d7)).cell;have xE:Ext W1 _:=(((((Ext.refl W1).set b2 Zd 0 (.bool (decide ((a+b).num<0)))).set (b2.set 0 (.bool (decide ((a+b).num<0)))) Zd 1 (.slice p7 k7 c7))).set ((b2.set 0 (.bool (decide ((a+b).num<0)))).set 1 (.slice p7 k7 c7)) Zd 2 (.bool false)).set (((b2.set 0 (.bool (decide ((a+b).num<0)))).set 1 (.slice p7 k7 c7)).set 2 (.bool false)) Zd 3 (.slice q7 l7 d7);refine bodyPost_ret (v:=.tuple #[.agg #[.bool (decide ((a+b).num<0)),.slice p7 k7 c7,.bool false,.slice q7 l7 d7],.int .i64 0]) (by simp[results,Tryz.results30,go_sem,b3']) rfl ⟨_,rfl,⟨_,_,_,_,_,_,rfl,z7.ext xE,y7.ext xE⟩,?_⟩;exact Zai (Zai (Zai (Zai hB Zo _ _) Zo _ _) Zo _ _) Zo _ _
theorem Zel (a b:Rat) (u v:Value) (w wf:World) (hx:Ext wf w) (ha:QV wf u a) (hb:QV wf v b) (hf:Fits (a-b)) :
  Calls Tryz.prog 67 #[u,v] w λe w'=>∃r,e=.returned (.tuple #[r,.int .i64 0])∧QV w' r (a-b)∧Below w.heap.size w w':=by
 replace ha:=ha.ext hx;replace hb:=hb.ext hx;clear hx;have ha':=ha;have hb':=hb;obtain⟨p1,k1,c1,q1,l1,d1,rfl,_,_⟩:=ha;obtain⟨p2,k2,c2,q2,l2,d2,rfl,_,_⟩:=hb;go_enter Tryz.func67,Tryz.ntmps67
 go_wp2_with fail
 refine Zby λW hB hs b0 b1 b2=>?_;refine(Zpw a b _ _ W (ha'.ext (.of_below hB)) (hb'.ext (.of_below hB)) hf).mono ?_;rintro e W1 ⟨r,rfl,⟨p7,k7,c7,q7,l7,d7,rfl,z7,y7⟩,hb7⟩;replace hB:=Zaa hB hb7;replace b2:=b2.below hb7;have cb2:=b2.cell;have lb2:=b2.lt;have fb2:=b2.frozen;go_wp2
 have b3':=((((b2.set 0 (.bool (decide ((a-b).num<0)))).set 1 (.slice p7 k7 c7)).set 2 (.bool false)).set 3 (.slice q7 l7 d7)).cell;have xE:Ext W1 _:=(((((Ext.refl W1).set b2 Zd 0 (.bool (decide ((a-b).num<0)))).set (b2.set 0 (.bool (decide ((a-b).num<0)))) Zd 1 (.slice p7 k7 c7))).set ((b2.set 0 (.bool (decide ((a-b).num<0)))).set 1 (.slice p7 k7 c7)) Zd 2 (.bool false)).set (((b2.set 0 (.bool (decide ((a-b).num<0)))).set 1 (.slice p7 k7 c7)).set 2 (.bool false)) Zd 3 (.slice q7 l7 d7);refine bodyPost_ret (v:=.tuple #[.agg #[.bool (decide ((a-b).num<0)),.slice p7 k7 c7,.bool false,.slice q7 l7 d7],.int .i64 0]) (by simp[results,Tryz.results67,go_sem,b3']) rfl ⟨_,rfl,⟨_,_,_,_,_,_,rfl,z7.ext xE,y7.ext xE⟩,?_⟩;exact Zai (Zai (Zai (Zai hB Zo _ _) Zo _ _) Zo _ _) Zo _ _
theorem Zdp (a b:Rat) (u v:Value) (w wf:World) (hx:Ext wf w) (ha:QV wf u a) (hb:QV wf v b) (hf:Fits (a*b)) :
  Calls Tryz.prog 29 #[u,v] w λe w'=>∃r,e=.returned (.tuple #[r,.int .i64 0])∧QV w' r (a*b)∧Below w.heap.size w w':=by
 replace ha:=ha.ext hx;replace hb:=hb.ext hx;clear hx;have ha':=ha;have hb':=hb;obtain⟨p1,k1,c1,q1,l1,d1,rfl,_,_⟩:=ha;obtain⟨p2,k2,c2,q2,l2,d2,rfl,_,_⟩:=hb;go_enter Tryz.func29,Tryz.ntmps29
 go_wp2_with fail
 refine Zby λW hB hs b0 b1 b2=>?_;refine(Zpx a b _ _ W (ha'.ext (.of_below hB)) (hb'.ext (.of_below hB)) hf).mono ?_;rintro e W1 ⟨r,rfl,⟨p7,k7,c7,q7,l7,d7,rfl,z7,y7⟩,hb7⟩;replace hB:=Zaa hB hb7;replace b2:=b2.below hb7;have cb2:=b2.cell;have lb2:=b2.lt;have fb2:=b2.frozen;go_wp2
 have b3':=((((b2.set 0 (.bool (decide ((a*b).num<0)))).set 1 (.slice p7 k7 c7)).set 2 (.bool false)).set 3 (.slice q7 l7 d7)).cell;have xE:Ext W1 _:=(((((Ext.refl W1).set b2 Zd 0 (.bool (decide ((a*b).num<0)))).set (b2.set 0 (.bool (decide ((a*b).num<0)))) Zd 1 (.slice p7 k7 c7))).set ((b2.set 0 (.bool (decide ((a*b).num<0)))).set 1 (.slice p7 k7 c7)) Zd 2 (.bool false)).set (((b2.set 0 (.bool (decide ((a*b).num<0)))).set 1 (.slice p7 k7 c7)).set 2 (.bool false)) Zd 3 (.slice q7 l7 d7);refine bodyPost_ret (v:=.tuple #[.agg #[.bool (decide ((a*b).num<0)),.slice p7 k7 c7,.bool false,.slice q7 l7 d7],.int .i64 0]) (by simp[results,Tryz.results29,go_sem,b3']) rfl ⟨_,rfl,⟨_,_,_,_,_,_,rfl,z7.ext xE,y7.ext xE⟩,?_⟩;exact Zai (Zai (Zai (Zai hB Zo _ _) Zo _ _) Zo _ _) Zo _ _
theorem Zmo (a b:Rat) (u v:Value) (w wf:World) (hx:Ext wf w) (ha:QV wf u a) (hb:QV wf v b) (h0:b.num≠0) (hf:Fits (a/b)) :
  Calls Tryz.prog 65 #[u,v] w λe w'=>∃r,e=.returned (.tuple #[r,.int .i64 0])∧QV w' r (a/b)∧Below w.heap.size w w':=by
 replace ha:=ha.ext hx;replace hb:=hb.ext hx;clear hx;have ha':=ha;have hb':=hb;obtain⟨p1,k1,c1,q1,l1,d1,rfl,_,_⟩:=ha;obtain⟨p2,k2,c2,q2,l2,d2,rfl,y1,_⟩:=hb;have hk2:((k2:Int)==0)=false:=by
  have:=y1.len_pos.1 Zo;simp;omega
 clear y1;go_enter Tryz.func65,Tryz.ntmps65
 go_wp2_with fail
 refine Zfa λW hB hs b0 b1 b2 b3=>?_;replace ha':=ha'.ext (.of_below hB);replace hb':=hb'.ext (.of_below hB);refine(Zgn a b _ _ _ _ p1 q1 p2 q2 k1 c1 l1 d1 k2 c2 l2 d2 _ _ b3 ha' hb').mono ?_;rintro e W1 ⟨rfl,hb1⟩;replace hB:=Zaa hB hb1;replace ha':=ha'.ext (.of_below hb1);replace hb':=hb'.ext (.of_below hb1);replace b0:=b0.below hb1;try clear cb0 lb0 fb0
 have cb0:=b0.cell;have lb0:=b0.lt;have fb0:=b0.frozen;replace b1:=b1.below hb1;try clear cb1 lb1 fb1
 have cb1:=b1.cell;have lb1:=b1.lt;have fb1:=b1.frozen;replace b2:=b2.below hb1;try clear cb2 lb2 fb2
 have cb2:=b2.cell;have lb2:=b2.lt;have fb2:=b2.frozen;go_wp2_with fail
 refine(Zs2 a b _ _ W1 ha' hb' h0 hf).mono ?_;rintro e W2 ⟨r,rfl,⟨p7,k7,c7,q7,l7,d7,rfl,z7,y7⟩,hb7⟩;replace hB:=Zaa hB hb7;replace b2:=b2.below hb7;clear cb2 lb2 fb2;have cb2:=b2.cell;have lb2:=b2.lt;have fb2:=b2.frozen;go_wp2
 have b3':=((((b2.set 0 (.bool (decide ((a/b).num<0)))).set 1 (.slice p7 k7 c7)).set 2 (.bool false)).set 3 (.slice q7 l7 d7)).cell;have xE:Ext W2 _:=(((((Ext.refl W2).set b2 Zd 0 (.bool (decide ((a/b).num<0)))).set (b2.set 0 (.bool (decide ((a/b).num<0)))) Zd 1 (.slice p7 k7 c7))).set ((b2.set 0 (.bool (decide ((a/b).num<0)))).set 1 (.slice p7 k7 c7)) Zd 2 (.bool false)).set (((b2.set 0 (.bool (decide ((a/b).num<0)))).set 1 (.slice p7 k7 c7)).set 2 (.bool false)) Zd 3 (.slice q7 l7 d7);refine bodyPost_ret (v:=.tuple #[.agg #[.bool (decide ((a/b).num<0)),.slice p7 k7 c7,.bool false,.slice q7 l7 d7],.int .i64 0]) (by simp[results,Tryz.results65,go_sem,b3']) rfl ⟨_,rfl,⟨_,_,_,_,_,_,rfl,z7.ext xE,y7.ext xE⟩,?_⟩;exact Zai (Zai (Zai (Zai hB Zo _ _) Zo _ _) Zo _ _) Zo _ _
theorem Zi4 (s:Bool) (p q:Option Addr) (n m c1 c2:Nat) (f g:Nat->Int) (w:World) (h1:SlF w (.slice p n c1) n f) (h2:SlF w (.slice q m c2) m g) (d1:Digs f n) (d2:Digs g m) (hn0:0<n) (hm0:0<m) (hn6:n<=100000) (hge:vf g m<=vf f n) :
  Calls Tryz.prog 212 #[.agg #[.bool s,.slice p n c1],.agg #[.bool s,.slice q m c2]] w λe w'=>∃p k c h,e=.returned (.agg #[.bool (s&&decide (0<vf f n-vf g m)),.slice p k c])∧SlF w' (.slice p k c) k h∧Digs h k∧vf h k=vf f n-vf g m∧k<=n∧Below w.heap.size w w':=by
 obtain⟨hc1,hn1,hx1⟩:=h1.opens;obtain⟨hc2,hn2,_⟩:=h2.opens;have hmn:m<=n:=d2.len_le d1 hge;have hn0':((n:Int)==0)=false:=by simp;omega
 have hm0':((m:Int)==0)=false:=by simp;omega
 have hless:=λ(W:World) (hW:Below w.heap.size w W)=>Ze0 p q n m c1 c2 f g W (h1.ext (.of_below hW)) (h2.ext (.of_below hW)) d1 d2;rw[decide_eq_false Zo]at hless;obtain⟨sg,hsg⟩:∃sg:Bool,(s&&decide (0<vf f n-vf g m))=sg:=⟨_,rfl⟩
 rw[hsg];go_enter Tryz.func212,Tryz.ntmps212
 go_wp2_with fail
 refine Zby λW hB hs b0 b1 b2=>?_;refine(hless W hB).mono ?_;rintro e Wl ⟨rfl,kl,rfl⟩;have hBl:=below_drewN hB kl;replace b0:Box (W.drewN kl) w.heap.size 52 #[.bool s,.slice p n c1]:=⟨b0.blk⟩
 replace b1:Box (W.drewN kl) (w.heap.size+1) 52 #[.bool s,.slice q m c2]:=⟨b1.blk⟩
 replace b2:Box (W.drewN kl) (w.heap.size+1+1) 52 #[.bool false,.slice none 0 0]:=⟨b2.blk⟩
 have hsl:w.heap.size+1+1+1<=(W.drewN kl).heap.size:=hs;clear hless hB hs;generalize W.drewN kl=V at *;go_wp2
 go_loopw [5,6,7] (λv x y wr=>∃(i:Nat) (c:Int) (h:Nat->Int),i<=n∧x=.int .i64 c∧y=.int .i64 (i:Int)∧OwnF wr (w.heap.size+1+1+1) v i h∧DifI f (xt g m) i h c∧Box wr w.heap.size 52 #[.bool s,.slice p n c1]∧Box wr (w.heap.size+1) 52 #[.bool s,.slice q m c2]∧Box wr (w.heap.size+1+1) 52 #[.bool false,.slice none 0 0]∧Below w.heap.size w wr∧w.heap.size+1+1+1<=wr.heap.size) (λ_ _ y _=>(n-intOf y).toNat)
 case atStart=>exact⟨0,0,_,Yat _,rfl,rfl,OwnF.nil _ _ _,DifI.start _ _ (λ_=>0),b0,b1,b2,hBl,hsl⟩
 case round=>
  clear b0 b1 b2 hBl hsl;obtain⟨i,c,h,hi,rfl,rfl,ho,hI,b0,b1,b2,hB,hs⟩:=hrel;obtain⟨pv,cv,rfl⟩:=ho.shape;by_cases hlt:i<n
  ·have hlt':(i:Int)<n:=by omega
   obtain⟨b,off,rfl,hb,hcell⟩:=hx1 hn0;have hci:=hcell i hlt;have x0:=d1.lo i hlt;have x1:=d1.hi i hlt;have y0:=Zi1 d2.lo i;have y1:=Zom d2.hi i;have hat2:=λX (hX:Below w.heap.size w X)=>Zfl q m c2 i g X (h2.ext (.of_below hX));have hbel:=λe=>hI.below x0 y1 e;have habo:=λe=>hI.above x1 y0 e;have k0:=hI.c0;have k1:=hI.c1;generalize hX:f i=x at *;generalize hY:xt g m i=y at *;have cb0:=b0.cell;have lb0:=b0.lt;have fb0:=b0.frozen;have cb1:=b1.cell;have lb1:=b1.lt;have fb1:=b1.frozen;have hck:∀w',Below w.heap.size w w'->w'.cell? ⟨b,off+i,none⟩=some (.int .i64 x):=λw' hw'=>(hw'.cell (p:=⟨b,off+i,none⟩) hb).trans hci;clear hcell hci hI;by_cases hneg:x-y-c<0
   all_goals
    go_wp2
    refine wp_region_held_drew (S:=λw'=>(∀i,w'.cell? ⟨w.heap.size,i,none⟩=(#[.bool s,.slice (some ⟨b,off,none⟩) n c1]:Array Value)[i]?)∧(∀i,w'.cell? ⟨w.heap.size+1,i,none⟩=(#[.bool s,.slice q m c2]:Array Value)[i]?)∧w'.cell? ⟨b,off+i,none⟩=some (.int .i64 x)∧Below w.heap.size w w') Zx ⟨cb0,cb1,hck _ hB.drew,hB.drew⟩ (λhHeld=>?_);have hoX:=ho.below (Yae wr.heap.size wr).drew;have bX0:=b0.drew;have bX1:=b1.drew;have bX2:=b2.drew;have hsX:w.heap.size+1+1+1<=wr.drew.heap.size:=hs;generalize wr.drew=X0 at *;refine tk 0 (some 45) ?_;refine tk 1 (some 46) ?_;refine tk 2 (some 47) ?_;refine tk 3 (some 48) ?_;refine tk 4 (some 49) ?_;refine tk 5 (some 50) ?_;refine tk 6 (some 51) ?_;refine tk 7 (some 52) ?_;refine tk 10 (some 55) ?_;refine Mono.stc 8 (some 53) (hat2 X0 hHeld.2.2.2) (λe X2 hR=>?_);obtain⟨rfl,rfl⟩:=hR;refine⟨(hHeld),λhHeld=>Mono.pt ?_⟩;refine tk 9 (some 54) ?_;refine tk 11 (some 56) ?_;refine tk 12 (some 8) ?_;refine wpAnyH_done Zx ?_ _;have hB2:=hHeld.2.2.2;clear hHeld hat2 cb0 cb1 fb0 fb1 lb0 lb1 b0 b1 b2 ho hck;rw[Zcv (z:=x-y) Zo Zo,Zcv (z:=x-y-c) Zo Zo];go_wp2_with (at_builtin;(refine Zbb _ rfl _ _ 33 rfl Tryz.underlying33 Zbz (w.heap.size+1+1+1) (.slice pv i cv) i h rfl ?_ (some ⟨X2.heap.size,0,none⟩) 1 1 (λ_=>if x-y-c<0 then x-y-c+1000000000 else x-y-c) rfl ?_ ?_ ?_ ?_);(exact(hoX.below (Zad (Yae _ _) _)));(exact(Zii X2 _ _ (by split<;>omega)));omega;(simp;omega);(intro v' w1 ho' hg))
    obtain⟨p',c',rfl⟩:=ho'.shape;have hz:=((Yae (w.heap.size+1+1+1) X2).alloc hsX (.cells _ 3)).grown hg (by simp;omega) (λk hk=>hoX.low k hk);replace bX0:=bX0.low hz Zo;replace bX1:=bX1.low hz Zo;replace bX2:=bX2.low hz Zo;have hB3:=hB2.trans (hz.mono Zo);have hs3:=hz.size;clear hoX hB2 hg hz hB hs;go_wp2
    go_roundw
    case rel=>
     refine⟨i+1,_,_,hlt,rfl,Zs,ho'.congr (f':=λj=>if j=i then(if x-y-c<0 then x-y-c+1000000000 else x-y-c) else h j) (λj hj=>?_),?_,bX0,bX1,bX2,hB3,Zo⟩
     ·by_cases hji:j=i
      ·subst hji;simp
      ·rw[if_pos Zo,if_neg hji]
     ·by_cases hq:x-y-c<0
      ·simp only[if_pos hq]
       first|(exfalso;omega)|exact hbel hq
      ·simp only[if_neg hq]
       first|(exfalso;omega)|exact habo Zo
    case measure=>simp[intOf];omega
  ·obtain rfl:i=n:=by omega
   have hval:=hI.done hmn hge;have hw1:¬(i:Int)<i:=Zo;have cb0:=b0.cell;have lb0:=b0.lt;have fb0:=b0.frozen;have cb1:=b1.cell;have lb1:=b1.lt;have fb1:=b1.frozen;have hmm:=λW1 hW1=>Zbp s pv i cv h W1 ((ho.sl Zo).ext hW1) Zo hI.lo hI.hi;rw[hval,hsg]at hmm;replace hval:=Yah hval;replace hsg:=Yah hsg;clear hI ho hx1;go_wp2_with fail
   refine(hmm wr (Ext.refl _)).mono ?_;rintro e W1 ⟨v',rfl,ho2,d3,e3,hb⟩;replace b2:=b2.below hb;have hB1:=Zaa hB hb;obtain⟨p',c',rfl⟩:=ho2.shape;have hsl:=ho2.sl (by have:=Za7 h i;omega);clear hmm ho2 b0 b1 cb0 cb1 fb0 fb1 lb0 lb1 hB;go_wp2_with first|(refine Zab rfl 52 _ _ rfl (w.heap.size+1+1) 0 52 _ #[.bool sg,.slice p' (trimN h i) c'] #[.bool sg,.slice p' (trimN h i) c'] rfl rfl b2 Zae (Yaa rfl) (Zas _ _ _ _) (Zah rfl) ?_;intro W2 hk b4)
   have hb2:=hk.below hB1 Zo hB1.size;refine bodyPost_ret (b4.results rfl _ _ rfl Tryz.underlying52 rfl Zae) rfl ⟨p',_,c',h,rfl,hsl.ext (hk.ext b2 Zd),d3,e3,Za7 h i,hb2⟩
end Go.Proofs.W
