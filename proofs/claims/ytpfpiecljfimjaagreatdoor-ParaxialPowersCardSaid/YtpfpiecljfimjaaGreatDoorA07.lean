/- Contracts of package paraxial,and a verified evaluator. Part 7 of 26. No condition beside the row. -/
import Derived.Test.YtpfpiecljfimjaaGreatDoorA06
set_option linter.unusedVariables false
set_option linter.unusedSimpArgs false
set_option maxRecDepth 100000
set_option maxHeartbeats 4000000
namespace Go.Mono
theorem Sg.prod {s t:Bool} {x y:Int} (h:Sg s x) (g:Sg t y):Sg (s != t) (x*y):=by
 obtain⟨h1,h2⟩:=h;obtain⟨g1,g2⟩:=g;cases s<;>cases t<;>simp at h1 h2 g1 g2<;>constructor<;>simp
 ·exact Ycg h2 g2
 ·exact Int.mul_nonpos_of_nonneg_of_nonpos h2 g1
 ·exact Int.mul_nonpos_of_nonpos_of_nonneg h1 g2
 ·exact Int.mul_nonneg_of_nonpos_of_nonpos h1 g1
theorem Ztu (a b:Rat) :
  ((a*b).num.natAbs:Int)=((a.num.natAbs:Int)/gcdZ a.num.natAbs b.den)*((b.num.natAbs:Int)/gcdZ b.num.natAbs a.den)∧
  ((a*b).den:Int)=((b.den:Int)/gcdZ a.num.natAbs b.den)*((a.den:Int)/gcdZ b.num.natAbs a.den):=by
 obtain⟨h1,h2⟩:=Zef a b;have e1:gcdZ (a.num.natAbs:Int) b.den=((a.num.natAbs.gcd b.den:Nat):Int):=by simp[gcdZ]
 have e2:gcdZ (b.num.natAbs:Int) a.den=((b.num.natAbs.gcd a.den:Nat):Int):=by simp[gcdZ]
 rw[e1,e2];constructor
 ·rw[h1,Yde,Ycw,Zdv (Nat.gcd_dvd_left _ _),Zdv (Nat.gcd_dvd_left _ _)]
 ·rw[h2,Ycw,Ydh]
  simp only[Int.natCast_ediv]
theorem Zlv {s t:Bool} {a b:Rat} (h:Sg s a.num) (g:Sg t b.num):Sg (s != t) (a*b).num:=by
 rw[(Zef a b).1];refine Sg.prod (h.div ?_) (g.div ?_)
 ·have:=Yfa a.num.natAbs (Yck b.den_nz);omega
 ·have:=Yfa b.num.natAbs (Yck a.den_nz);omega
end Go.Mono
namespace Go.Proofs.W
open Go.RowKit Go.Mono
theorem Zvz (s1 s2:Bool) (p1 q1 p2 q2:Option Addr) (k1 c1 l1 e1 k2 c2 l2 e2 m:Nat) (a b:Rat) (w wf:World) (hx:Ext wf w)
  (g1:Sg s1 a.num) (g2:Sg s2 b.num) (z1:Sz m wf (.slice p1 k1 c1) a.num.natAbs) (y1:Sz m wf (.slice q1 l1 e1) a.den) (z2:Sz m wf (.slice p2 k2 c2) b.num.natAbs) (y2:Sz m wf (.slice q2 l2 e2) b.den) (hm:m<=100000) :
  Calls Tryz.prog 134 #[.agg #[.bool s1,.slice p1 k1 c1,.slice q1 l1 e1],.agg #[.bool s2,.slice p2 k2 c2,.slice q2 l2 e2]] w λe w'=>∃s p n c q l d,e=.returned (.agg #[.bool s,.slice p n c,.slice q l d])∧Sg s (a*b).num∧Sz (3*m+1) w' (.slice p n c) (a*b).num.natAbs∧Sz (3*m+1) w' (.slice q l d) (a*b).den∧Below w.heap.size w w':=by
 replace z1:=z1.ext hx;replace z2:=z2.ext hx;replace y1:=y1.ext hx;replace y2:=y2.ext hx;have D1:0<(a.den:Int):=by have:=Yck a.den_nz;omega
 have D2:0<(b.den:Int):=by have:=Yck b.den_nz;omega
 have gs:=Zlv g1 g2;obtain⟨E1,E2⟩:=Ztu a b;replace E1:=Yah E1;replace E2:=Yah E2;clear hx g1 g2;go_enter Tryz.func134,Tryz.ntmps134
 go_wp2_with fail
 refine Zbk λW hB hs b0 b1 b2=>?_;have x0:=Ext.of_below hB;replace z1:=z1.ext x0;replace y1:=y1.ext x0;replace z2:=z2.ext x0;replace y2:=y2.ext x0;refine(Zfe s1 p1 q2 k1 c1 l2 e2 m _ _ W W (Ext.refl _) z1 y2 D2 Zo).mono ?_;rintro e W1 ⟨p3,k3,c3,q3,l3,d3,rfl,z3,y3,hb⟩;replace hB:=Zaa hB hb;replace z1:=z1.ext (.of_below hb);replace z2:=z2.ext (.of_below hb);replace y1:=y1.ext (.of_below hb);replace y2:=y2.ext (.of_below hb);replace b0:=b0.below hb;try clear cb0 lb0 fb0
 have cb0:=b0.cell;have lb0:=b0.lt;have fb0:=b0.frozen;replace b1:=b1.below hb;try clear cb1 lb1 fb1
 have cb1:=b1.cell;have lb1:=b1.lt;have fb1:=b1.frozen;replace b2:=b2.below hb;try clear cb2 lb2 fb2
 have cb2:=b2.cell;have lb2:=b2.lt;have fb2:=b2.frozen;clear x0 hb;go_wp2_with fail
 refine Zbg λW2 hb hs2 b3=>?_;have n3:W1.heap.size≠w.heap.size+1+1:=Zo;replace hB:=Zaa hB hb;replace z1:=z1.ext (.of_below hb);replace z2:=z2.ext (.of_below hb);replace y1:=y1.ext (.of_below hb);replace y2:=y2.ext (.of_below hb);replace z3:=z3.ext (.of_below hb);replace y3:=y3.ext (.of_below hb);replace b0:=b0.below hb;try clear cb0 lb0 fb0
 have cb0:=b0.cell;have lb0:=b0.lt;have fb0:=b0.frozen;replace b1:=b1.below hb;try clear cb1 lb1 fb1
 have cb1:=b1.cell;have lb1:=b1.lt;have fb1:=b1.frozen;replace b2:=b2.below hb;try clear cb2 lb2 fb2
 have cb2:=b2.cell;have lb2:=b2.lt;have fb2:=b2.frozen;have cb3:=b3.cell;have lb3:=b3.lt;have fb3:=b3.frozen;refine(Zfe s2 p2 q1 k2 c2 l1 e1 m _ _ W2 W2 (Ext.refl _) z2 y1 D1 Zo).mono ?_;rintro e W3 ⟨p4,k4,c4,q4,l4,d4,rfl,z4,y4,hb4⟩;replace hB:=Zaa hB hb4;replace z3:=z3.ext (.of_below hb4);replace y3:=y3.ext (.of_below hb4);replace b0:=b0.below hb4;try clear cb0 lb0 fb0
 have cb0:=b0.cell;have lb0:=b0.lt;have fb0:=b0.frozen;replace b1:=b1.below hb4;try clear cb1 lb1 fb1
 have cb1:=b1.cell;have lb1:=b1.lt;have fb1:=b1.frozen;replace b2:=b2.below hb4;try clear cb2 lb2 fb2
 have cb2:=b2.cell;have lb2:=b2.lt;have fb2:=b2.frozen;replace b3:=b3.below hb4;try clear cb3 lb3 fb3
 have cb3:=b3.cell;have lb3:=b3.lt;have fb3:=b3.frozen;go_wp2_with fail
 refine Zb1 λW4 hb5 hs4 b4=>?_;have n4:W3.heap.size≠w.heap.size+1+1:=Zo;replace hB:=Zaa hB hb5;replace z3:=z3.ext (.of_below hb5);replace y3:=y3.ext (.of_below hb5);replace z4:=z4.ext (.of_below hb5);replace y4:=y4.ext (.of_below hb5);replace b0:=b0.below hb5;try clear cb0 lb0 fb0
 have cb0:=b0.cell;have lb0:=b0.lt;have fb0:=b0.frozen;replace b1:=b1.below hb5;try clear cb1 lb1 fb1
 have cb1:=b1.cell;have lb1:=b1.lt;have fb1:=b1.frozen;replace b2:=b2.below hb5;try clear cb2 lb2 fb2
 have cb2:=b2.cell;have lb2:=b2.lt;have fb2:=b2.frozen;replace b3:=b3.below hb5;try clear cb3 lb3 fb3
 have cb3:=b3.cell;have lb3:=b3.lt;have fb3:=b3.frozen;have cb4:=b4.cell;have lb4:=b4.lt;have fb4:=b4.frozen;have K0:=KeepBut.refl (w.heap.size+1+1) W4;have n0:w.heap.size≠w.heap.size+1+1:=Zo;have n1:w.heap.size+1≠w.heap.size+1+1:=Zo;clear hb hb4 hb5 z1 z2 y1 y2;go_region_held3 (λw'=>(∀b o,b<W4.heap.size->b≠(w.heap.size+1+1)->w'.cell? ⟨b,o,none⟩=W4.cell? ⟨b,o,none⟩)∧KeepBut (w.heap.size+1+1) W4.heap.size W4 w') ((refine KeepBut.S ?_;first|exact K0.drew|(repeat' (first|exact Yai ‹_› | exact KeepBut.call (Yai ‹_›) ‹_› | refine KeepBut.set ?_ _ _|refine KeepBut.alloc ?_ _)))) (first|(go_at_call 167;(with_reducible refine(Zf2 m m _ W4 (KeepBut.ext (Yai ‹_›) b2 Zd) p3 p4 k3 k4 c3 c4 _ _ z3 z4 Zo Zo).mono ?_);rintro e W5 ⟨p5,k5,c5,rfl,z5,hb5⟩;have b15:=b2.drew.below hb5;have cb15:=b15.cell;have fb15:=b15.frozen)|(go_at_call 167;(with_reducible refine(Zf2 m m _ W4 (KeepBut.ext (Yai ‹_›) b2 Zd) q3 q4 l3 l4 d3 d4 _ _ y3 y4 Zo Zo).mono ?_);rintro e W6 ⟨p6,k6,c6,rfl,z6,hb6⟩;replace z5:=z5.ext (.of_below hb6);have b16:=b15.below hb6;have cb16:=b16.cell;have fb16:=b16.frozen))
 go_wp2
 have b3':=((((b16.set 0 (.bool (!(s1==s2)))).set 1 (.slice p5 k5 c5)).set 2 (.slice p6 k6 c6))).cell;have xE:Ext W6 _:=((((Ext.refl W6).set b16 Zd 0 (.bool (!(s1==s2)))).set (b16.set 0 (.bool (!(s1==s2)))) Zd 1 (.slice p5 k5 c5))).set ((b16.set 0 (.bool (!(s1==s2)))).set 1 (.slice p5 k5 c5)) Zd 2 (.slice p6 k6 c6);refine bodyPost_ret (v:=.agg #[.bool (!(s1==s2)),.slice p5 k5 c5,.slice p6 k6 c6]) (by simp[results,Tryz.results134,go_sem,b3']) rfl ⟨_,_,_,_,_,_,_,rfl,gs,?_,?_,?_⟩
 ·rw[E1.out];exact(z5.ext xE).mono Zo
 ·rw[E2.out];exact(z6.ext xE).mono Zo
 ·exact KeepBut.below (Yai ‹_›) hB Zo hB.size
end Go.Proofs.W
namespace Go.Mono
open Go.RowKit
def RatV (m:Nat) (w:World) (v:Value) (q:Rat):Prop:=
 ∃s p k c p' k' c',v=.agg #[.bool s,.slice p k c,.slice p' k' c']∧Sg s q.num∧Sz m w (.slice p k c) q.num.natAbs∧Sz m w (.slice p' k' c') q.den
theorem RatV.ext {m:Nat} {w w':World} {v:Value} {q:Rat} (h:RatV m w v q) (hx:Ext w w'):RatV m w' v q:=by
 obtain⟨s,p,k,c,p',k',c',rfl,h1,h2,h3⟩:=h;exact⟨_,_,_,_,_,_,_,rfl,h1,h2.ext hx,h3.ext hx⟩
theorem RatV.mono {m m':Nat} {w:World} {v:Value} {q:Rat} (h:RatV m w v q) (hm:m<=m'):RatV m' w v q:=by
 obtain⟨s,p,k,c,p',k',c',rfl,h1,h2,h3⟩:=h;exact⟨_,_,_,_,_,_,_,rfl,h1,h2.mono hm,h3.mono hm⟩
theorem Sg.neg {s:Bool} {z:Int} (h:Sg s z):Sg (!s) (-z):=by
 obtain⟨h1,h2⟩:=h;cases s<;>simp at h1 h2<;>constructor<;>simp<;>omega
theorem RatV.inv {m:Nat} {w:World} {b:Rat} {s:Bool} {p p':Option Addr} {k c k' c':Nat} (h0:b.num≠0)
  (h1:Sg s b.num) (h2:Sz m w (.slice p k c) b.num.natAbs) (h3:Sz m w (.slice p' k' c') b.den):RatV m w (.agg #[.bool s,.slice p' k' c',.slice p k c]) b⁻¹:=by
 obtain⟨e1,e2⟩:=Zim b h0;have hd:=Yck b.den_nz;refine⟨_,_,_,_,_,_,_,rfl,?_,?_,by rw[e1];exact h2⟩
 ·rw[e2]
  obtain⟨g1,g2⟩:=h1;constructor
  ·intro hs;have:=g1 hs;rw[if_pos Zo];omega
  ·intro hs;have:=g2 hs;rw[if_neg Zo];omega
 ·have:((b⁻¹).num.natAbs:Int)=b.den:=by rw[e2];split<;>omega
  rw[this];exact h3
end Go.Mono
namespace Go.Proofs.W
open Go.RowKit Go.Mono
theorem Zm8 (m:Nat) (a b:Rat) (u v:Value) (w wf:World) (hx:Ext wf w) (h1:RatV m wf u a) (h2:RatV m wf v b) (hm:m<=100000) :
  Calls Tryz.prog 134 #[u,v] w λe w'=>∃r,e=.returned r∧RatV (3*m+1) w' r (a*b)∧Below w.heap.size w w':=by
 obtain⟨s,p,k,c,p',k',c',rfl,x1,x2,x3⟩:=h1;obtain⟨t,q,l,d,q',l',d',rfl,y1,y2,y3⟩:=h2;refine(Zvz s t p p' q q' k c k' c' l d l' d' m a b w wf hx x1 y1 x2 x3 y2 y3 hm).mono ?_;rintro e w' ⟨s6,p6,n6,c6,q6,l6,d6,rfl,h⟩;exact⟨_,rfl,⟨_,_,_,_,_,_,_,rfl,h.1,h.2.1,h.2.2.1⟩,h.2.2.2⟩
theorem Zqh (m:Nat) (a b:Rat) (u v:Value) (w wf:World) (hx:Ext wf w) (h1:RatV m wf u a) (h2:RatV m wf v b) (hm:m<=100000) :
  Calls Tryz.prog 135 #[u,v] w λe w'=>∃r,e=.returned r∧RatV (3*m+1) w' r (a+b)∧Below w.heap.size w w':=by
 obtain⟨s,p,k,c,p',k',c',rfl,x1,x2,x3⟩:=h1;obtain⟨t,q,l,d,q',l',d',rfl,y1,y2,y3⟩:=h2;refine(Zxu s t p p' q q' k c k' c' l d l' d' m a b w wf hx x1 y1 x2 x3 y2 y3 hm).mono ?_;rintro e w' ⟨s6,p6,n6,c6,q6,l6,d6,rfl,h⟩;exact⟨_,rfl,⟨_,_,_,_,_,_,_,rfl,h.1,h.2.1,h.2.2.1⟩,h.2.2.2⟩
theorem Zoi (s:Bool) (p q:Option Addr) (k c l d:Nat) (w:World) :
  Calls Tryz.prog 146 #[.agg #[.bool s,.slice p k c,.slice q l d]] w λe w'=>e=.returned (.agg #[.bool s,.slice q l d,.slice p k c])∧Below w.heap.size w w':=by
 go_enter Tryz.func146,Tryz.ntmps146
 go_wp2_with fail
 have b3':=(Box.new (w.alloc (.cells #[.bool s,.slice p k c,.slice q l d] 174)) 174 #[.bool s,.slice q l d,.slice p k c]).cell;simp only[Yav]at b3';refine bodyPost_ret (v:=.agg #[.bool s,.slice q l d,.slice p k c]) (by simp[results,Tryz.results146,go_sem,b3']) rfl ⟨rfl,?_⟩;exact Zad (Zad (Yae _ _) _) _
theorem Zv0 (m:Nat) (a b:Rat) (u v:Value) (w wf:World) (hx:Ext wf w) (h1:RatV m wf u a) (h2:RatV m wf v b) (h0:b.num≠0) (hm:m<=100000) :
  Calls Tryz.prog 103 #[u,v] w λe w'=>∃r,e=.returned r∧RatV (3*m+1) w' r (a/b)∧Below w.heap.size w w':=by
 rw[Yew];obtain⟨s,p,k,c,p',k',c',rfl,x1,x2,x3⟩:=h1;obtain⟨t,q,l,d,q',l',d',rfl,y1,y2,y3⟩:=h2;have xa:RatV m wf (.agg #[.bool s,.slice p k c,.slice p' k' c']) a:=⟨_,_,_,_,_,_,_,rfl,x1,x2,x3⟩
 have xb:=RatV.inv h0 y1 y2 y3;replace xa:=xa.ext hx;replace xb:=xb.ext hx;clear x1 x2 x3 y1 y2 y3 hx;go_enter Tryz.func103,Tryz.ntmps103
 go_wp2_with fail
 refine Zfv λW hB hs b0 b1 b2=>?_;have x0:=Ext.of_below hB;replace xa:=xa.ext x0;replace xb:=xb.ext x0;have cb0:=b0.cell;have lb0:=b0.lt;have fb0:=b0.frozen;have cb1:=b1.cell;have lb1:=b1.lt;have fb1:=b1.frozen;have cb2:=b2.cell;have lb2:=b2.lt;have fb2:=b2.frozen;have K0:=KeepBut.refl (w.heap.size+1+1) W;have n0:w.heap.size≠w.heap.size+1+1:=Zo;have n1:w.heap.size+1≠w.heap.size+1+1:=Zo;clear x0;go_region_held3 (λw'=>(∀b o,b<W.heap.size->b≠(w.heap.size+1+1)->w'.cell? ⟨b,o,none⟩=W.cell? ⟨b,o,none⟩)∧KeepBut (w.heap.size+1+1) W.heap.size W w') ((refine KeepBut.S ?_;first|exact K0.drew|(repeat' (first|exact Yai ‹_› | exact KeepBut.call (Yai ‹_›) ‹_› | refine KeepBut.set ?_ _ _|refine KeepBut.alloc ?_ _)))) (first|(go_at_call 146;refine(Zoi t q q' l d l' d' _).mono ?_;rintro e W5 ⟨rfl,hb5⟩;have b15:=b2.drew.below hb5;have cb15:=b15.cell;have fb15:=b15.frozen)|(go_at_call 134;(with_reducible refine(Zm8 m a b⁻¹ _ _ _ W (KeepBut.ext (Yai ‹_›) b2 Zd) xa xb hm).mono ?_);rintro e W6 ⟨r,rfl,⟨s6,p6,k6,c6,q6,l6,d6,rfl,hr⟩,hb6⟩;have b16:=b15.below hb6;have cb16:=b16.cell;have fb16:=b16.frozen))
 go_wp2
 have b3':=((((b16.set 0 (.bool s6)).set 1 (.slice p6 k6 c6)).set 2 (.slice q6 l6 d6))).cell;have xE:Ext W6 _:=((((Ext.refl W6).set b16 Zd 0 (.bool s6)).set (b16.set 0 (.bool s6)) Zd 1 (.slice p6 k6 c6))).set ((b16.set 0 (.bool s6)).set 1 (.slice p6 k6 c6)) Zd 2 (.slice q6 l6 d6);refine bodyPost_ret (v:=.agg #[.bool s6,.slice p6 k6 c6,.slice q6 l6 d6]) (by simp[results,Tryz.results103,go_sem,b3']) rfl ⟨_,rfl,(RatV.ext ⟨_,_,_,_,_,_,_,rfl,hr⟩ xE),?_⟩;exact KeepBut.below (Yai ‹_›) hB Zo hB.size
theorem Ztv (m:Nat) (a b:Rat) (u v:Value) (w wf:World) (hx:Ext wf w) (h1:RatV m wf u a) (h2:RatV m wf v b) (hm:m<=100000) :
  Calls Tryz.prog 136 #[u,v] w λe w'=>∃r,e=.returned r∧RatV (3*m+1) w' r (a-b)∧Below w.heap.size w w':=by
 rw[Ygd];obtain⟨s,p,k,c,p',k',c',rfl,x1,x2,x3⟩:=h1;obtain⟨t,q,l,d,q',l',d',rfl,y1,y2,y3⟩:=h2;go_enter Tryz.func136,Tryz.ntmps136
 go_wp2_with fail
 refine Zbk λW hB hs b0 b1 b2=>?_;have x0:=hx.below hB;have cb0:=b0.cell;have lb0:=b0.lt;have fb0:=b0.frozen;have cb1:=b1.cell;have lb1:=b1.lt;have fb1:=b1.frozen;have cb2:=b2.cell;have lb2:=b2.lt;have fb2:=b2.frozen;refine(Zqh m a (-b) _ _ W wf x0 ⟨_,_,_,_,_,_,_,rfl,x1,x2,x3⟩ ⟨_,_,_,_,_,_,_,rfl,(Zeg b).1▸y1.neg,?_,y3⟩ hm).mono ?_
 ·have:(-b).num.natAbs=b.num.natAbs:=by rw[(Zeg b).1,Int.natAbs_neg]
  rw[this];exact y2
 rintro e W6 ⟨r,rfl,⟨s6,p6,k6,c6,q6,l6,d6,rfl,hr⟩,hb6⟩;replace hB:=Zaa hB hb6;clear x0;replace b2:=b2.below hb6;clear cb2 lb2 fb2;have cb2:=b2.cell;have lb2:=b2.lt;have fb2:=b2.frozen;go_wp2
 have b3':=((((b2.set 0 (.bool s6)).set 1 (.slice p6 k6 c6)).set 2 (.slice q6 l6 d6))).cell;have xE:Ext W6 _:=((((Ext.refl W6).set b2 Zd 0 (.bool s6)).set (b2.set 0 (.bool s6)) Zd 1 (.slice p6 k6 c6))).set ((b2.set 0 (.bool s6)).set 1 (.slice p6 k6 c6)) Zd 2 (.slice q6 l6 d6);refine bodyPost_ret (v:=.agg #[.bool s6,.slice p6 k6 c6,.slice q6 l6 d6]) (by simp[results,Tryz.results136,go_sem,b3']) rfl ⟨_,rfl,(RatV.ext ⟨_,_,_,_,_,_,_,rfl,hr⟩ xE),?_⟩;exact Zag (Zag (Zag hB Zo _ _) Zo _ _) Zo _ _
theorem Zip (s s':Bool) (p q:Option Addr) (k c l d:Nat) (w:World) :
  Calls Tryz.prog 130 #[.agg #[.bool s,.slice p k c,.bool s',.slice q l d]] w λe w'=>e=.returned (.agg #[.bool s,.slice p k c,.slice q l d])∧Below w.heap.size w w':=by
 go_enter Tryz.func130,Tryz.ntmps130
 go_wp2_with fail
 have b3':=(Box.new (w.alloc (.cells #[.bool s,.slice p k c,.bool s',.slice q l d] 54)) 174 #[.bool s,.slice p k c,.slice q l d]).cell;simp only[Yav]at b3';refine bodyPost_ret (v:=.agg #[.bool s,.slice p k c,.slice q l d]) (by simp[results,Tryz.results130,go_sem,b3']) rfl ⟨rfl,?_⟩;exact Zad (Zad (Yae _ _) _) _
end Go.Proofs.W
namespace Go.Mono
open Go.RowKit
section
theorem Sz.tight {m k:Nat} {w:World} {v:Value} {N:Int} (h:Sz m w v N) (hN:N<pw k):Sz k w v N:=by
 obtain⟨n,f,h1,h2,rfl,h4⟩:=h;refine⟨n,f,h1,h2,rfl,?_⟩;by_cases hn:n=0
 ·omega
 have:=h2.ge Zo;by_cases hk:n<=k
 ·exact hk
 ·have:=Zbs (i:=k) (k:=n-1) Zo
  omega
theorem Sz.lt {m:Nat} {w:World} {v:Value} {N:Int} (h:Sz m w v N):N<pw m:=by
 obtain⟨n,f,h1,h2,rfl,h4⟩:=h;have:=h2.lt;have:=Zbs h4;omega
def Fits (q:Rat):Prop:=(q.num.natAbs:Int)<pw 600∧(q.den:Int)<pw 600
def QV (w:World) (v:Value) (q:Rat):Prop:=
 ∃p k c p' k' c',v=.agg #[.bool (decide (q.num<0)),.slice p k c,.bool false,.slice p' k' c']∧Sz 600 w (.slice p k c) q.num.natAbs∧Sz 600 w (.slice p' k' c') q.den
theorem QV.ext {w w':World} {v:Value} {q:Rat} (h:QV w v q) (hx:Ext w w'):QV w' v q:=by
 obtain⟨p,k,c,p',k',c',rfl,h2,h3⟩:=h;exact⟨_,_,_,_,_,_,rfl,h2.ext hx,h3.ext hx⟩
theorem QV.fits {w:World} {v:Value} {q:Rat} (h:QV w v q):Fits q:=by
 obtain⟨p,k,c,p',k',c',rfl,h2,h3⟩:=h;exact⟨h2.lt,h3.lt⟩
theorem Sg.self (z:Int):Sg (decide (z<0)) z:=by
 constructor<;>intro h<;>simp at h<;>omega
theorem Fits.of {q:Rat} (k:Nat) (hk:k<=600) (h1:(q.num.natAbs:Int)<pw k) (h2:(q.den:Int)<pw k):Fits q:=by
 have:=Zbs hk;exact⟨Zo,Zo⟩
section
variable {P:Program} {f:FuncId} {args:Array Value} {R:Ending->World->Prop} {w:World} {T0 T1 T2 T3:TypeId} {c0 c1 c2 c3:Array Value}
theorem Zqi (h:∀W,Below w.heap.size w W->w.heap.size+4<=W.heap.size->Box W w.heap.size T0 c0->Box W (w.heap.size+1) T1 c1->Box W (w.heap.size+1+1) T2 c2->Box W (w.heap.size+1+1+1) T3 c3->Calls P f args W R) :
  Calls P f args ((((w.alloc (.cells c0 T0)).alloc (.cells c1 T1)).alloc (.cells c2 T2)).alloc (.cells c3 T3)) R:=by
 have b3:=Box.new (((w.alloc (.cells c0 T0)).alloc (.cells c1 T1)).alloc (.cells c2 T2)) T3 c3;simp only[Yav]at b3;have b1:=Box.new (w.alloc (.cells c0 T0)) T1 c1;have b2:=Box.new ((w.alloc (.cells c0 T0)).alloc (.cells c1 T1)) T2 c2;simp only[Yav]at b1 b2;exact h _ (((((Yae _ _).alloc (Yab _) _).alloc Zs _).alloc (by simp;omega) _).alloc (by simp;omega) _) Zs ((((Box.new _ _ _).alloc _).alloc _).alloc _) ((b1.alloc _).alloc _) (b2.alloc _) b3
end
end
end Go.Mono
