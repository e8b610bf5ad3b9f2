/- Contracts of package paraxial,and a verified evaluator. Part 3 of 28. No condition beside the row. -/
import Derived.Deep.RegionHeld3
import Derived.Test.YtfgmlkjibdegfaaGreatDoorA01
import Derived.Test.YtfgmlkjibdegfaaGreatDoorA02
set_option linter.unusedVariables false
set_option linter.unusedSimpArgs false
set_option maxRecDepth 100000
set_option maxHeartbeats 4000000
namespace Go.Mono
section
theorem mle {a b c:Int} (h:a<=b) (hc:0<=c):a*c<=b*c:=Yaw h hc
structure Est (p vl v2 v1 ul u0 u1 u2 V U:Int):Prop where
 p0:0<p
 vl0:0<=vl
 vl1:vl<p
 v20:0<=v2
 v21:v2<1000000000
 v10:0<v1
 v11:v1<1000000000
 ul0:0<=ul
 ul1:ul<p
 u00:0<=u0
 u01:u0<1000000000
 u10:0<=u1
 u11:u1<1000000000
 u20:0<=u2
 hV:V=vl+v2*p+v1*(1000000000*p)
 hU:U=ul+u0*p+u1*(1000000000*p)+u2*(1000000000*(1000000000*p))
 lt:U<V*1000000000
section
variable {p vl v2 v1 ul u0 u1 u2 V U:Int}
theorem Est.U_lt (E:Est p vl v2 v1 ul u0 u1 u2 V U):U<((u2*1000000000+u1)*1000000000+u0+1)*p:=by
 rw[E.hU];have:=E.ul1;grind
theorem Est.U_ge (E:Est p vl v2 v1 ul u0 u1 u2 V U):((u2*1000000000+u1)*1000000000+u0)*p<=U:=by
 rw[E.hU];have:=E.ul0;grind
theorem Est.V_ge (E:Est p vl v2 v1 ul u0 u1 u2 V U):(v1*1000000000+v2)*p<=V:=by
 rw[E.hV];have:=E.vl0;grind
theorem Est.V_lt (E:Est p vl v2 v1 ul u0 u1 u2 V U):V<(v1*1000000000+v2+1)*p:=by
 rw[E.hV];have:=E.vl1;grind
theorem Est.V_pos (E:Est p vl v2 v1 ul u0 u1 u2 V U):0<V:=by
 have h1:=E.V_ge;have h2:=mle (show 1<=v1*1000000000+v2 by have:=E.v10;have:=E.v20;omega) (Yap E.p0);have:=E.p0;omega
theorem Est.u2_le (E:Est p vl v2 v1 ul u0 u1 u2 V U):u2<=v1:=by
 rcases Ycz v1 u2 with h|h
 ·have h1:=E.U_ge
  have h2:=E.V_lt;have h3:=E.lt;have h4:=mle (show(v1*1000000000+v2+1)*1000000000<=(u2*1000000000+u1)*1000000000+u0 by have:=E.v21;have:=E.u10;have:=E.u00;omega) (Yap E.p0);have h5:(v1*1000000000+v2+1)*1000000000*p=(v1*1000000000+v2+1)*p*1000000000:=by grind
  omega
 ·exact h
structure EstInv (V U v1 top d rest:Int):Prop where
 top:top=d*v1+rest
 r0:0<=rest
 d0:0<=d
 d1:d<2000000000
 big:U<(d+1)*V
theorem Est.d_lt (E:Est p vl v2 v1 ul u0 u1 u2 V U) {d rest:Int} (h:u2*1000000000+u1=d*v1+rest) (hr:0<=rest):d<2000000000:=by
 rcases Ycz d 2000000000 with h1|h1
 ·exact h1
 ·have h2:=mle h1 (Yap E.v10)
  have:=E.u2_le;have:=E.u11;have:=E.v10;omega
theorem Est.init (E:Est p vl v2 v1 ul u0 u1 u2 V U):EstInv V U v1 (u2*1000000000+u1) ((u2*1000000000+u1)/v1) ((u2*1000000000+u1)%v1):=by
 generalize ht:u2*1000000000+u1=t;have t0:0<=t:=by have:=E.u20;have:=E.u10;omega
 have h1:t=t/v1*v1+t%v1:=by rw[Ydh];exact(Ycf t v1).symm
 have h2:=Ycc t (show v1≠0 by have:=E.v10;omega);have h3:=Ybu t E.v10;have h4:0<=t/v1:=Ydq t0 (Yap E.v10);refine⟨h1,h2,h4,E.d_lt (ht.trans h1) h2,?_⟩;generalize t/v1=d at h1 h4 ⊢;generalize t%v1=r at h1 h2 h3;have a1:=E.U_lt;rw[ht]at a1;have a2:(t+1)*(1000000000*p)<=((d+1)*v1)*(1000000000*p):=mle (by grind) (by have:=E.p0;omega);have a3:(t*1000000000+u0+1)*p<=((t+1)*1000000000)*p:=mle (by have:=E.u01;omega) (Yap E.p0);have a4:(v1*(1000000000*p))*(d+1)<=V*(d+1):=mle (by have:=E.hV;have:=E.vl0;have:=mle E.v20 (Yap E.p0);omega) Zo;have a5:((t+1)*1000000000)*p=(t+1)*(1000000000*p):=by grind
 have a6:((d+1)*v1)*(1000000000*p)=(v1*(1000000000*p))*(d+1):=by grind
 have a7:V*(d+1)=(d+1)*V:=by grind
 omega
theorem Est.step (E:Est p vl v2 v1 ul u0 u1 u2 V U) {d rest:Int} (I:EstInv V U v1 (u2*1000000000+u1) d rest) (h:1000000000<=d∨rest*1000000000+u0<d*v2) :
  EstInv V U v1 (u2*1000000000+u1) (d-1) (rest+v1):=by
 have hV:=E.V_pos;have hbig:U<d*V:=by
  rcases h with h|h
  ·have:=E.lt
   have:=mle h (Yap hV);have:V*1000000000=1000000000*V:=by grind
   omega
  ·have a1:=E.U_lt
   have a2:((v1*1000000000+v2)*p)*d<=V*d:=mle E.V_ge I.d0;have a3:((u2*1000000000+u1)*1000000000+u0+1)*p<=(d*v1*1000000000+d*v2)*p:=mle (by have:=I.top;omega) (Yap E.p0);have a4:(d*v1*1000000000+d*v2)*p=((v1*1000000000+v2)*p)*d:=by grind
   have a5:V*d=d*V:=by grind
   omega
 have hd:1<=d:=by
  rcases Ycz 0 d with h1|h1
  ·omega
  ·obtain rfl:d=0:=by have:=I.d0;omega
   have:=I.r0;have:=E.u00;simp at h;omega
 refine⟨by have:=I.top;grind,by have:=I.r0;have:=E.v10;omega,Zo,by have:=I.d1;omega,?_⟩;rw[show d-1+1=d by omega];exact hbig
theorem Est.done (E:Est p vl v2 v1 ul u0 u1 u2 V U) {d rest:Int} (I:EstInv V U v1 (u2*1000000000+u1) d rest) (h1:d<1000000000) (h2:d*v2<=rest*1000000000+u0):d*V<U+V:=by
 have a1:=E.U_ge;have a2:V*d<=((v1*1000000000+v2+1)*p)*d:=mle (Yap E.V_lt) I.d0;have a3:(d*v1*1000000000+d*v2)*p<=((u2*1000000000+u1)*1000000000+u0)*p:=mle (by have:=I.top;omega) (Yap E.p0);have a4:((v1*1000000000+v2+1)*p)*d=(d*v1*1000000000+d*v2)*p+d*p:=by grind
 have a5:d*p<=999999999*p:=mle Zo (Yap E.p0);have a6:(1000000000*1)*p<=(v1*1000000000+v2)*p:=mle (by have:=E.v10;have:=E.v20;omega) (Yap E.p0);have a7:=E.V_ge;have a8:V*d=d*V:=by grind
 have:=E.p0;omega
theorem Est.brk (E:Est p vl v2 v1 ul u0 u1 u2 V U) {d rest:Int} (I:EstInv V U v1 (u2*1000000000+u1) d rest) (h:1000000000<=rest):d<1000000000∧d*v2<=rest*1000000000+u0:=by
 have hd:d<1000000000:=by
  rcases Ycz d 1000000000 with h1|h1
  ·exact h1
  ·have:=mle h1 (Yap E.v10)
   have:=E.u2_le;have:=E.u11;have:=I.top;omega
 have:=Zgl I.d0 hd E.v20 E.v21;have:=E.u00;exact⟨hd,Zo⟩
end
theorem Est.mk' {m:Nat} {g u:Nat->Int} (g0:∀i,i<m+2->0<=g i) (g1:∀i,i<m+2->g i<1000000000) (u0:∀i,i<m+3->0<=u i) (u1:∀i,i<m+3->u i<1000000000)
  (htop:g (m+1)≠0) (hlt:vf u (m+3)<vf g (m+2)*1000000000) :
  Est (pw m) (vf g m) (g m) (g (m+1)) (vf u m) (u m) (u (m+1)) (u (m+2)) (vf g (m+2)) (vf u (m+3)):=by
 have h1:=g0 (m+1) Zo;exact⟨Zba m,Zar λi hi=>g0 i Zo,Zb7 λi hi=>g1 i Zo,g0 m Zo,g1 m Zo,Zo,g1 _ Zo,Zar λi hi=>u0 i Zo,Zb7 λi hi=>u1 i Zo,
  u0 _ Zo,u1 _ Zo,u0 _ Zo,u1 _ Zo,u0 _ Zo,by simp only[Zal,Za8];grind,by simp only[Zal,Za8];grind,hlt⟩
end
end Go.Mono
namespace Go.Proofs.W
open Go.RowKit Go.Mono
theorem Zml:(Tryz.prog.info? 3).map (λi=>(i.zero,i.size,i.bytes))=some (some (.int .i64 0),1,8):=Zk
theorem Zmm:(Tryz.prog.info? 3).map (·.size)=some 1:=Zk
theorem Zu2 (p q:Option Addr) (n m c1 c2:Nat) (f g:Nat->Int) (w:World) (h1:SlF w (.slice p n c1) n f) (h2:SlF w (.slice q m c2) m g)
  (f0:∀i,i<n->0<=f i) (f1:∀i,i<n->f i<1000000000) (g0:∀i,i<m->0<=g i) (g1:∀i,i<m->g i<1000000000) (hmn:m<=n) (hn:n<=1000000) :
  Calls Tryz.prog 163 #[.slice p n c1,.slice q m c2] w λe w'=>∃b k h,e=.returned (.slice (some ⟨b,0,none⟩) k (n+1))∧SlF w' (.slice (some ⟨b,0,none⟩) k (n+1)) k h∧Digs h k∧vf h k=vf f n+vf g m∧k<=n+1∧Below w.heap.size w w':=by
 obtain⟨hc1,hn1,hx1⟩:=h1.opens;obtain⟨hc2,hn2,hx2⟩:=h2.opens;go_enter Tryz.func163,Tryz.ntmps163
 go_wp2_with (first
  | (at_make;refine Za5 _ rfl _ _ 131 rfl Tryz.underlying131 Zml _ _ (n+1) rfl rfl Zs Zs Zo ?_;intro w1 r1 b1;have s1:=b1.size;have L1:=r1.lt)
  | (with_reducible refine Zdo _ rfl (.tmp 20) (.tmp 21) 131 131 rfl Tryz.underlying131 Zmm w.heap.size (n+1) _ (n+1) _ _ n c1 f rfl rfl r1 (h1.ext (.of_below b1)) Zo Zo w.heap.size w b1 (Yab _) ?_;intro w2 r2 b2))
 clear h1 h2 hx1;go_loopw [25] (λa wr=>∃k:Nat,k<=m∧a=.int .i64 k∧Below w.heap.size w wr∧RowF wr w.heap.size (n+1) (λj=>(if j<n then f j else 0)+(if j<k then g j else 0))) (λa _=>m-(intOf a).toNat)
 case atStart=>exact⟨0,Yat _,rfl,b2,r2.congr λi _=>Zs⟩
 case round=>
  obtain⟨k,hk,rfl,hb,hr⟩:=hrel;by_cases hlt:k<m
  ·obtain⟨b,off,rfl,hbs,hcell⟩:=hx2 Zo
   have a1:=(hb.cell (p:=⟨b,off+k,none⟩) hbs).trans (hcell k hlt);have a2:=hr.cell k Zo;rw[if_pos Zo,if_neg Zo,Yda]at a2;have a3:=hr.frozen k;have d1:=f0 k Zo;have d2:=f1 k Zo;have d3:=g0 k hlt;have d4:=g1 k hlt;clear hcell hx2 f0 f1 g0 g1;go_wp2
   go_roundw
   case rel=>
    refine⟨k+1,Zo,by go_num,hb.setCell (p:=⟨w.heap.size,k,none⟩) (Yab _) _,(hr.set k _).congr λi hi=>?_⟩;by_cases e:i=k
    ·subst e;simp;omega
    ·rw[if_neg e];simp only[show i<k+1↔i<k by omega]
   case measure=>simp[intOf];omega
  ·obtain rfl:k=m:=by omega
   clear hlt hk hx2;go_wp2
   have HP:PlusInv n (vf f n+vf g k) 0 (λj=>(if j<n then f j else 0)+(if j<k then g j else 0)):=PlusInv.start hmn f0 f1 g0 g1;clear f0 f1 g0 g1;go_loopw [40] (λa wr=>∃i:Nat,i<=n∧a=.int .i64 i∧Below w.heap.size w wr∧∃h,RowF wr w.heap.size (n+1) h∧PlusInv n (vf f n+vf g k) i h) (λa _=>n-(intOf a).toNat)
   case atStart=>exact⟨0,Yat _,rfl,hb,_,hr,HP⟩
   case round=>
    clear hb hr HP;obtain⟨i,hi,rfl,hb,h,hr,HP⟩:=hrel;by_cases hlt:i<n
    ·obtain⟨q1,q2,q3,q4⟩:=HP.bd hlt
     have a2:=hr.cell i Zo;have a3:=hr.frozen i;have a4:=hr.cell (i+1) Zo;have a5:=hr.frozen (i+1);by_cases hge:1000000000<=h i
     ·have r1:=hr.set i (h i-1000000000)
      have a6:=r1.cell (i+1) Zo;have a7:=r1.frozen (i+1);simp only[show ¬i+1=i by omega,if_false]at a6;go_wp2
      go_roundw
      case rel=>exact⟨i+1,Zo,by go_num,(hb.setCell (p:=⟨w.heap.size,i,none⟩) (Yab _) _).setCell (p:=⟨w.heap.size,i+1,none⟩) (Yab _) _,_,r1.set (i+1) (h (i+1)+1),HP.carry hlt hge⟩
      case measure=>simp[intOf];omega
     ·have hge':h i<1000000000:=by omega
      go_wp2
      go_roundw
      case rel=>exact⟨i+1,Zo,by go_num,hb,_,hr,HP.plain hlt hge'⟩
      case measure=>simp[intOf];omega
    ·obtain rfl:i=n:=by omega
     clear hlt hi;have hs:=hr.slice Zo (i+1) (Yab _) (i+1) (Yab _);obtain⟨c1',c2'⟩:=HP.done;have hle:=Za7 h (i+1);replace c2':=Yah c2';go_wp2_with (go_at_call 161;refine(Zcj _ _ _ h _ hs).mono ?_;rintro e w' ⟨rfl,rfl⟩)
     go_ret
     exact⟨_,_,h,rfl,hs.take _ hle,c1',c2'.out,hle,hb⟩
theorem Zu3 (p q:Option Addr) (n m c1 c2:Nat) (f g:Nat->Int) (w:World) (h1:SlF w (.slice p n c1) n f) (h2:SlF w (.slice q m c2) m g)
  (f0:∀i,i<n->0<=f i) (f1:∀i,i<n->f i<1000000000) (g0:∀i,i<m->0<=g i) (g1:∀i,i<m->g i<1000000000) (hlt':m<n) (hn:n<=1000000) :
  Calls Tryz.prog 163 #[.slice q m c2,.slice p n c1] w λe w'=>∃b k h,e=.returned (.slice (some ⟨b,0,none⟩) k (n+1))∧SlF w' (.slice (some ⟨b,0,none⟩) k (n+1)) k h∧Digs h k∧vf h k=vf f n+vf g m∧k<=n+1∧Below w.heap.size w w':=by
 have hmn:m<=n:=Zo;obtain⟨hc1,hn1,hx1⟩:=h1.opens;obtain⟨hc2,hn2,hx2⟩:=h2.opens;go_enter Tryz.func163,Tryz.ntmps163
 go_wp2_with (first
  | (at_make;refine Za5 _ rfl _ _ 131 rfl Tryz.underlying131 Zml _ _ (n+1) rfl rfl Zs Zs Zo ?_;intro w1 r1 b1;have s1:=b1.size;have L1:=r1.lt)
  | (with_reducible refine Zdo _ rfl (.tmp 20) (.tmp 21) 131 131 rfl Tryz.underlying131 Zmm w.heap.size (n+1) _ (n+1) _ _ n c1 f rfl rfl r1 (h1.ext (.of_below b1)) Zo Zo w.heap.size w b1 (Yab _) ?_;intro w2 r2 b2))
 clear h1 h2 hx1;go_loopw [25] (λa wr=>∃k:Nat,k<=m∧a=.int .i64 k∧Below w.heap.size w wr∧RowF wr w.heap.size (n+1) (λj=>(if j<n then f j else 0)+(if j<k then g j else 0))) (λa _=>m-(intOf a).toNat)
 case atStart=>exact⟨0,Yat _,rfl,b2,r2.congr λi _=>Zs⟩
 case round=>
  obtain⟨k,hk,rfl,hb,hr⟩:=hrel;by_cases hlt:k<m
  ·obtain⟨b,off,rfl,hbs,hcell⟩:=hx2 Zo
   have a1:=(hb.cell (p:=⟨b,off+k,none⟩) hbs).trans (hcell k hlt);have a2:=hr.cell k Zo;rw[if_pos Zo,if_neg Zo,Yda]at a2;have a3:=hr.frozen k;have d1:=f0 k Zo;have d2:=f1 k Zo;have d3:=g0 k hlt;have d4:=g1 k hlt;clear hcell hx2 f0 f1 g0 g1;go_wp2
   go_roundw
   case rel=>
    refine⟨k+1,Zo,by go_num,hb.setCell (p:=⟨w.heap.size,k,none⟩) (Yab _) _,(hr.set k _).congr λi hi=>?_⟩;by_cases e:i=k
    ·subst e;simp;omega
    ·rw[if_neg e];simp only[show i<k+1↔i<k by omega]
   case measure=>simp[intOf];omega
  ·obtain rfl:k=m:=by omega
   clear hlt hk hx2;go_wp2
   have HP:PlusInv n (vf f n+vf g k) 0 (λj=>(if j<n then f j else 0)+(if j<k then g j else 0)):=PlusInv.start hmn f0 f1 g0 g1;clear f0 f1 g0 g1;go_loopw [40] (λa wr=>∃i:Nat,i<=n∧a=.int .i64 i∧Below w.heap.size w wr∧∃h,RowF wr w.heap.size (n+1) h∧PlusInv n (vf f n+vf g k) i h) (λa _=>n-(intOf a).toNat)
   case atStart=>exact⟨0,Yat _,rfl,hb,_,hr,HP⟩
   case round=>
    clear hb hr HP;obtain⟨i,hi,rfl,hb,h,hr,HP⟩:=hrel;by_cases hlt:i<n
    ·obtain⟨q1,q2,q3,q4⟩:=HP.bd hlt
     have a2:=hr.cell i Zo;have a3:=hr.frozen i;have a4:=hr.cell (i+1) Zo;have a5:=hr.frozen (i+1);by_cases hge:1000000000<=h i
     ·have r1:=hr.set i (h i-1000000000)
      have a6:=r1.cell (i+1) Zo;have a7:=r1.frozen (i+1);simp only[show ¬i+1=i by omega,if_false]at a6;go_wp2
      go_roundw
      case rel=>exact⟨i+1,Zo,by go_num,(hb.setCell (p:=⟨w.heap.size,i,none⟩) (Yab _) _).setCell (p:=⟨w.heap.size,i+1,none⟩) (Yab _) _,_,r1.set (i+1) (h (i+1)+1),HP.carry hlt hge⟩
      case measure=>simp[intOf];omega
     ·have hge':h i<1000000000:=by omega
      go_wp2
      go_roundw
      case rel=>exact⟨i+1,Zo,by go_num,hb,_,hr,HP.plain hlt hge'⟩
      case measure=>simp[intOf];omega
    ·obtain rfl:i=n:=by omega
     clear hlt hi;have hs:=hr.slice Zo (i+1) (Yab _) (i+1) (Yab _);obtain⟨c1',c2'⟩:=HP.done;have hle:=Za7 h (i+1);replace c2':=Yah c2';go_wp2_with (go_at_call 161;refine(Zcj _ _ _ h _ hs).mono ?_;rintro e w' ⟨rfl,rfl⟩)
     go_ret
     exact⟨_,_,h,rfl,hs.take _ hle,c1',c2'.out,hle,hb⟩
theorem Zu4 (m1 m2:Nat) (w wf:World) (hx:Ext wf w) (p q:Option Addr) (n m c1 c2:Nat) (N M:Int) (h1:Sz m1 wf (.slice p n c1) N) (h2:Sz m2 wf (.slice q m c2) M) (hm1:m1<=1000000) (hm2:m2<=1000000) :
  Calls Tryz.prog 163 #[.slice p n c1,.slice q m c2] w λe w'=>∃p k c,e=.returned (.slice p k c)∧Sz (max m1 m2+1) w' (.slice p k c) (N+M)∧Below w.heap.size w w':=by
 obtain⟨n,f,s1,d1,rfl,l1,rfl⟩:=(h1.ext hx).sl;obtain⟨m,g,s2,d2,rfl,l2,rfl⟩:=(h2.ext hx).sl;by_cases hmn:m<=n
 ·refine(Zu2 p q n m c1 c2 f g w s1 s2 d1.lo d1.hi d2.lo d2.hi hmn Zo).mono ?_
  rintro e w' ⟨b,k,h,rfl,hs,hd,hv,hk,hb⟩;exact⟨_,_,_,rfl,⟨k,h,hs,hd,hv,Zo⟩,hb⟩
 ·refine(Zu3 q p m n c2 c1 g f w s2 s1 d2.lo d2.hi d1.lo d1.hi Zo Zo).mono ?_
  rintro e w' ⟨b,k,h,rfl,hs,hd,hv,hk,hb⟩;exact⟨_,_,_,rfl,⟨k,h,hs,hd,by rw[hv];omega,Zo⟩,hb⟩
end Go.Proofs.W
namespace Go.Mono
theorem Zlt (f:Nat->Int) (k:Nat):vf f (k+1)=f 0+1000000000*vf (λj=>f (j+1)) k:=by
 have:=Zci f 1 k;rw[Yfb 1 k]at this;rw[this];simp only[vf,pw,Int.zero_add,Int.mul_one,Yga];congr 2
 exact Zbk λi _=>by rw[Yfb]
def shl (x:Int) (f:Nat->Int):Nat->Int:=λj=>if j=0 then x else f (j-1)
theorem Zw8 (x:Int) (f:Nat->Int) (k:Nat):vf (shl x f) (k+1)=x+1000000000*vf f k:=by
 rw[Zlt];congr 2
structure ParI (f:Nat->Int) (n:Nat) (B:Int) (i:Nat) (q:Nat->Int) (R:Int):Prop where
 eq:vf (λj=>f (i+j)) (n-i)=vf (λj=>q (i+j)) (n-i)*B+R
 r0:0<=R
 r1:R<B
 lo:∀j,i<=j->j<n->0<=q j
 hi:∀j,i<=j->j<n->q j<1000000000
theorem ParI.start (f q:Nat->Int) (n:Nat) {B:Int} (hB:0<B):ParI f n B n q 0:=
 ⟨by simp[vf],Yek _,hB,λj h1 h2=>Zo,λj h1 h2=>Zo⟩
theorem ParI.next {f q:Nat->Int} {n i:Nat} {B R c R':Int} (H:ParI f n B (i+1) q R) (hi:i<n) (hc0:0<=c) (hc1:c<1000000000) (hr0:0<=R') (hr1:R'<B) (he:f i+1000000000*R=c*B+R') :
  ParI f n B i (λj=>if j=i then c else q j) R':=by
 refine⟨?_,hr0,hr1,λj h1 h2=>?_,λj h1 h2=>?_⟩
 ·obtain⟨k,hk⟩:∃k,n-i=k+1:=⟨n-i-1,Zo⟩
  have e:=H.eq;rw[show n-(i+1)=k by omega]at e;rw[hk,Zlt,Zlt];simp only[Yce,if_true];have e1:vf (λj=>f (i+(j+1))) k=vf (λj=>f (i+1+j)) k:=Zbk λj _=>by rw[show i+(j+1)=i+1+j by omega]
  have e2:vf (λj=>if i+(j+1)=i then c else q (i+(j+1))) k=vf (λj=>q (i+1+j)) k:=Zbk λj _=>by rw[if_neg Zo,show i+(j+1)=i+1+j by omega]
  rw[e1,e2,e];generalize vf (λj=>q (i+1+j)) k=Q at *;grind
 ·split
  ·exact hc0
  ·exact H.lo j Zo h2
 ·split
  ·exact hc1
  ·exact H.hi j Zo h2
theorem ParI.done {f q:Nat->Int} {n:Nat} {B R:Int} (H:ParI f n B 0 q R):vf q n=vf f n/B∧R=vf f n%B:=by
 have e:=H.eq;simp only[Nat.sub_zero,Yba]at e;have h0:=H.r0;have h1:=H.r1;have hB:0<B:=Zo;rw[e,Int.add_comm,Int.add_mul_ediv_right _ _ Zo,Int.ediv_eq_zero_of_lt h0 h1,Int.zero_add,Int.add_mul_emod_self_right,Int.emod_eq_of_lt h0 h1];exact⟨rfl,rfl⟩
theorem Zoo (a b:Int) (hb:b≠0):((a.natAbs:Int)/b.natAbs=(a.tdiv b).natAbs)∧((a.natAbs:Int)%b.natAbs=(a.tmod b).natAbs)∧
  ((decide (a<0) != decide (b<0))&&decide (0<((a.tdiv b).natAbs:Int)))=decide (a.tdiv b<0)∧(decide (a<0)&&decide (0<((a.tmod b).natAbs:Int)))=decide (a.tmod b<0):=by
 have h1:(a.natAbs:Int)/b.natAbs=(a.tdiv b).natAbs:=by rw[Yfg];norm_cast
 have h2:(a.natAbs:Int)%b.natAbs=(a.tmod b).natAbs:=by
  have:(a.tmod b).natAbs=a.natAbs%b.natAbs:=Ydy a b;rw[this];norm_cast
 refine⟨h1,h2,?_,?_⟩
 ·by_cases h0 : a.tdiv b = 0
  ·simp[h0]
  ·have hpos:0<((a.tdiv b).natAbs:Int):=by omega
   rw[decide_eq_true hpos,Bool.and_true];rw[Ycx];simp only[bne_iff_ne,ne_eq,decide_eq_decide,decide_eq_true_eq];rcases Yen a 0 with ha|ha|ha
   ·rcases Yge hb with hb'|hb'
    ·have:=Int.tdiv_nonneg_of_nonpos_of_nonpos (Yap ha) (Yap hb')
     omega
    ·have:=Int.tdiv_nonneg (a:=-a) (b:=b) Zo (Yap hb')
     rw[Int.neg_tdiv]at this;omega
   ·subst ha;simp at h0
   ·rcases Yge hb with hb'|hb'
    ·have:=Int.tdiv_nonneg (a:=a) (b:=-b) (Yap ha) Zo
     rw[Int.tdiv_neg]at this;omega
    ·have:=Int.tdiv_nonneg (Yap ha) (Yap hb')
     omega
 ·by_cases h0 : a.tmod b = 0
  ·simp[h0]
  ·have hpos:0<((a.tmod b).natAbs:Int):=by omega
   rw[decide_eq_true hpos,Bool.and_true];rw[Ycx];simp only[decide_eq_true_eq];by_cases ha:a<0
   ·have:=Int.tmod_nonneg (a:=-a) b Zo
    rw[Int.neg_tmod]at this;omega
   ·have:=Int.tmod_nonneg (a:=a) b Zo
    omega
section
open Go.RowKit
section
variable {P:Program} {ops:Array Oper} {Q:Exit->Act->World->Prop} {md:Region.Mode} {S:World->Prop}
theorem Zei (i:Nat) (d:Option Tmp) {oi:Oper} {v:Value} {fuel:Nat} {listed:Array Bool} {a:Act} {w:World} (hi:ops[i]? = some oi)
  (hs:Region.noSelect ops=true) (hf:Region.free md ops listed i=true) (hr:(Region.ready md ops listed).contains i=true) (hd:oi.dst=d)
  (hQ:∀c a w,Q (.panic c) (a.put d v) w->Q (.panic c) a w) (hw:Region.wanted oi (yielded ops a.tmps)=true) (hv:∀w,S w->(execOp a.eval oi).run P w=.ok (.value v) w) (hS:S w)
  (h:wpAnyH P md ops Q S fuel (listed.setIfInBounds i true) (a.put d v) w):wpAnyH P md ops Q S (fuel+1) listed a w:=by
 subst hd;exact wpAnyH_take hi hs hf hr hQ (Or.inl ⟨hw,hv⟩) hS h
theorem Zjj (i:Nat) (d:Option Tmp) {oi:Oper} {fuel:Nat} {listed:Array Bool} {a:Act} {w:World} (hi:ops[i]? = some oi)
  (hs:Region.noSelect ops=true) (hf:Region.free md ops listed i=true) (hr:(Region.ready md ops listed).contains i=true) (hd:oi.dst=d)
  (hQ:∀c a w,Q (.panic c) (a.put d undef) w->Q (.panic c) a w) (hw:Region.wanted oi (yielded ops a.tmps)=false) (hS:S w)
  (h:wpAnyH P md ops Q S fuel (listed.setIfInBounds i true) (a.put d undef) w):wpAnyH P md ops Q S (fuel+1) listed a w:=by
 subst hd;exact wpAnyH_take hi hs hf hr hQ (Or.inr ⟨hw,rfl⟩) hS h
theorem tk (i:Nat) (d:Option Tmp) {oi:Oper} {v:Value} {fuel:Nat} {listed:Array Bool} {a a':Act} {w:World}
  (h:wpAnyH P md ops Q S fuel (listed.setIfInBounds i true) a' w) (hi:ops[i]? = some oi:=by rfl)
  (hs:Region.noSelect ops=true:=by as_aux_lemma=>kernel_rfl) (hf:Region.free md ops listed i=true:=by as_aux_lemma=>kernel_rfl) (hr:(Region.ready md ops listed).contains i=true:=by as_aux_lemma=>kernel_rfl) (hd:oi.dst=d:=by rfl)
  (hw:Region.wanted oi (yielded ops a.tmps)=true:=by rfl) (hv:∀w,S w->(execOp a.eval oi).run P w=.ok (.value v) w:=by(intro w hSw;(try dsimp only at hSw);go_simp;all_goals with_reducible rfl))
  (hQ:∀c a w,Q (.panic c) (a.put d v) w->Q (.panic c) a w:=by exact(λ_ _ _ h=>h)) (hS:S w:=by assumption)
  (ha:a.put d v=a':=by(simp only[Act.put,Zsi,Zs0,Zss];rfl)):wpAnyH P md ops Q S (fuel+1) listed a w:=by
 subst ha;exact Zei i d hi hs hf hr hd hQ hw hv hS h
theorem tl (i:Nat) (d:Option Tmp) {oi:Oper} (hi:ops[i]? = some oi) (v:Value) {fuel:Nat} {listed:Array Bool} {a a':Act} {w:World}
  (hv:∀w,S w->(execOp a.eval oi).run P w=.ok (.value v) w) (h:wpAnyH P md ops Q S fuel (listed.setIfInBounds i true) a' w)
  (hs:Region.noSelect ops=true:=by as_aux_lemma=>kernel_rfl) (hf:Region.free md ops listed i=true:=by as_aux_lemma=>kernel_rfl) (hr:(Region.ready md ops listed).contains i=true:=by as_aux_lemma=>kernel_rfl) (hd:oi.dst=d:=by rfl)
  (hw:Region.wanted oi (yielded ops a.tmps)=true:=by rfl)
  (hQ:∀c a w,Q (.panic c) (a.put d v) w->Q (.panic c) a w:=by exact(λ_ _ _ h=>h)) (hS:S w:=by assumption)
  (ha:a.put d v=a':=by(simp only[Act.put,Zsi,Zs0,Zss];rfl)):wpAnyH P md ops Q S (fuel+1) listed a w:=by
 subst ha;exact Zei i d hi hs hf hr hd hQ hw hv hS h
theorem ts (i:Nat) (d:Option Tmp) {oi:Oper} {fuel:Nat} {listed:Array Bool} {a a':Act} {w:World}
  (h:wpAnyH P md ops Q S fuel (listed.setIfInBounds i true) a' w) (hi:ops[i]? = some oi:=by rfl)
  (hs:Region.noSelect ops=true:=by as_aux_lemma=>kernel_rfl) (hf:Region.free md ops listed i=true:=by as_aux_lemma=>kernel_rfl) (hr:(Region.ready md ops listed).contains i=true:=by as_aux_lemma=>kernel_rfl) (hd:oi.dst=d:=by rfl)
  (hw:Region.wanted oi (yielded ops a.tmps)=false:=by rfl)
  (hQ:∀c a w,Q (.panic c) (a.put d undef) w->Q (.panic c) a w:=by exact(λ_ _ _ h=>h)) (hS:S w:=by assumption)
  (ha:a.put d undef=a':=by(simp only[Act.put,Zsi,Zs0,Zss];rfl)):wpAnyH P md ops Q S (fuel+1) listed a w:=by
 subst ha;exact Zjj i d hi hs hf hr hd hQ hw hS h
theorem st (i:Nat) {o:Oper} {fuel:Nat} {listed:Array Bool} {a:Act} {w:World}
  (h:∀K':Act->World->Prop,Shut (∀a w,S w->(S w->wpAnyH P md ops Q S fuel (listed.setIfInBounds i true) a w)->K' a w)->if Region.wanted o (yielded ops a.tmps)=true then Oper.wp P o a w K' Q else K' (a.put o.dst undef) w)
  (ho:ops[i]? = some o:=by rfl) (hr:Region.ready md ops listed=[i]:=by as_aux_lemma=>kernel_rfl):wpAnyH P md ops Q S (fuel+1) listed a w:=
 wpAnyH_ready hr Zs (Yal ho h Yas)
theorem kp {K' X:Act->World->Prop} (hK:Shut (∀a w,S w->(S w->X a w)->K' a w)) {a a':Act} {w:World} (hS:S w) (h:S w->X a' w)
  (ha:a=a':=by first|(simp only[Act.put,Zsi,Zs0,Zss];rfl)|rfl):K' a w:=by
 subst ha;exact hK.out _ _ hS h
end
end
end Go.Mono
namespace Go.Proofs.W
open Go.RowKit Go.Mono
theorem Zwz (p:Option Addr) (n c1:Nat) (f:Nat->Int) (d:Int) (w:World) (h1:SlF w (.slice p n c1) n f)
  (f0:∀i,i<n->0<=f i) (f1:∀i,i<n->f i<1000000000) (hn:n<=1000000) (d0:0<=d) (d1:d<1000000000) :
  Calls Tryz.prog 189 #[.slice p n c1,.int .i64 d] w λe w'=>e=.returned (.slice (some ⟨w.heap.size,0,none⟩) (n+1) (n+1))∧Below w.heap.size w w'∧
   ∃h,RowF w' w.heap.size (n+1) h∧(∀j,j<n+1->0<=h j)∧(∀j,j<n+1->h j<1000000000)∧vf h (n+1)=vf f n*d:=by
 obtain⟨hc1,hn1,hx1⟩:=h1.opens;clear h1;go_enter Tryz.func189,Tryz.ntmps189
 go_wp2_with (at_make;refine Za5 _ rfl _ _ 131 rfl Tryz.underlying131 Zbz _ _ (n+1) rfl rfl Zs Zs Zo ?_;intro w1 r1 b1;have s1:=b1.size;have L1:=r1.lt)
 go_loopw [6,16] (λc a wr=>∃i:Nat,i<=n∧a=.int .i64 i∧Below w.heap.size w wr∧∃h cc,c=.int .i64 cc∧RowF wr w.heap.size (n+1) h∧ByInv n f d i h cc) (λ_ a _=>n-(intOf a).toNat)
 case atStart=>exact⟨0,Yat _,rfl,b1,_,_,rfl,r1,ByInv.start⟩
 case round=>
  clear b1 s1 L1 r1;obtain⟨i,hi,rfl,hb,h,cc,rfl,hr,HT⟩:=hrel;by_cases hlt:i<n
  ·obtain⟨b,off,rfl,hbs,hcell⟩:=hx1 Zo
   have a1:=(hb.cell (p:=⟨b,off+i,none⟩) hbs).trans (hcell i hlt);have fi0:=f0 i hlt;have fi1:=f1 i hlt;have a2:=hr.cell i Zo;have a3:=hr.frozen i;have d3:=HT.c0;have d4:=HT.c1;obtain⟨d5,d6⟩:=Zgl fi0 fi1 d0 d1;clear hcell hx1 f0 f1;go_wp2
   go_roundw
   case rel=>exact⟨i+1,Zo,by go_num,hb.setCell (p:=⟨w.heap.size,i,none⟩) (Yab _) _,_,_,rfl,hr.set i _,HT.step hlt fi0 fi1 d0 d1⟩
   case measure=>simp[intOf];omega
  ·obtain rfl:i=n:=by omega
   have a2:=hr.cell i Zo;have a3:=hr.frozen i;obtain⟨q1,q2,q3⟩:=HT.done;replace q3:=Yah q3;clear hlt hi hx1 f0 f1;go_wp2
   go_ret
   exact⟨rfl,hb.setCell (p:=⟨w.heap.size,i,none⟩) (Yab _) _,_,hr.set i cc,q1,q2,q3.out⟩
theorem Zsp (p:Option Addr) (n c1:Nat) (f:Nat->Int) (d:Int) (w:World) (h1:SlF w (.slice p n c1) n f)
  (f0:∀i,i<n->0<=f i) (f1:∀i,i<n->f i<1000000000) (hn:n<=1000000) (d0:0<d) (d1:d<1000000000) :
  Calls Tryz.prog 188 #[.slice p n c1,.int .i64 d] w λe w'=>∃b k h r,e=.returned (.tuple #[.slice (some ⟨b,0,none⟩) k n,.int .i64 r])∧SlF w' (.slice (some ⟨b,0,none⟩) k n) k h∧Digs h k∧vf f n=d*vf h k+r∧0<=r∧r<d∧k<=n∧Below w.heap.size w w':=by
 obtain⟨hc1,hn1,hx1⟩:=h1.opens;clear h1;go_enter Tryz.func188,Tryz.ntmps188
 go_wp2_with (at_make;refine Za5 _ rfl _ _ 131 rfl Tryz.underlying131 Zbz _ _ n rfl rfl Zs Zs Zo ?_;intro w1 r1 b1;have s1:=b1.size;have L1:=r1.lt)
 go_loopw [7,8] (λc a wr=>∃i:Nat,i<=n∧a=.int .i64 ((i:Int)-1)∧Below w.heap.size w wr∧∃h cc,c=.int .i64 cc∧RowF wr w.heap.size n h∧PartInv n f d i h cc) (λ_ a _=>(intOf a+1).toNat)
 case atStart=>exact⟨n,Yab _,rfl,b1,_,_,rfl,r1,PartInv.start d0⟩
 case round=>
  clear b1 s1 L1 r1;obtain⟨i,hi,rfl,hb,h,cc,rfl,hr,HT⟩:=hrel;by_cases hlt:0<i
  ·obtain⟨b,off,rfl,hbs,hcell⟩:=hx1 Zo
   obtain⟨i,rfl⟩:∃j,i=j+1:=⟨i-1,Zo⟩
   rw[show((i+1:Nat):Int)-1=(i:Int) by omega];have a1:=(hb.cell (p:=⟨b,off+i,none⟩) hbs).trans (hcell i Zo);have fi0:=f0 i Zo;have fi1:=f1 i Zo;have a2:=hr.cell i Zo;have a3:=hr.frozen i;have d3:=HT.r0;have d4:=HT.r1;have hd:¬d=0:=Zo;clear hcell hx1 f0 f1;go_wp2
   go_region
   go_wp2
   go_roundw
   case rel=>exact⟨i,Zo,rfl,(hb.setCell (p:=⟨w.heap.size,i,none⟩) (Yab _) _).drew,_,_,rfl,(hr.set i _).drewN 1,HT.step Zo fi0 fi1⟩
   case measure=>simp[intOf]
  ·obtain rfl:i=0:=by omega
   clear hlt hi hx1 f0 f1;have hs:=hr.slice Zo n (Yab _) n (Yab _);obtain⟨c1',c2'⟩:=HT.done;have hle:=Za7 h n;have d3:=HT.r0;have d4:=HT.r1;replace c2':=Yah c2';go_wp2_with (go_at_call 161;refine(Zcj _ _ _ h _ hs).mono ?_;rintro e w' ⟨rfl,rfl⟩)
   go_ret2
   exact⟨_,_,h,cc,rfl,hs.take _ hle,c1',c2'.out,d3,d4,hle,hb⟩

theorem Zpl (m1:Nat) (w wf:World) (hx:Ext wf w) (p:Option Addr) (n c1:Nat) (N d:Int) (h1:Sz m1 wf (.slice p n c1) N) (hm1:m1<=1000000) (d0:0<d) (d1:d<1000000000) :
  Calls Tryz.prog 188 #[.slice p n c1,.int .i64 d] w λe w'=>∃p k c,e=.returned (.tuple #[.slice p k c,.int .i64 (N%d)])∧Sz m1 w' (.slice p k c) (N/d)∧Below w.heap.size w w':=by
 obtain⟨n,f,s1,d1',rfl,l1,rfl⟩:=(h1.ext hx).sl;refine(Zsp p n c1 f d w s1 d1'.lo d1'.hi Zo d0 d1).mono ?_;rintro e w' ⟨b,k,h,r,rfl,hs,hd,hv,r0,r1,hk,hb⟩;have e1:vf f n/d=vf h k:=by
  rw[hv];exact Int.ediv_eq_iff_of_pos d0 |>.2 ⟨by rw[Ydh];omega,by rw[Ydh];omega⟩
 have e2:vf f n%d=r:=by
  have:=Ycf (vf f n) d;rw[e1]at this;omega
 exact⟨_,_,_,by rw[e2],⟨k,h,hs,hd,e1.symm,Zo⟩,hb⟩
end Go.Proofs.W
namespace Go.Mono
abbrev win (h:Nat->Int) (j:Nat):Nat->Int:=λi=>h (j+i)
structure LessInv (R j n:Nat) (h0 g:Nat->Int) (d:Int) (i:Nat) (h:Nat->Int) (b:Int):Prop where
 lo:∀k,k<R->0<=h k
 hi:∀k,k<R->h k<1000000000
 out:∀k,k<j∨j+i<=k->h k=h0 k
 b0:0<=b
 b1:b<=1000000000
 val:vf (win h j) (n+1)-b*pw i=vf (win h0 j) (n+1)-d*vf g i
theorem Zie (h:Nat->Int) (j i k:Nat) (x:Int):vf (win (λy=>if y=j+i then x else h y) j) k=vf (win h j) k+(if i<k then(x-h (j+i))*pw i else 0):=by
 rw[<-Zc8 (win h j) i x k];refine Zbk λy _=>?_;simp only[win];by_cases e:y=i
 ·subst e;simp
 ·rw[if_neg Zo,if_neg e]
theorem LessInv.start {R j n:Nat} {h0 g:Nat->Int} {d:Int} (lo:∀k,k<R->0<=h0 k) (hi:∀k,k<R->h0 k<1000000000):LessInv R j n h0 g d 0 h0 0:=
 ⟨lo,hi,λ_ _=>rfl,Zs,Zs,by simp[vf]⟩
theorem LessInv.step {R j n:Nat} {h0 g:Nat->Int} {d:Int} {i:Nat} {h:Nat->Int} {b:Int} (H:LessInv R j n h0 g d i h b) (hi:i<n)
  (g0:0<=g i) (g1:g i<1000000000) (d0:0<=d) (d1:d<1000000000) {t e:Int} (ht:0<=t) (ht2:t<=2)
  (he:e=h (j+i)-(g i*d)%1000000000-b+t*1000000000) (e0:0<=e) (e1:e<1000000000) :
  LessInv R j n h0 g d (i+1) (λk=>if k=j+i then e else h k) ((g i*d)/1000000000+t):=by
 obtain⟨m0,m1⟩:=Zgl g0 g1 d0 d1;have b0:=H.b0;have b1:=H.b1;have hv:=H.val;generalize hx:g i*d=x at *;have hq:x=1000000000*(x/1000000000)+x%1000000000:=(Ycf x 1000000000).symm;refine⟨λk hk=>?_,λk hk=>?_,λk hk=>?_,Zo,Zo,?_⟩
 ·show 0<=if k=j+i then _ else _
  split
  ·omega
  ·exact H.lo k hk
 ·show(if k=j+i then _ else _)<_
  split
  ·omega
  ·exact H.hi k hk
 ·show(if k=j+i then _ else _)=_
  rw[if_neg Zo];exact H.out k Zo
 ·rw[Zie,if_pos Zo,Zal g i,Za8]
  generalize x/1000000000=q at hq ⊢;generalize x%1000000000=r at hq he;generalize vf (win h j) (n+1)=V at hv ⊢;subst he;grind
theorem LessInv.last {R j n:Nat} {h0 g:Nat->Int} {d:Int} {h:Nat->Int} {b:Int} (H:LessInv R j n h0 g d n h b) {t e:Int} (ht:t=0∨t=1)
  (he:e=h (j+n)-b+t*1000000000) (e0:0<=e) (e1:e<1000000000) :
  vf (win (λk=>if k=j+n then e else h k) j) (n+1)=vf (win h0 j) (n+1)-d*vf g n+t*pw (n+1)∧(∀k,k<R->0<=(if k=j+n then e else h k))∧(∀k,k<R->(if k=j+n then e else h k)<1000000000)∧
   (∀k,k<j∨j+n<k->(if k=j+n then e else h k)=h0 k):=by
 have hv:=H.val;refine⟨?_,λk hk=>?_,λk hk=>?_,λk hk=>?_⟩
 ·rw[Zie,if_pos Zo,Za8]
  generalize vf (win h j) (n+1)=V at hv ⊢;subst he;grind
 ·split
  ·omega
  ·exact H.lo k hk
 ·split
  ·omega
  ·exact H.hi k hk
 ·rw[if_neg Zo];exact H.out k Zo
structure MoreInv (R j n:Nat) (h0 g:Nat->Int) (i:Nat) (h:Nat->Int) (c:Int):Prop where
 lo:∀k,k<R->0<=h k
 hi:∀k,k<R->h k<1000000000
 out:∀k,k<j∨j+i<=k->h k=h0 k
 c0:0<=c
 c1:c<=1
 val:vf (win h j) (n+1)+c*pw i=vf (win h0 j) (n+1)+vf g i
theorem MoreInv.start {R j n:Nat} {h0 g:Nat->Int} (lo:∀k,k<R->0<=h0 k) (hi:∀k,k<R->h0 k<1000000000):MoreInv R j n h0 g 0 h0 0:=
 ⟨lo,hi,λ_ _=>rfl,Zs,Zs,by simp[vf]⟩
theorem MoreInv.step {R j n:Nat} {h0 g:Nat->Int} {i:Nat} {h:Nat->Int} {c:Int} (H:MoreInv R j n h0 g i h c) (hi:i<n) (hR:j+n<R)
  (g0:0<=g i) (g1:g i<1000000000) :
  MoreInv R j n h0 g (i+1) (λk=>if k=j+i then(h (j+i)+g i+c)%1000000000 else h k) ((h (j+i)+g i+c)/1000000000):=by
 have c0:=H.c0;have c1:=H.c1;have hv:=H.val;have a0:=H.lo (j+i) Zo;have a1:=H.hi (j+i) Zo;generalize hx:h (j+i)+g i+c=x;have hq:x=1000000000*(x/1000000000)+x%1000000000:=(Ycf x 1000000000).symm;refine⟨λk hk=>?_,λk hk=>?_,λk hk=>?_,Zo,Zo,?_⟩
 ·show 0<=if k=j+i then _ else _
  split
  ·omega
  ·exact H.lo k hk
 ·show(if k=j+i then _ else _)<_
  split
  ·omega
  ·exact H.hi k hk
 ·show(if k=j+i then _ else _)=_
  rw[if_neg Zo];exact H.out k Zo
 ·rw[Zie,if_pos Zo,Zal g i,Za8]
  generalize x/1000000000=q at hq ⊢;generalize x%1000000000=r at hq ⊢;generalize vf (win h j) (n+1)=V at hv ⊢;grind
theorem MoreInv.last {R j n:Nat} {h0 g:Nat->Int} {h:Nat->Int} {c:Int} (H:MoreInv R j n h0 g n h c) (hR:j+n<R) :
  ∃o:Int,vf (win (λk=>if k=j+n then(h (j+n)+c)%1000000000 else h k) j) (n+1)=vf (win h0 j) (n+1)+vf g n-o*pw (n+1)∧(∀k,k<R->0<=(if k=j+n then(h (j+n)+c)%1000000000 else h k))∧(∀k,k<R->(if k=j+n then(h (j+n)+c)%1000000000 else h k)<1000000000)∧
    (∀k,k<j∨j+n<k->(if k=j+n then(h (j+n)+c)%1000000000 else h k)=h0 k):=by
 have c0:=H.c0;have c1:=H.c1;have hv:=H.val;generalize hx:h (j+n)+c=x;have hq:x=1000000000*(x/1000000000)+x%1000000000:=(Ycf x 1000000000).symm;refine⟨x/1000000000,?_,λk hk=>?_,λk hk=>?_,λk hk=>?_⟩
 ·rw[Zie,if_pos Zo,Za8]
  generalize x/1000000000=q at hq ⊢;generalize x%1000000000=r at hq ⊢;generalize vf (win h j) (n+1)=V at hv ⊢;grind
 ·split
  ·omega
  ·exact H.lo k hk
 ·split
  ·omega
  ·exact H.hi k hk
 ·rw[if_neg Zo];exact H.out k Zo
theorem Zco {n:Nat} {U V d W:Int} {o t:Int} (hV0:0<V) (hVn:V<=pw n) (hd:U<(d+1)*V) (hd2:d*V<U+V) (ht:t=0∨t=1)
  (w0:0<=U-d*V+t*pw (n+1)) (w1:U-d*V+t*pw (n+1)<pw (n+1)) (hW:t=0->W=U-d*V) (hW1:t=1->W=U-d*V+pw (n+1)+V-o*pw (n+1)) (W0:0<=W) (W1:W<pw (n+1)) :
  0<=W∧W<V∧U=(d-t)*V+W:=by
 have hp:=Za8 n;have hp0:=Zba n;have e1:(d+1)*V=d*V+V:=by grind
 rcases ht with rfl|rfl
 ·have:=hW rfl
  rw[Int.sub_zero];omega
 ·have h1:=hW1 rfl
  have e2:(d-1)*V=d*V-V:=by grind
  have h2:U-d*V<0:=Zo;have h3:W-(U-d*V+V)=(1-o)*pw (n+1):=by grind
  have h4:o=1:=by
   rcases Yen o 1 with h|h|h
   ·have:=mle (show 1<=1-o by omega) (Yap (Zba (n+1)));omega
   ·exact h
   ·have:=mle (show 1-o<=-1 by omega) (Yap (Zba (n+1)));omega
  subst h4;omega
end Go.Mono
