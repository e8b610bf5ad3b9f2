/- Contracts of package paraxial,and a verified evaluator. Part 5 of 26. No condition beside the row. -/
import Derived.Test.YtpfpiecljfimjaaGreatDoorA04
set_option linter.unusedVariables false
set_option linter.unusedSimpArgs false
set_option maxRecDepth 100000
set_option maxHeartbeats 4000000
namespace Go.Proofs.W
open Go.RowKit Go.Mono
theorem Zdw {w w1 w2:World} (h:Below w.heap.size w w1) (k:Below w1.heap.size w1 w2):Below w.heap.size w w2:=h.trans (k.mono h.size)
theorem Zxt (p:Option Addr) (n c1:Nat) (f:Nat->Int) (d:Int) (w w0:World) (h1:SlF w0 (.slice p n c1) n f) (hx:Below w0.heap.size w0 w)
  (d1:Digs f n) (hn:n<=1000000) (d0:0<=d) (d1':d<1000000000) :
  Calls Tryz.prog 201 #[.slice p n c1,.int .i64 d] w λe w'=>∃r h,e=.returned (.slice (some ⟨r,0,none⟩) (n+1) (n+1))∧w.heap.size<=r∧Below w.heap.size w w'∧
   RowF w' r (n+1) h∧(∀j,j<n+1->0<=h j)∧(∀j,j<n+1->h j<1000000000)∧vf h (n+1)=vf f n*d:=by
 refine(Zxs p n c1 f d w (h1.ext (.of_below hx)) d1.lo d1.hi hn d0 d1').mono ?_;rintro e w' ⟨rfl,hb,h,hr,h0,h1,hv⟩;exact⟨_,h,rfl,Yab _,hb,hr,h0,h1,hv⟩
theorem Zqd (p q:Option Addr) (n m c1 c2:Nat) (f g:Nat->Int) (w:World) (h1:SlF w (.slice p n c1) n f) (h2:SlF w (.slice q (m+2) c2) (m+2) g) (d1:Digs f n) (d2:Digs g (m+2))
  (hn:n<=1000000) (hle:vf g (m+2)<=vf f n) :
  Calls Tryz.prog 166 #[.slice p n c1,.slice q (m+2) c2] w λe w'=>∃p1 k1 c1 p2 k2 c2,e=.returned (.tuple #[.slice p1 k1 c1,.slice p2 k2 c2])∧Sz n w' (.slice p1 k1 c1) (vf f n/vf g (m+2))∧Sz (m+2) w' (.slice p2 k2 c2) (vf f n%vf g (m+2))∧Below w.heap.size w w':=by
 have hc:=Zj3 n (m+2) w w (Ext.refl _) p q n (m+2) c1 c2 _ _ ⟨n,f,h1,d1,rfl,Yab _⟩ ⟨m+2,g,h2,d2,rfl,Yab _⟩;have hmn:=d2.len_le d1 hle;obtain⟨_,_,hx2⟩:=h2.opens;obtain⟨b,off,rfl,hb2,hcell⟩:=hx2 Zo;have a1:=hcell (m+1) Zo;have t0:=d2.lo (m+1) Zo;have t1:=d2.hi (m+1) Zo;have t2:=d2.top Zo;rw[show m+2-1=m+1 by omega]at t2;have t3:0<g (m+1):=Zo;have t4:¬g (m+1)+1=0:=Zo;obtain⟨F0,F1,F2⟩:=Zqa t3 t1;clear hcell hx2 t2;go_enter Tryz.func166,Tryz.ntmps166
 go_wp2_with (go_at_call 132;refine hc.mono ?_;rintro e w' ⟨c,⟨rfl,k,rfl⟩,hc1,hc2⟩;have hc0:¬c<0:=λh=>by have:=hc1.1 h;omega)
 clear hc t0 t1 t3 t4 a1;have x0:Below w.heap.size w (w.drewN k):=below_drewN (Yae _ _) k;generalize w.drewN k=W at x0 ⊢;replace x0:=x0.drew;generalize hF:1000000000/(g (m+1)+1)=F at F0 F1 F2 ⊢;clear hF;have i1:(0:Int)<=(m:Int)+2:=Zo;have i2:(m:Int)+2<=((m+2+1:Nat):Int):=Zo;have i3:((m:Int)+2).toNat=m+2:=Zo;have i4:(m:Int)+2<=(m:Int)+2+1:=Zo;go_region_held3 (λw'=>Below w.heap.size w w') (first|assumption|exact x0|exact Zdw ‹Below w.heap.size w _› ‹_›) (first
  | (go_at_call 201;(with_reducible refine(Zxt p n c1 f F _ w h1 ‹_› d1 hn Zo F1).mono ?_);rintro e w1 ⟨r,hu,rfl,hr1,hb1,hru,u0,u1,uv⟩)
  | (go_at_call 201;(with_reducible refine(Zxt _ (m+2) c2 g F _ w h2 ‹_› d2 Zo Zo F1).mono ?_);rintro e w2 ⟨s,hv,rfl,hs1,hb2,hrv,v0,v1,vv⟩))
 obtain⟨Q,rfl⟩:∃Q,n=Q+(m+1):=⟨n-(m+1),Zo⟩
 have hQ0:0<Q:=Zo;have hst:=Ztq rfl d1 d2 F0;obtain⟨V1,V2⟩:=Zy4 (m:=m) (v:=hv) (G:=vf g (m+2)*F) v0 v1 vv (by
  have a2:=d2.ge Zo;rw[show m+2-1=m+1 by omega]at a2;have:=mle (show 1<=F from F0) d2.nonneg;have:F*vf g (m+2)=vf g (m+2)*F:=Ydh _ _;omega) (Zqb (m:=m+1) d2.hi F0 F2)
 have hsr:r<w1.heap.size:=hru.lt;have hwr:w.heap.size<=r:=Yak x0.size hr1;have hss:s<w2.heap.size:=hrv.lt;have ru2:=hru.below hb2;have hB2:Below w.heap.size w w2:=by assumption
 clear hle d1 d2 h1 h2 F2 hb1 hb2 i1 i2 i3 i4 x0 vv hru;go_wp2_with (at_make;refine Za0 _ rfl _ _ 170 rfl Tryz.underlying170 Zby _ _ Q rfl rfl Zo Zo Zo ?_;intro w3 r3 b3;have s3:=b3.size;have L3:=r3.lt)
 have ru3:=ru2.below b3;have rv3:=hrv.below b3;have hts:w.heap.size<=w2.heap.size:=hB2.size;have hB3:=Zdw hB2 b3;generalize w2.heap.size=t at r3 hss hts L3 hB2 ⊢;have hrs:r<s:=Zo;clear b3 s3 ru2 hrv;have HO:=OverInv.start (m:=m) (Q:=Q) (R:=Q+(m+1)+1) (A:=vf f (Q+(m+1))*F) (g:=hv) (M:=vf g (m+2)*F) Zo u0 u1 uv hst V1;clear u0 u1 uv hst;have hVp:=Zc3 (f:=hv) (k:=m+2) λi hi=>v1 i Zo;go_loopw [12] (λa wr=>∃i:Nat,i<=Q∧a=.int .i64 ((i:Int)-1)∧Below w.heap.size w wr∧∃h q,RowF wr r (Q+(m+1)+1) h∧RowF wr s (m+2+1) hv∧RowF wr t Q q∧OverInv m Q (Q+(m+1)+1) (vf f (Q+(m+1))*F) hv i h q) (λa _=>(intOf a+1).toNat)
 case atStart=>exact⟨Q,Yab _,rfl,hB3,hu,_,ru3,rv3,r3,HO⟩
 case round=>
  clear ru3 rv3 r3 HO;obtain⟨i,hi,rfl,hB,h,q,ru,rv,rq,HO⟩:=hrel;by_cases hlt:0<i
  ·obtain⟨j,rfl⟩:∃j,i=j+1:=⟨i-1,Zo⟩
   rw[show((j+1:Nat):Int)-1=(j:Int) by omega];have a1:=ru.cell (j+(m+2)) Zo;have a2:=ru.cell (j+(m+1)) Zo;have a3:=ru.cell (j+m) Zo;have a4:=rv.cell (m+1) Zo;have a5:=rv.cell m Zo;have E:=Est.mk' (m:=m) (g:=hv) (u:=win h j) (λi hi=>v0 i Zo) (λi hi=>v1 i Zo) (λi hi=>HO.lo _ Zo) (λi hi=>HO.hi _ Zo) V2 (HO.U_lt Zo);have e1:=E.u10;have e2:=E.u11;have e3:=E.u20;have e4:=E.u2_le;have e5:=E.v10;have e6:=E.v11;have e7:=E.u00;have e8:=E.u01;have e9:=E.v20;have e10:=E.v21;simp only[win]at e1 e2 e3 e4 e7 e8;have n1:((j:Int)+((m:Int)+2)).toNat=j+(m+2):=Zo;have n2:((j:Int)+((m:Int)+2)-1).toNat=j+(m+1):=Zo;have n3:((m:Int)+2-1).toNat=m+1:=Zo;have n4:((m:Int)+2-2).toNat=m:=Zo;have n5:((j:Int)+((m:Int)+2)-2).toNat=j+m:=Zo;have l1:(j:Int)+((m:Int)+2)<((Q+(m+1)+1:Nat):Int):=Zo;have l2:(j:Int)+((m:Int)+2)-1<((Q+(m+1)+1:Nat):Int):=Zo;have l3:(j:Int)+((m:Int)+2)-2<((Q+(m+1)+1:Nat):Int):=Zo;have l4:(0:Int)<=(j:Int)+((m:Int)+2)-1:=Zo;have l5:(0:Int)<=(j:Int)+((m:Int)+2)-2:=Zo;clear hc0 hc1 hc2 F0 F1 hQ0 hr1 hs1 hsr hB2 hB3;go_wp2
   go_step3
   go_wp2
   go_quiet (fail)
   go_wp2
   go_quiet (fail)
   go_wp2
   go_step3
   have hI:=E.init;have hr1:(h (j+(m+2))*1000000000+h (j+(m+1)))%hv (m+1)<1000000000:=by have:=Ybu (h (j+(m+2))*1000000000+h (j+(m+1))) e5;omega
   go_wp2_with fail
   go_loopw [14,15] (λa b W=>∃d rest,a=.int .i64 d∧b=.int .i64 rest∧EstInv (vf hv (m+2)) (vf (win h j) (m+3)) (hv (m+1)) (h (j+(m+2))*1000000000+h (j+(m+1))) d rest∧rest<1000000000∧∃k,W=wr.drewN k) (λa _ _=>(intOf a).toNat)
   case atStart=>exact⟨_,_,rfl,rfl,hI,hr1,by first|exact⟨_,rfl⟩|exact⟨_,Ydc _ _ _⟩⟩
   case round=>
    clear hI hr1;obtain⟨d,rest,rfl,rfl,hI,hrest,k',rfl⟩:=hrel;have d0:=hI.d0;have d1:=hI.d1;have r0:=hI.r0;have p1:0<=d*hv m:=Ycg d0 e9;have p2:d*hv m<=1999999998000000001:=by have:=mle (show d<=1999999999 by omega) e9;omega
    by_cases hge:1000000000<=d
    focus
     have HS:=E.step hI (.inl hge);by_cases hb:1000000000<=rest+hv (m+1)
     rotate_left
     ·go_wp2_with fail
      go_quiet (fail)
      go_wp2_with fail
      go_roundw
      case rel=>exact⟨_,_,rfl,rfl,HS,Zo,_,by first|rfl|rw[Ydc]⟩
      case measure=>have:=HS.d0;simp[intOf];omega
     obtain⟨hD1,hD2⟩:=E.brk HS hb;have hDlt:=E.done HS hD1 hD2;have hD:=HS;clear HS hD2;go_wp2_with fail
     go_quiet (fail)
     generalize hDe:d-1=D at *
    rotate_left
    focus
     have hg:d<1000000000:=Zo;have hgb:decide ((1000000000:Int)<=d)=false:=by simp;omega
     by_cases hgt:rest*1000000000+h (j+m)<d*hv m
     focus
      have HS:=E.step hI (.inr hgt);by_cases hb:1000000000<=rest+hv (m+1)
      rotate_left
      ·go_wp2_with fail
       go_quiet (fail)
       go_wp2_with fail
       go_roundw
       case rel=>exact⟨_,_,rfl,rfl,HS,Zo,_,by first|rfl|rw[Ydc]⟩
       case measure=>have:=HS.d0;simp[intOf];omega
      obtain⟨hD1,hD2⟩:=E.brk HS hb;have hDlt:=E.done HS hD1 hD2;have hD:=HS;clear HS hD2;go_wp2_with fail
      go_quiet (fail)
      generalize hDe:d-1=D at *
     rotate_left
     focus
      have hD:=hI;have hD1:=hg;have hDlt:=E.done hI hg (by show d*hv m<=rest*1000000000+h (j+m);omega);have hgc:decide (rest*1000000000+h (j+m)<d*hv m)=false:=by simp;omega
      go_wp2_with fail
      go_quiet (fail)
      generalize hDe:d=D at *
    all_goals
     have hDbig:=hD.big;have hD0:=hD.d0;have l6:j+(m+2)+1-j=m+2+1:=Zo;have l7:(0:Int)<=(j:Int)+((m:Int)+2)+1:=Zo;have l8:((j:Int)+((m:Int)+2)+1).toNat=j+(m+2)+1:=Zo;have l9:(j:Int)+((m:Int)+2)+1<=((Q+(m+1)+1:Nat):Int):=Zo;have l10:(j:Int)<=(j:Int)+((m:Int)+2)+1:=Zo;have cq:=rq.cell j Zo;have cf:=rq.frozen j;have HOlo:=HO.lo;have HOhi:=HO.hi;have VW0:0<vf hv (m+2):=E.V_pos;replace hDbig:=Yah hDbig;replace hDlt:=Yah hDlt;clear hD hI;go_wp2_with (go_at_call 202;refine(Ztn r j (m+2) (Q+(m+1)+1) _ s _ h hv D _ (ru.drewN _) ((rv.drewN _).le (m+2) Zo) Zo Zo Zo HOlo HOhi (λi hi=>v0 i Zo) (λi hi=>v1 i Zo) hD0 hD1).mono ?_;intro e w' hpost;obtain⟨bb,h',rfl,ru1,lo1,hi1,ho1,hw1,hO1⟩:=hpost;have rq1:=hO1.row (rq.drewN _) (Zo);have rv1:=hO1.row (rv.drewN _) (Zo);have cq1:=rq1.cell j (Zo);have cf1:=rq1.frozen j;replace hw1:=Yah hw1;replace ho1:=Yah ho1;cases bb)
     ·rw[Yei]
      go_wp2
      go_roundw
      case rel=>
       have W0:=Zaq (f:=win h' j) (k:=m+2+1) λi hi=>lo1 _ Zo;have W1:=Zc3 (f:=win h' j) (k:=m+2+1) λi hi=>hi1 _ Zo;have hw:=hw1.out;simp only[Ybq,if_false,Yec,Yda]at hw;obtain⟨P0,P1,P2⟩:=Zh4 (n:=m+2) (U:=vf (win h j) (m+3)) (d:=D) (W:=vf (win h' j) (m+3)) (o:=0) (t:=0) VW0 (Yap hVp) hDbig.out hDlt.out (.inl rfl) (by rw[Yec,Yda,<-hw];exact W0) (by rw[Yec,Yda,<-hw];exact W1) (λ_=>hw) (λh=>Zo) W0 W1;rw[Int.sub_zero]at P2;obtain⟨S0,S1,S2⟩:=HO.step Zo Zo (Yap hVp) lo1 hi1 ho1.out rfl P0 P1 P2;exact⟨j,Zo,rfl,(hO1.below (below_drewN hB _) hwr).setCell (p:=⟨t,j,none⟩) Zo _,h',_,ru1.other _ _ (by show r≠t;omega),rv1.other _ _ (by show s≠t;omega),rq1.set j _,S2⟩
      case measure=>simp[intOf]
     ·go_wp2_with (go_at_call 203;refine(Zto r j (m+2) (Q+(m+1)+1) _ s _ h' hv _ ru1 (rv1.le (m+2) Zo) Zo Zo Zo lo1 hi1 (λi hi=>v0 i Zo) (λi hi=>v1 i Zo)).mono ?_;rintro e w2 ⟨o,h2,rfl,ru2,lo2,hi2,ho2,hw2,hO2⟩;have rq2:=hO2.row rq1 (Zo);have rv2:=hO2.row rv1 (Zo);have cq2:=rq2.cell j (Zo);have cf2:=rq2.frozen j;replace hw2:=Yah hw2;replace ho2:=Yah ho2)
      rw[Yei];go_wp2
      go_roundw
      case rel=>
       have U0:=Zaq (f:=win h' j) (k:=m+2+1) λi hi=>lo1 _ Zo;have U1:=Zc3 (f:=win h' j) (k:=m+2+1) λi hi=>hi1 _ Zo;have W0:=Zaq (f:=win h2 j) (k:=m+2+1) λi hi=>lo2 _ Zo;have W1:=Zc3 (f:=win h2 j) (k:=m+2+1) λi hi=>hi2 _ Zo;have hw:=hw1.out;simp only[if_true]at hw;have hx:=hw2.out;rw[hw]at hx;obtain⟨P0,P1,P2⟩:=Zh4 (n:=m+2) (U:=vf (win h j) (m+3)) (d:=D) (W:=vf (win h2 j) (m+3)) (o:=o) (t:=1) VW0 (Yap hVp) hDbig.out hDlt.out (.inr rfl) (by rw[<-hw];exact U0) (by rw[<-hw];exact U1) (λh=>Zo) (λ_=>by rw[Yga]at hx;exact hx) W0 W1;obtain⟨S0,S1,S2⟩:=HO.step Zo Zo (Yap hVp) lo2 hi2 (λk hk=>(ho2.out k hk).trans (ho1.out k hk)) rfl P0 P1 P2;exact⟨j,Zo,rfl,(hO2.below (hO1.below (below_drewN hB _) hwr) hwr).setCell (p:=⟨t,j,none⟩) Zo _,h2,_,ru2.other _ _ (by show r≠t;omega),rv2.other _ _ (by show s≠t;omega),rq2.set j _,S2⟩
      case measure=>simp[intOf]
  ·obtain rfl:i=0:=by omega
   obtain⟨A1,A2,A3⟩:=HO.done Zo;rw[V1]at A1 A3;obtain⟨G1,G2⟩:=Zoh F0 A1 A2 A3;have s1:=ru.slice Zo (m+2) Zo (Q+(m+1)+1) Zo;obtain⟨k1,k2⟩:=Zb2 (f:=h) (k:=m+2) (λi hi=>HO.lo i Zo) (λi hi=>HO.hi i Zo);have k3:=Za3 h (m+2);obtain⟨k4,k5⟩:=Zb2 (f:=q) (k:=Q) (λi hi=>HO.q0 i Zo) (λi hi=>HO.q1 i Zo);have k6:=Za3 q Q;have i1:(0:Int)<=(m:Int)+2:=Zo;have i2:(m:Int)+2<=((Q+(m+1)+1:Nat):Int):=Zo;have i3:((m:Int)+2).toNat=m+2:=Zo;have Z:Sz (m+2) wr (.slice (some ⟨r,0,none⟩) (trimN h (m+2)) (Q+(m+1)+1)) (vf h (m+2)):=⟨_,h,s1.take _ k3,k1,k2,k3⟩
   have HP:=Zp7 (m+2) wr wr (Ext.refl _) _ _ _ _ F Z Zo F0 F1;replace G1:=Yah G1;replace G2:=Yah G2;replace k5:=Yah k5;clear hc1 hc2 A1 A2 A3 k2 V1 HO V2;go_wp2_with (first
    | (go_at_call 200;(with_reducible refine(Zck (some ⟨r,0,none⟩) (m+2) _ h _ s1).mono ?_);rintro e w4 ⟨rfl,rfl⟩)
    | (go_at_call 199;refine HP.mono ?_;rintro e w5 ⟨p1,k7,c3,rfl,hz,hb5⟩;have rq5:=rq.below hb5;have s5:=rq5.slice Zo Q (Yab _) Q (Yab _);have hB5:=Zdw hB hb5)
    | (go_at_call 200;(with_reducible refine(Zck (some ⟨t,0,none⟩) Q _ q _ s5).mono ?_);rintro e w4 ⟨rfl,rfl⟩))
   go_ret2
   exact⟨_,_,_,_,_,_,rfl,⟨_,q,s5.take _ k6,k4,k5.out.trans G1.out,Zo⟩,(by rw[<-G2.out];exact hz),hB5⟩
end Go.Proofs.W
