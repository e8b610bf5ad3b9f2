/- The drafted optics of chapter 13: what it is and that it is valid. Part 8 of 14. No condition beside the row. -/
import Derived.Test.YtpfpiecljfimjaaGreatDoorA21
import Derived.Test.YtpfpiecljfimjaaGreatDoorD01
import Derived.Test.YtpfpiecljfimjaaGreatDoorD07
set_option linter.unusedVariables false
set_option linter.unusedSimpArgs false
set_option maxRecDepth 100000
set_option maxHeartbeats 4000000
namespace Go.Mono
open Go.RowKit
theorem Zjo {z:Int} (h1 : -9223372036854775808<=z) (h2:z<=9223372036854775807):IntKind.i64.wrap z=z:=by
 simp[IntKind.wrap,IntKind.bits,IntKind.signed];omega
theorem Zhk {w:World} {b o:Nat} {v:Value} (h:w.cell? ⟨b,o,none⟩=some v):b<w.heap.size:=
 Nat.lt_of_not_le λhle=>by
  have:=Yfj hle;simp[World.cell?,this]at h
theorem Zhl {P:Program} {S:World->Prop} {oi:Oper} {a:Act} (t:TypeId) (x ix:Operand) (ho:oi.op=.indexAddr t x ix) {b len cap:Nat} {k:IntKind} {i:Int} (hx:a.eval x=.slice (some ⟨b,0,none⟩) len cap) (hix:a.eval ix=.int k i) {e:TypeId} (hs:P.underlying t=some (.slice e)) (hz:(P.info? e).map (·.size)=some 1) (hi:0<=i∧i<len) :
  ∀w,S w->(execOp a.eval oi).run P w=.ok (.value (.pointer (some ⟨b,i.toNat,none⟩))) w:=by
 simpa using Zbr (S:=S) t x ix ho hx hix hs hz hi
end Go.Mono
namespace Go.Proofs.W
open Go.RowKit Go.Mono
def sdAsp (d:SD) (i:Nat):Srf:={d.base with a0:=if 0<i then 1000*d.a0 else 0,a1:=if 1<i then 1000*d.a1 else 0,a2:=if 2<i then 1000*d.a2 else 0,a3:=if 3<i then 1000*d.a3 else 0}
def sdCo (d:SD) (co:List Flm):Srf:={sdAsp d 4 with co:=co}
def sdPre (d:SD):Srf:={d.base with hole:=0}
theorem Zu0 {g:Int} (hg:¬g%5=3):((dGlass g).toList==[77,73,82,82,79,82])=false:=by
 refine beq_eq_false_iff_ne.2 λe=>hg ((Zdg g).1 ?_);have h:(dGlass g).data.toList=[77,73,82,82,79,82]:=by rw[<-e];simp[Ycs]
 generalize dGlass g=s at *;cases s with
 | mk a =>
   simp only[mirror,Ydw];apply Yfo;simpa using h
theorem Zli (d:SD) (hd:d.ok) (q:Option Addr) (c:Nat) (w:World) (h:BytesAt w q c d.films) :
  Calls Tryz.prog 67 #[.agg (sdC d q c)] w λe w'=>∃p' c',e=.returned (.agg (d.srf.cs p' c'))∧CoatOwn w' w.heap.size p' c' d.srf.co∧Below w.heap.size w w':=by
 have hA:(Tryz.prog.info? 138).map (·.size)=some (sdC d q c).size:=Zk;have hsA:∀(s:Srf) p c,(Tryz.prog.info? 115).map (·.size)=some (s.cs p c).size:=λ_ _ _=>Zk;have hiP:(Tryz.prog.info? 45).map (·.size)=some 2:=Zk;have hzs:(Tryz.prog.info? 9).map (·.size)=some 1:=Zk;have hpre:∀(c9:Int),sdC d q c=sdC d q c:=λ_=>rfl;have hfilms:=λW (hW:Below w.heap.size w W)=>Zms (sdC d q c) hA q c d.films hd.films rfl W (h.below hW);have e0:(sdC d q c)[0]? = some (.int .u8 d.kind):=rfl;have e1:(sdC d q c)[1]? = some (.int .i16 d.c0):=rfl;have e2:(sdC d q c)[2]? = some (.int .i16 d.c1):=rfl;have e3:(sdC d q c)[3]? = some (.int .i16 d.k0):=rfl;have e4:(sdC d q c)[4]? = some (.int .i16 d.k1):=rfl;have e5:(sdC d q c)[5]? = some (.int .i8 d.a0):=rfl;have e6:(sdC d q c)[6]? = some (.int .i8 d.a1):=rfl;have e7:(sdC d q c)[7]? = some (.int .i8 d.a2):=rfl;have e8:(sdC d q c)[8]? = some (.int .i8 d.a3):=rfl;have e9:(sdC d q c)[9]? = some (.int .i8 d.p0):=rfl;have e10:(sdC d q c)[10]? = some (.int .i8 d.p1):=rfl;have e11:(sdC d q c)[11]? = some (.int .i8 d.order):=rfl;have e12:(sdC d q c)[12]? = some (.int .i16 d.thick):=rfl;have e13:(sdC d q c)[13]? = some (.int .u8 d.glass):=rfl;have e14:(sdC d q c)[14]? = some (.int .u8 d.semi):=rfl;have e15:(sdC d q c)[15]? = some (.int .u8 d.hole):=rfl;have e16:(sdC d q c)[16]? = some (.int .i8 d.b0):=rfl;have e17:(sdC d q c)[17]? = some (.int .i8 d.b1):=rfl;have e18:(sdC d q c)[18]? = some (.int .i8 d.b2):=rfl;have e19:(sdC d q c)[19]? = some (.int .i8 d.b3):=rfl;have e20:(sdC d q c)[20]? = some (.int .i8 d.b4):=rfl;obtain⟨⟨kind0,kind1⟩,⟨c00,c01⟩,⟨c10,c11⟩,⟨k00,k01⟩,⟨k10,k11⟩,⟨a00,a01⟩,⟨a10,a11⟩,⟨a20,a21⟩,⟨a30,a31⟩,⟨p00,p01⟩,⟨p10,p11⟩,⟨order0,order1⟩,⟨thick0,thick1⟩,⟨glass0,glass1⟩,⟨semi0,semi1⟩,⟨hole0,hole1⟩,⟨b00,b01⟩,⟨b10,b11⟩,⟨b20,b21⟩,⟨b30,b31⟩,⟨b40,b41⟩,hfl⟩:=hd;clear hfl hpre h;have hk0:=Zdq (z:=d.k0) (m:=3000) Zd;have hth:=Zdq (z:=d.thick) (m:=20000) Zd;generalize hAA:sdC d q c=A at *;go_enter Tryz.func67,Tryz.ntmps67
 go_wp2_with fail
 refine Zd3 λW hB hsz b1 b2=>?_;have c0:=(b1.cell 0).trans e0;have c1:=(b1.cell 1).trans e1;have c3:=(b1.cell 3).trans e3;have c12:=(b1.cell 12).trans e12;have c13:=(b1.cell 13).trans e13;have c14:=(b1.cell 14).trans e14;have l1:=b1.lt;have v1:IntKind.i64.wrap d.c0=d.c0:=Zjo Zo Zo;have v2:IntKind.i64.wrap (1000*d.c0)=1000*d.c0:=Zjo Zo Zo;have v3:IntKind.i64.wrap (d.k0.tmod 3000)=d.k0.tmod 3000:=Zjo Zo Zo;have v4:IntKind.i64.wrap (1000*d.k0.tmod 3000)=1000*d.k0.tmod 3000:=Zjo Zo Zo;have v5:IntKind.i64.wrap (d.thick.tmod 20000)=d.thick.tmod 20000:=Zjo Zo Zo;have v6:IntKind.i64.wrap (1000*d.thick.tmod 20000)=1000*d.thick.tmod 20000:=Zjo Zo Zo;have v7:IntKind.i64.wrap d.glass=d.glass:=Zjo Zo Zo;have v8:d.glass.tmod 5=d.glass%5:=Ybr Zo;have v9:IntKind.i64.wrap d.semi=d.semi:=Zjo Zo Zo;have v10:IntKind.i64.wrap (100000*d.semi)=100000*d.semi:=Zjo Zo Zo;refine wp_region_held_drew (S:=λw'=>(∀b o,b<W.heap.size->w'.cell? ⟨b,o,none⟩=W.cell? ⟨b,o,none⟩)∧Below W.heap.size W w') Zk (Za1 (Yae _ _).drew) (λhHeld=>?_);refine tk 0 (some 5) ?_;refine tk 1 (some 6) ?_;refine tk 2 (some 7) ?_;refine tk 3 (some 8) ?_;refine tk 4 (some 9) ?_;refine tk 5 (some 10) ?_;refine tk 6 (some 11) ?_;refine tk 7 (some 12) ?_;refine tk 8 (some 13) ?_;refine tk 9 (some 14) ?_;refine tk 10 (some 15) ?_;refine tk 11 (some 16) ?_;refine tk 12 (some 17) ?_;refine tk 13 (some 18) ?_;refine tk 14 (some 19) ?_;refine tk 15 (some 20) ?_;refine tk 17 (some 22) ?_;refine tk 18 (some 23) ?_;refine tk 19 (some 24) ?_;refine tk 20 (some 25) ?_;refine tk 23 (some 28) ?_;refine tk 24 (some 29) ?_;refine tk 25 (some 30) ?_;refine tk 26 (some 31) ?_;have hBel:Below W.heap.size W W.drew:=(Yae _ _).drew;refine Mono.Fl.open [⟨28,3,115,_⟩] (.cons (.of Zav) .nil) (λhfa=>?_);refine Mono.Fl.call 16 21 (λwc hV=>Zlh wc) ?_ (hN:=hBel.size);intro wc hV hHeld2 e W2 hR;obtain⟨BG,rfl,bG,hb2⟩:=hR;have hB2:=Zaa hV hb2;refine⟨hb2,Mono.Fl.pt ?_⟩;refine Mono.Fl.more (λw'=>(∀b o,b<W.heap.size->w'.cell? ⟨b,o,none⟩=W.cell? ⟨b,o,none⟩)∧w'.cell? ⟨BG,(d.glass%5).toNat,none⟩=some (.string (dGlass d.glass))∧Below W.heap.size W w') (λw h=>⟨h.1,h.2.2⟩) (λw hw h=>⟨h.1,((hw.cell (p:=⟨BG,(d.glass%5).toNat,none⟩) bG.lt).trans ((bG.cell _).trans (Zuz _))),h.2⟩) ?_;refine Mono.Fl.take 21 26 (v:=.pointer (some ⟨BG,(d.glass%5).toNat,none⟩)) ?_ (hv:=Zhl (b:=BG) (i:=d.glass%5) (len:=5) 178 _ _ rfl rfl rfl Tryz.underlying178 hzs ⟨Zo,Zo⟩);refine Mono.Fl.take 22 27 (v:=.string (dGlass d.glass)) ?_;refine Mono.Fl.take 27 32 (v:=.agg ((sdPre d).cs none 0)) ?_ (hv:=Zdz 115 _ rfl ((sdPre d).cs none 0) Zx);refine Mono.Fl.close1 (λB3 W3 hV hHeld hg3 b3=>?_) (hN:=hB2.size) (hSt:=λw w' h k=>⟨(Za1 (Zaa h.2.2 k)).1,(k.cell (p:=⟨BG,(d.glass%5).toNat,none⟩) (Zhk h.2.1)).trans h.2.1,Zaa h.2.2 k⟩);have hBW:=Zaa hB.drew (Zaa hB2 hV);have hg3':W.heap.size<=B3:=hg3;have hNW:w.heap.size+2<=B3:=Yak hsz hg3;refine Mono.sto 29 115 _ _ B3 0 115 _ ((sdPre d).cs none 0) ((sdPre d).cs none 0) rfl rfl rfl rfl b3 (hsA _ _ _) (Yaa rfl) (Zbv _ _ _) rfl (λW4 hk4 b34=>⟨?_,?_⟩)
 ·have hne:BG≠B3:=λe=>by
   have h1:=(bG.below hV).blk;rw[e,b3.blk]at h1;simp at h1
  have hb4:=hk4.below hHeld.2.2 hg3' hHeld.2.2.size;exact⟨(Za1 hb4).1,(hk4.cell BG _ (Zhk hHeld.2.1) hne).trans hHeld.2.1,hb4⟩
 have b14:Box W4 w.heap.size 138 A:=hk4.box (b1.drew.below (Zaa hB2 hV)) (Yaf l1 hHeld.2.2.size) Zo;have b24:Box W4 (w.heap.size+1) 115 _:=hk4.box (b2.drew.below (Zaa hB2 hV)) (Yaf b2.lt hHeld.2.2.size) Zo;have hBW4:Below w.heap.size w W4:=hk4.below hBW Zo hBW.size;refine wpAnyH_done Zk ?_ _;clear hHeld hHeld2 hk4 b3 hBW bG hV hb2 hB2 b1 b2 hBel hfa;clear v1 v2 v3 v4 v5 v6 v7 v8 v9 v10 c0 c1 c3 c12 c13 c14 l1;have cA:=b14.cell;have lA:=b14.lt;have hz:(⟨W4,b34⟩:Σ' V,Box V B3 115 ((sdPre d).cs none 0))=⟨W4,b34⟩:=rfl;clear hz;have c14:W4.cell? ⟨B3,14,none⟩=some (.int .i64 (100000*d.semi)):=b34.cell 14;have c15:W4.cell? ⟨B3,15,none⟩=some (.int .i64 0):=b34.cell 15;have f15:=b34.frozen 15;have l3:=b34.lt;have c15A:=(b14.cell 15).trans e15;rename_i K1 hK1;refine hK1 _ _ ?_;clear hK1 K1;refine wp_seq_k (λK hK=>?_);replace hK:=Yah hK;have rest:∀(y5 y6 y7 y8 y9 y10 y11 y12 y13 y14 y15 y16 y17 y18 y19 y20 y21 y22 y23 y24 y25 y26 y27 y28 y29 y30 y31 y32 y33 y34 y35 y36 y37 y38 y39 y40 y41 y42 y43 y44 y45:Value) (V:World),Below w.heap.size w V->Box V w.heap.size 138 A->Box V (w.heap.size+1) 115 #[.int .i64 0,.int .i64 0,.int .i64 0,.int .i64 0,.int .i64 0,.int .i64 0,.int .i64 0,.int .i64 0,.int .i64 0,.int .i64 0,.int .i64 0,.int .i64 0,.int .i64 0,.string {data:=#[]},.int .i64 0,.int .i64 0,.int .i64 0,.int .i64 0,.int .i64 0,.int .i64 0,.int .i64 0,.slice none 0 0]->Box V B3 115 (d.base.cs none 0)->K ⟨#[.agg A,.pointer (some ⟨w.heap.size,0,none⟩),.pointer (some ⟨w.heap.size+1,0,none⟩),.pointer (some ⟨B3,0,none⟩),undef,y5,y6,y7,y8,y9,y10,y11,y12,y13,y14,y15,y16,y17,y18,y19,y20,y21,y22,y23,y24,y25,y26,y27,y28,y29,y30,y31,y32,y33,y34,y35,y36,y37,y38,y39,y40,y41,y42,y43,y44,y45,undef,undef,undef,undef,undef,undef,undef,undef,undef,undef,undef,undef,undef,undef,undef,undef,undef,undef,undef,undef,undef,undef,undef,undef,undef,undef,undef,undef,undef,undef,undef,undef,undef,undef,undef,undef,undef,undef,undef,undef,undef,undef,undef,undef,undef,undef,undef,undef,undef,undef,undef,undef,undef,undef,undef,undef,undef,undef,undef,undef,undef,undef,undef,undef,undef,undef,undef,undef,undef,undef,undef,undef,undef,undef,undef,undef,undef,undef,undef,undef,undef,undef,undef,undef,undef,undef,undef,undef,undef,undef,undef,undef,undef,undef,undef,undef,undef,undef,undef,undef,undef,undef,undef],[]⟩ V:=by
  intro y5 y6 y7 y8 y9 y10 y11 y12 y13 y14 y15 y16 y17 y18 y19 y20 y21 y22 y23 y24 y25 y26 y27 y28 y29 y30 y31 y32 y33 y34 y35 y36 y37 y38 y39 y40 y41 y42 y43 y44 y45 V hBV bA bR bS;clear c14 c15 f15 l3 c15A b14 b24 b34 hBW4 cA;refine hK.out _ _ ?_;clear hK K;have hne:B3≠w.heap.size:=Zo;have hne2:B3≠w.heap.size+1:=Zo;have lA:=bA.lt;have hsz9:=hBV.size;by_cases k4:d.kind%8=4
  ·have hsrf:d.srf=d.asp:=by unfold SD.srf;rw[if_pos k4]
   have cA0:=(bA.cell 0).trans e0;obtain⟨co,hco⟩:∃co,(d.films.take 3).map dFilm=co:=⟨_,rfl⟩
   rw[hco]at hfilms;replace hsrf:d.srf=sdCo d co:=hsrf.trans (by rw[<-hco];rfl);go_wp2
   clear k4;try clear hq
   try clear hs
   try clear hs2
   go_loopw [4] (λx w6=>∃i:Nat,i<=4∧x=.int .i64 (i:Int)∧Below w.heap.size w w6∧Box w6 w.heap.size 138 A∧Box w6 (w.heap.size+1) 115 srf0∧Box w6 B3 115 ((sdAsp d i).cs none 0)) (λx _=>(4-intOf x).toNat)
   case atStart=>exact⟨0,Zd,rfl,hBV,bA,bR,bS⟩
   case round=>
    obtain⟨i,hi,rfl,hB6,bA6,bR6,bS6⟩:=hrel;have la6:=bA6.lt;clear bA bR bS hBV;rcases(by omega:i=0∨i=1∨i=2∨i=3∨i=4) with rfl|rfl|rfl|rfl|rfl
    ·have ca:=(bA6.cell 5).trans e5
     go_wp2_with (refine Za2 rfl 3 _ _ rfl B3 5 115 _ ((sdAsp d 1).cs none 0) (.int .i64 (1000*d.a0)) rfl rfl (Zbh _ _ _) bS6 (Yaa rfl) rfl ?_;intro V1 hk1 b31;have hB1':=hk1.below hB6 Zo hB6.size;have bR1:=hk1.box bR6 bR6.lt (Zo);have bA1:=hk1.box bA6 bA6.lt (Zo);have lb1:=bA1.lt)
     go_roundw
     case rel=>exact⟨1,Zd,rfl,hB1',bA1,bR1,b31⟩
     case measure=>simp[intOf]
    ·have ca:=(bA6.cell 6).trans e6
     go_wp2_with (refine Za2 rfl 3 _ _ rfl B3 6 115 _ ((sdAsp d 2).cs none 0) (.int .i64 (1000*d.a1)) rfl rfl (Zbh _ _ _) bS6 (Yaa rfl) rfl ?_;intro V1 hk1 b31;have hB1':=hk1.below hB6 Zo hB6.size;have bR1:=hk1.box bR6 bR6.lt (Zo);have bA1:=hk1.box bA6 bA6.lt (Zo);have lb1:=bA1.lt)
     go_roundw
     case rel=>exact⟨2,Zd,rfl,hB1',bA1,bR1,b31⟩
     case measure=>simp[intOf]
    ·have ca:=(bA6.cell 7).trans e7
     go_wp2_with (refine Za2 rfl 3 _ _ rfl B3 7 115 _ ((sdAsp d 3).cs none 0) (.int .i64 (1000*d.a2)) rfl rfl (Zbh _ _ _) bS6 (Yaa rfl) rfl ?_;intro V1 hk1 b31;have hB1':=hk1.below hB6 Zo hB6.size;have bR1:=hk1.box bR6 bR6.lt (Zo);have bA1:=hk1.box bA6 bA6.lt (Zo);have lb1:=bA1.lt)
     go_roundw
     case rel=>exact⟨3,Zd,rfl,hB1',bA1,bR1,b31⟩
     case measure=>simp[intOf]
    ·have ca:=(bA6.cell 8).trans e8
     go_wp2_with (refine Za2 rfl 3 _ _ rfl B3 8 115 _ ((sdAsp d 4).cs none 0) (.int .i64 (1000*d.a3)) rfl rfl (Zbh _ _ _) bS6 (Yaa rfl) rfl ?_;intro V1 hk1 b31;have hB1':=hk1.below hB6 Zo hB6.size;have bR1:=hk1.box bR6 bR6.lt (Zo);have bA1:=hk1.box bA6 bA6.lt (Zo);have lb1:=bA1.lt)
     go_roundw
     case rel=>exact⟨4,Zd,rfl,hB1',bA1,bR1,b31⟩
     case measure=>simp[intOf]
    ·go_wp2_with (refine Zac rfl 138 (.tmp 1) rfl w.heap.size rfl 138 A bA6 _ Tryz.underlying138 rfl hA ?_)
     refine(hfilms _ hB6).mono ?_;rintro e W7 ⟨p',c',rfl,hown,hb7⟩;have hB7:=Zaa hB6 hb7;have bA7:=bA6.below hb7;have bR7:=bR6.below hb7;have bS7:=bS6.below hb7;have lS7:=bS7.lt;go_wp2_with first|(refine Za2 rfl 113 _ _ rfl B3 21 115 _ ((sdCo d co).cs p' c') (.slice p' co.length c') rfl rfl (Zgy _ _ _ _ _) bS7 (Yaa rfl) rfl ?_;intro V1 hk1 b31;have hB1':=hk1.below hB7 Zo hB7.size;have bR1:=hk1.box bR7 bR7.lt (Zo);have bA1:=hk1.box bA7 bA7.lt (Zo);have lb1:=bA1.lt)|(refine Zac rfl 115 (.tmp 3) rfl B3 rfl 115 _ b31 _ Tryz.underlying115 rfl (hsA _ p' c') ?_)|(refine Zab rfl 115 (.tmp 2) _ rfl (w.heap.size+1) 0 115 _ ((sdCo d co).cs p' c') ((sdCo d co).cs p' c') rfl rfl bR1 (hsA _ _ _) (Yaa rfl) (Zbv _ _ _) rfl ?_;intro W9 hk9 b9)
     refine bodyPost_ret (b9.results rfl _ _ rfl Tryz.underlying115 rfl (hsA _ _ _)) rfl ?_;have hB9:=hk9.below hB1' Zo hB1'.size;have hc9:CoatOwn _ w.heap.size p' c' co:=((CoatOwn.keep (⟨Zau hown.1 hB6.size,hown.2⟩:CoatOwn W7 w.heap.size p' c' co) bS7 Zd hk1).keep bR1 Zd hk9)
     exact⟨p',c',by first|rfl|rw[hsrf],by first|exact hc9|(rw[hsrf];exact hc9),hB9⟩
  ·by_cases k5 : d.kind % 8 = 5
   ·have hsrf:d.srf=d.bic:=by unfold SD.srf;rw[if_neg k4,if_pos k5]
    have cA0:=(bA.cell 0).trans e0;have cA2:=(bA.cell 2).trans e2;have cA4:=(bA.cell 4).trans e4;have hk1:=Zdq (z:=d.k1) (m:=3000) Zd;go_wp2_with first|(refine Za2 rfl 3 _ _ rfl B3 0 115 _ (Srf.cs {d.base with kind:=2} none 0) (.int .i64 2) rfl rfl (Zbh _ _ _) bS (Yaa rfl) rfl ?_;intro V1 hk1 b31;have hB1':=hk1.below hBV Zo hBV.size;have bR1:=hk1.box bR bR.lt (Zo);have bA1:=hk1.box bA bA.lt (Zo);have c2b1:=(bA1.cell 2).trans e2;have c4b1:=(bA1.cell 4).trans e4;have lb1:=bA1.lt)|(refine Za2 rfl 3 _ _ rfl B3 3 115 _ (Srf.cs {d.base with kind:=2,curvx:=1000*d.c1} none 0) (.int .i64 (1000*d.c1)) rfl rfl (Zbh _ _ _) b31 (Yaa rfl) rfl ?_;intro V2 hk2 b32;have hB2':=hk2.below hB1' Zo hB1'.size;have bR2:=hk2.box bR1 bR1.lt (Zo);have bA2:=hk2.box bA1 bA1.lt (Zo);have c4b2:=(bA2.cell 4).trans e4;have lb2:=bA2.lt)|(refine Za2 rfl 3 _ _ rfl B3 4 115 _ (d.bic.cs none 0) (.int .i64 (1000*d.k1.tmod 3000)) rfl rfl (Zbh _ _ _) b32 (Yaa rfl) rfl ?_;intro V3 hk3 b33;have hB3':=hk3.below hB2' Zo hB2'.size;have bR3:=hk3.box bR2 bR2.lt (Zo);have bA3:=hk3.box bA2 bA2.lt (Zo);have lb3:=bA3.lt)|(refine Zac rfl 115 (.tmp 3) rfl B3 rfl 115 _ b33 _ Tryz.underlying115 rfl (hsA _ none 0) ?_)|(refine Zab rfl 115 (.tmp 2) _ rfl (w.heap.size+1) 0 115 _ (d.bic.cs none 0) (d.bic.cs none 0) rfl rfl bR3 (hsA _ _ _) (Yaa rfl) (Zbv _ _ _) rfl ?_;intro W9 hk9 b9)
    refine bodyPost_ret (b9.results rfl _ _ rfl Tryz.underlying115 rfl (hsA _ _ _)) rfl ?_;have hB9:=hk9.below hB3' Zo hB3'.size;exact⟨none,0,by first|rfl|rw[hsrf],by first|exact⟨Yaj _ _ _ _,λ_=>⟨rfl,rfl⟩⟩|(rw[hsrf];exact⟨Yaj _ _ _ _,λ_=>⟨rfl,rfl⟩⟩),hB9⟩
   ·by_cases k6 : d.kind % 8 = 6
    ·have hsrf:d.srf=d.brk:=by unfold SD.srf;rw[if_neg k4,if_neg k5,if_pos k6]
     have cA0:=(bA.cell 0).trans e0;have cA16:=(bA.cell 16).trans e16;have cA17:=(bA.cell 17).trans e17;have cA18:=(bA.cell 18).trans e18;have cA19:=(bA.cell 19).trans e19;have cA20:=(bA.cell 20).trans e20;have cS12:World.cell? _ ⟨B3,12,none⟩=some (.int .i64 (1000*d.thick.tmod 20000)):=bS.cell 12;go_wp2_with first|(refine Zap rfl 115 _ rfl (d.brk.cs none 0) Zx ?_)|(refine Zac rfl 115 (.tmp 3) rfl B3 rfl 115 _ b35 _ Tryz.underlying115 rfl (hsA _ none 0) ?_)|(refine Zab rfl 115 (.tmp 3) _ rfl B3 0 115 _ (d.brk.cs none 0) (d.brk.cs none 0) rfl rfl bS (hsA _ _ _) (Yaa rfl) (Zbv _ _ _) rfl ?_;intro W5 hk5 b35;have hB5:=hk5.below hBV Zo hBV.size;have bR5:=hk5.box bR bR.lt Zo)|(refine Zab rfl 115 (.tmp 2) _ rfl (w.heap.size+1) 0 115 _ (d.brk.cs none 0) (d.brk.cs none 0) rfl rfl bR5 (hsA _ _ _) (Yaa rfl) (Zbv _ _ _) rfl ?_;intro W9 hk9 b9)
     refine bodyPost_ret (b9.results rfl _ _ rfl Tryz.underlying115 rfl (hsA _ _ _)) rfl ?_;have hB9:=hk9.below hB5 Zo hB5.size;exact⟨none,0,by first|rfl|rw[hsrf],by first|exact⟨Yaj _ _ _ _,λ_=>⟨rfl,rfl⟩⟩|(rw[hsrf];exact⟨Yaj _ _ _ _,λ_=>⟨rfl,rfl⟩⟩),hB9⟩
    ·by_cases k7 : d.kind % 8 = 7
     ·by_cases ho : d.order.tmod 2 = 0
      ·have hsrf:d.srf=d.idl:=by unfold SD.srf;rw[if_neg k4,if_neg k5,if_neg k6,if_pos k7,if_pos ho]
       have cA0:=(bA.cell 0).trans e0;have cA11:=(bA.cell 11).trans e11;have cS1:World.cell? _ ⟨B3,1,none⟩=some (.int .i64 (1000*d.c0)):=bS.cell 1;have cS12:World.cell? _ ⟨B3,12,none⟩=some (.int .i64 (1000*d.thick.tmod 20000)):=bS.cell 12;have cS14:World.cell? _ ⟨B3,14,none⟩=some (.int .i64 (100000*d.semi)):=bS.cell 14;have cS15:World.cell? _ ⟨B3,15,none⟩=some (.int .i64 d.holeS):=bS.cell 15;go_wp2_with first|(refine Zap rfl 115 _ rfl (d.idl.cs none 0) Zx ?_)|(refine Zab rfl 115 (.tmp 2) _ rfl (w.heap.size+1) 0 115 _ (d.idl.cs none 0) (d.idl.cs none 0) rfl rfl bR (hsA _ _ _) (Yaa rfl) (Zbv _ _ _) rfl ?_;intro W9 hk9 b9)
       refine bodyPost_ret (b9.results rfl _ _ rfl Tryz.underlying115 rfl (hsA _ _ _)) rfl ?_;have hB9:=hk9.below hBV Zo hBV.size;exact⟨none,0,by first|rfl|rw[hsrf],by first|exact⟨Yaj _ _ _ _,λ_=>⟨rfl,rfl⟩⟩|(rw[hsrf];exact⟨Yaj _ _ _ _,λ_=>⟨rfl,rfl⟩⟩),hB9⟩
      ·by_cases hg:d.glass%5=3
       ·have hsrf:d.srf=d.base:=by unfold SD.srf;rw[if_neg k4,if_neg k5,if_neg k6,if_pos k7,if_neg ho,if_pos hg]
        have cA0:=(bA.cell 0).trans e0;have cA11:=(bA.cell 11).trans e11;have cS13:World.cell? _ ⟨B3,13,none⟩=some (.string (dGlass d.glass)):=bS.cell 13;rw[(Zdg _).2 hg]at cS13;replace cS13:World.cell? _ ⟨B3,13,none⟩=some (.string {data:=#[77,73,82,82,79,82]}):=cS13;go_wp2_with first|(refine Zac rfl 115 (.tmp 3) rfl B3 rfl 115 _ bS _ Tryz.underlying115 rfl (hsA _ none 0) ?_)|(refine Zab rfl 115 (.tmp 2) _ rfl (w.heap.size+1) 0 115 _ (d.base.cs none 0) (d.base.cs none 0) rfl rfl bR (hsA _ _ _) (Yaa rfl) (Zbv _ _ _) rfl ?_;intro W9 hk9 b9)
        refine bodyPost_ret (b9.results rfl _ _ rfl Tryz.underlying115 rfl (hsA _ _ _)) rfl ?_;have hB9:=hk9.below hBV Zo hBV.size;exact⟨none,0,by first|rfl|rw[hsrf],by first|exact⟨Yaj _ _ _ _,λ_=>⟨rfl,rfl⟩⟩|(rw[hsrf];exact⟨Yaj _ _ _ _,λ_=>⟨rfl,rfl⟩⟩),hB9⟩
       ·have hsrf:d.srf=d.grt:=by unfold SD.srf;rw[if_neg k4,if_neg k5,if_neg k6,if_pos k7,if_neg ho,if_neg hg]
        have cA0:=(bA.cell 0).trans e0;have cA11:=(bA.cell 11).trans e11;have cS13:World.cell? _ ⟨B3,13,none⟩=some (.string (dGlass d.glass)):=bS.cell 13;have hnm:=Zu0 hg;have hor:=Zdq (z:=d.order) (m:=4) Zd;go_wp2_with first|(refine Za2 rfl 3 _ _ rfl B3 11 115 _ (Srf.cs {d.base with order:=d.order.tmod 4} none 0) (.int .i64 (d.order.tmod 4)) rfl rfl (Zbh _ _ _) bS (Yaa rfl) rfl ?_;intro V1 hk1 b31;have hB1':=hk1.below hBV Zo hBV.size;have bR1:=hk1.box bR bR.lt (Zo);have bA1:=hk1.box bA bA.lt (Zo);have c9b1:=(bA1.cell 9).trans e9;have c10b1:=(bA1.cell 10).trans e10;have lb1:=bA1.lt)|(refine Zap rfl 45 _ rfl #[.int .i64 (1000*d.p0),.int .i64 (1000*d.p1)] Zx ?_)|(refine Zab rfl 45 _ _ rfl B3 9 115 _ #[.int .i64 (1000*d.p0),.int .i64 (1000*d.p1)] (d.grt.cs none 0) rfl rfl b31 hiP (Yaa rfl) (by simp[Value.oneCell']) rfl ?_;intro W6 hk6 b36;have hB6:=hk6.below hB1' Zo hB1'.size;have bR6:=hk6.box bR1 bR1.lt Zo)|(refine Zac rfl 115 (.tmp 3) rfl B3 rfl 115 _ b36 _ Tryz.underlying115 rfl (hsA _ none 0) ?_)|(refine Zab rfl 115 (.tmp 2) _ rfl (w.heap.size+1) 0 115 _ (d.grt.cs none 0) (d.grt.cs none 0) rfl rfl bR6 (hsA _ _ _) (Yaa rfl) (Zbv _ _ _) rfl ?_;intro W9 hk9 b9)
        refine bodyPost_ret (b9.results rfl _ _ rfl Tryz.underlying115 rfl (hsA _ _ _)) rfl ?_;have hB9:=hk9.below hB6 Zo hB6.size;exact⟨none,0,by first|rfl|rw[hsrf],by first|exact⟨Yaj _ _ _ _,λ_=>⟨rfl,rfl⟩⟩|(rw[hsrf];exact⟨Yaj _ _ _ _,λ_=>⟨rfl,rfl⟩⟩),hB9⟩
     ·have hsrf:d.srf=d.base:=by unfold SD.srf;rw[if_neg k4,if_neg k5,if_neg k6,if_neg k7]
      have cA0:=(bA.cell 0).trans e0;go_wp2_with first|(refine Zac rfl 115 (.tmp 3) rfl B3 rfl 115 _ bS _ Tryz.underlying115 rfl (hsA _ none 0) ?_)|(refine Zab rfl 115 (.tmp 2) _ rfl (w.heap.size+1) 0 115 _ (d.base.cs none 0) (d.base.cs none 0) rfl rfl bR (hsA _ _ _) (Yaa rfl) (Zbv _ _ _) rfl ?_;intro W9 hk9 b9)
      refine bodyPost_ret (b9.results rfl _ _ rfl Tryz.underlying115 rfl (hsA _ _ _)) rfl ?_;have hB9:=hk9.below hBV Zo hBV.size;exact⟨none,0,by first|rfl|rw[hsrf],by first|exact⟨Yaj _ _ _ _,λ_=>⟨rfl,rfl⟩⟩|(rw[hsrf];exact⟨Yaj _ _ _ _,λ_=>⟨rfl,rfl⟩⟩),hB9⟩
 clear hK;rcases(show(d.hole%4=1∧0<d.semi)∨(d.hole%4=1∧d.semi=0)∨¬d.hole%4=1 by omega) with ⟨hh,hs⟩|⟨hh,hs⟩|hh
 case' inl=>
  have hq:(100000*d.semi)/4=d.holeS:=by unfold SD.holeS SD.semiS;rw[if_pos ⟨hh,hs⟩]
  have hs2:0<100000*d.semi:=Zo;have bS:=b34.set 15 (.int .i64 d.holeS);have hBV:Below w.heap.size w (W4.setCell ⟨B3,15,none⟩ (.int .i64 d.holeS)):=Zag hBW4 Zo _ _;have bA:Box (W4.setCell ⟨B3,15,none⟩ (.int .i64 d.holeS)) w.heap.size 138 A:=b14.other _ _ (by show w.heap.size≠B3;omega);have bR:Box (W4.setCell ⟨B3,15,none⟩ (.int .i64 d.holeS)) (w.heap.size+1) 115 _:=b24.other _ _ (by show w.heap.size+1≠B3;omega);replace bS:Box _ B3 115 (d.base.cs none 0):=bS;go_wp2_with fail
  exact rest _ _ _ _ _ _ _ _ _ _ _ _ _ _ _ _ _ _ _ _ _ _ _ _ _ _ _ _ _ _ _ _ _ _ _ _ _ _ _ _ _ _ hBV bA bR bS
 case' inr.inl=>
  have hq:d.holeS=0:=by unfold SD.holeS;rw[if_neg Zo]
  have hs2:¬0<100000*d.semi:=Zo;have bS:=b34;have hBV:=hBW4;have bA:=b14;have bR:=b24;replace bS:Box W4 B3 115 (d.base.cs none 0):=by
   have e:(sdPre d).cs none 0=d.base.cs none 0:=by simp[sdPre,SD.base,Srf.cs,hq]
   rw[<-e];exact bS
  go_wp2_with fail
  exact rest _ _ _ _ _ _ _ _ _ _ _ _ _ _ _ _ _ _ _ _ _ _ _ _ _ _ _ _ _ _ _ _ _ _ _ _ _ _ _ _ _ _ hBV bA bR bS
 case' inr.inr=>
  have hq:d.holeS=0:=by unfold SD.holeS;rw[if_neg Zo]
  have bS:=b34;have hBV:=hBW4;have bA:=b14;have bR:=b24;replace bS:Box W4 B3 115 (d.base.cs none 0):=by
   have e:(sdPre d).cs none 0=d.base.cs none 0:=by simp[sdPre,SD.base,Srf.cs,hq]
   rw[<-e];exact bS
  go_wp2_with fail
  exact rest _ _ _ _ _ _ _ _ _ _ _ _ _ _ _ _ _ _ _ _ _ _ _ _ _ _ _ _ _ _ _ _ _ _ _ _ _ _ _ _ _ _ hBV bA bR bS
end Go.Proofs.W
