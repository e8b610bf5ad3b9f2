/- The references of chapters 13 and 17 over any valid optics. Part 3 of 5. No condition beside the row. -/
import Derived.Test.YtpfpiecljfimjaaGreatDoorA21
import Derived.Test.YtpfpiecljfimjaaGreatDoorA23
import Derived.Test.YtpfpiecljfimjaaGreatDoorD02
import Derived.Test.YtpfpiecljfimjaaGreatDoorR01
import Derived.Test.YtpfpiecljfimjaaGreatDoorR02
set_option linter.unusedVariables false
set_option linter.unusedSimpArgs false
set_option maxRecDepth 100000
set_option maxHeartbeats 4000000
namespace Go.Proofs.W
open Go.RowKit Go.Mono
theorem Ztd (a:Lns) (q:Plc):∀j v,(lcs a.nm a.di a.pu a.st a.pr q.pf a.nf q.cf q.pw a.nw q.cw q.ps a.ns q.cs q.pc 0 q.cc).toList[j]? = some v->(a.ovals q)[0+j]? = some v:=λj v hv=>by
 match j,hv with
 | 0,hv=>exact hv
 | 1,hv=>exact hv
 | 2,hv=>exact hv
 | 3,hv=>exact hv
 | 4,hv=>exact hv
 | 5,hv=>exact hv
 | 6,hv=>exact hv
 | 7,hv=>exact hv
 | 8,hv=>exact hv
theorem Zte {w:World} {base:Nat} {p:Option Addr} {c n:Nat} {f:Nat->Int} (h:IntsOwn w base p c n f) (hn:n<=5):RdF w p n c f:=by
 obtain⟨h1,h2,h3⟩:=h.at Zo;refine⟨h1,h2,λh0=>?_⟩;obtain⟨b,off,e,hb,hc⟩:=h3 h0;exact⟨b,off,e,hb,λi hi=>by have:=hc i 0 hi (Zd);rwa [Yfk,Yce]at this⟩
theorem Zvb {s:ByteArray} (hg:¬s = {data:=#[]}):(s.toList==[])=false:=by
 refine beq_eq_false_iff_ne.2 λe=>hg ?_;have h:s.data.toList=[]:=by rw[<-e];simp[Ycs]
 cases s with
 | mk d =>
   congr 1
   exact Yfo (by simpa using h)
theorem Zvt {a:Lns} {i:Nat} (hi:i<a.ns):thrS a.lst i=true↔a.through i:=by
 unfold thrS Lns.through;have e:a.lst.getD i (stdS 0)=a.S i:=by
  unfold Lns.lst;simp[Yac,hi]
 rw[e,a.lst_len];exact decide_eq_true_iff
theorem Zii (a:Lns) (ha:a.opt) (q:Plc) (w:World) (h:OptAt w a q) (hs:SrfsAt w q.ps q.cs a.lst q.cp q.cl) :
  Calls Tryz.prog 137 #[.agg (a.ovals q)] w λe w'=>e=.returned (.bool true)∧Below w.heap.size w w':=by
 have hr12:=λW (hW:Below w.heap.size w W)=>Zhq ha.base (h.toLnsAt.below hW) (hs.below hW);have hthr:=λi (hi:i<a.ns) W (hW:Below w.heap.size w W)=>Zf0 a.nm a.di a.pu a.st a.pr q.pf a.nf q.cf q.pw a.nw q.cw q.pc 0 q.cc a.lst (by rw[a.lst_len];exact ha.base.ns.2) q.ps q.cs q.cp q.cl i (by rw[a.lst_len];exact hi) W (hs.below hW);rw[a.lst_len]at hthr;have hair:=λW=>Zjp a.nw ha.base.nw.2 W;have hns:=ha.base.ns;have hnw:=ha.base.nw;have hzL:(Tryz.prog.info? 38).map (·.size)=some (lcs a.nm a.di a.pu a.st a.pr q.pf a.nf q.cf q.pw a.nw q.cw q.ps a.ns q.cs q.pc 0 q.cc).toList.length:=Zk;have hzL2:(Tryz.prog.info? 38).map (·.size)=some (lcs a.nm a.di a.pu a.st a.pr q.pf a.nf q.cf q.pw a.nw q.cw q.ps a.ns q.cs q.pc 0 q.cc).size:=Zk;have hov:=Ztd a q;have c6:(a.ovals q)[6]? = some (.slice q.pw a.nw q.cw):=rfl;have c7:(a.ovals q)[7]? = some (.slice q.ps a.ns q.cs):=rfl;have c8:(a.ovals q)[8]? = some (.slice q.pc 0 q.cc):=rfl;have c9:(a.ovals q)[9]? = some (.slice q.pi a.ns q.ci):=rfl;obtain⟨hic,hin,hix⟩:=h.index;obtain⟨bi,oi,hpi,hbi,hci⟩:=hix Zo;have hrow:=h.row;obtain⟨hsc,_,hsx⟩:=h.surfs;obtain⟨bs,os,hps,hbs,hcs⟩:=hsx Zo;generalize hA:a.ovals q=A at *;generalize hLC:lcs a.nm a.di a.pu a.st a.pr q.pf a.nf q.cf q.pw a.nw q.cw q.ps a.ns q.cs q.pc 0 q.cc=LC at *;rw[hpi]at c9;rw[hps]at c7;go_enter Tryz.func137,Tryz.ntmps137
 go_wp2_with first|(refine Zdl (T0:=41) λW hB hsz bO=>?_;have k6:=(bO.cell 6).trans c6;have k7:=(bO.cell 7).trans c7;have k8:=(bO.cell 8).trans c8;have k9:=(bO.cell 9).trans c9;have lO:=bO.lt;have hrg:W.rangeAt w.heap.size 0 LC.toList:=λj v hv=>(bO.cell _).trans (hov j v hv))|(refine wpList_load_mid rfl 38 (.tmp 6) rfl w.heap.size 0 rfl LC.toList _ hrg Tryz.underlying38 rfl hzL ?_)
 refine(hr12 W hB).mono ?_;rintro e W1 ⟨rfl,hb1⟩;have hB1:=Zaa hB hb1;replace k6:=(hb1.cell (p:=⟨w.heap.size,6,none⟩) lO).trans k6;replace k7:=(hb1.cell (p:=⟨w.heap.size,7,none⟩) lO).trans k7;replace k8:=(hb1.cell (p:=⟨w.heap.size,8,none⟩) lO).trans k8;replace k9:=(hb1.cell (p:=⟨w.heap.size,9,none⟩) lO).trans k9;replace bO:=bO.below hb1;replace lO:=bO.lt;clear hb1 hrg hr12;go_wp2_with fail
 refine(hair W1).mono ?_;rintro e W2 ⟨pa,ca,rfl,hown,hb2⟩;have hB2:=Zaa hB1 hb2;replace k6:=(hb2.cell (p:=⟨w.heap.size,6,none⟩) lO).trans k6;replace k7:=(hb2.cell (p:=⟨w.heap.size,7,none⟩) lO).trans k7;replace k9:=(hb2.cell (p:=⟨w.heap.size,9,none⟩) lO).trans k9;replace bO:=bO.below hb2;replace lO:=bO.lt;go_wp2
 have ha0:RdF W2 pa a.nw ca (a.ahead 0):=Zte hown hnw.2;go_loopw [3,4] (λv x wr=>∃i:Nat,i<=a.ns∧x=.int .i64 (i:Int)∧Below W2.heap.size W2 wr∧∃p c,v=.slice p a.nw c∧RdF wr p a.nw c (a.ahead i)) (λ_ x _=>(a.ns-intOf x).toNat)
 case atStart=>exact⟨0,Yat _,rfl,Yae _ _,pa,ca,rfl,ha0⟩
 case round=>
  obtain⟨i,hi,rfl,hBr,p,c,rfl,hah⟩:=hrel;have hBw:=Zaa hB2 hBr;have r6:=(hBr.cell (p:=⟨w.heap.size,6,none⟩) lO).trans k6;have r9:=(hBr.cell (p:=⟨w.heap.size,9,none⟩) lO).trans k9;have rO:=bO.below hBr;have lR:=rO.lt;by_cases hin':i<a.ns
  ·have hi':(i:Int)<a.ns:=by omega
   have hrw:=hrow i hin';have ri:wr.cell? ⟨bi,oi+i,none⟩=some (.slice (q.pI i) a.nw (q.cI i)):=by
    have e:=hci i 0 hin' Zd;rw[Yfk,Yce]at e;exact(hBw.cell (p:=⟨bi,oi+i,none⟩) hbi).trans e
   have hne:((a.nw:Int) != a.nw)=false:=Zs;have rg:wr.cell? ⟨bs,os+i*22+13,none⟩=some (.string (a.S i).glass):=(hBw.cell (p:=⟨bs,os+i*22+13,none⟩) hbs).trans (hcs i 13 hin' Zd);have lbs:=Yaf hbs hBw.size;have r7:=(hBr.cell (p:=⟨w.heap.size,7,none⟩) lO).trans k7;have lbi:=Yaf hbi hBw.size;generalize wr=V at *;go_wp2
   go_quiet (fail)
   go_wp2
   go_loopw [5] (λx wr=>∃j:Nat,j<=a.nw∧x=.int .i64 (j:Int)∧Below V.heap.size V wr) (λx _=>(a.nw-intOf x).toNat)
   case atStart=>exact⟨0,Yat _,rfl,below_drewN (Yae _ _) _⟩
   case round=>
    obtain⟨j,hj,rfl,hBq⟩:=hrel;have hBv:=Zaa hBw hBq;have s9:=(hBq.cell (p:=⟨w.heap.size,9,none⟩) lR).trans r9;have si:=(hBq.cell (p:=⟨bi,oi+i,none⟩) lbi).trans ri;have sO:=rO.below hBq;have lS:=sO.lt;have lb2:=Yaf lbi hBq.size;by_cases hjn:j<a.nw
    ·have hj':(j:Int)<a.nw:=by omega
     obtain⟨z0,z1⟩:=ha.ir i j hin' hjn;obtain⟨_,_,hxr⟩:=hrw;obtain⟨br,offr,er,hbr,hcr⟩:=hxr Zo;rw[er]at si;have sz:=(hBv.cell (p:=⟨br,offr+j,none⟩) hbr).trans (hcr j hjn);have lbr:=Yaf hbr hBv.size;have g1:¬a.ix i j<10000000:=Zo;have g2:¬a.ix i j>40000000:=Zo;clear hcr hxr;generalize a.ix i j=z at *;go_wp2
     go_roundw
     case rel=>exact⟨j+1,Zo,Zs,hBq⟩
     case measure=>simp[intOf];omega
    ·obtain rfl:j=a.nw:=by omega
     go_wp2_with fail
     have hSL:∀w',Below V.heap.size V w'->w'.rangeAt w.heap.size 0 LC.toList:=λw' h j v hv=>((rO.below h).cell _).trans (hov j v hv);have hrS:∀w',Below V.heap.size V w'->w'.cell? ⟨w.heap.size,9,none⟩=some (.slice (some ⟨bi,oi,none⟩) a.ns q.ci)∧w'.cell? ⟨bi,oi+i,none⟩=some (.slice (q.pI i) a.nw (q.cI i))∧w'.cell? ⟨w.heap.size,7,none⟩=some (.slice (some ⟨bs,os,none⟩) a.ns q.cs)∧w'.cell? ⟨bs,os+i*22+13,none⟩=some (.string (a.S i).glass)∧w'.cell? ⟨w.heap.size,6,none⟩=some (.slice q.pw a.nw q.cw)∧Below V.heap.size V w':=λw' h=>⟨(h.cell (p:=⟨w.heap.size,9,none⟩) lR).trans r9,(h.cell (p:=⟨bi,oi+i,none⟩) lbi).trans ri,(h.cell (p:=⟨w.heap.size,7,none⟩) lR).trans r7,(h.cell (p:=⟨bs,os+i*22+13,none⟩) lbs).trans rg,(h.cell (p:=⟨w.heap.size,6,none⟩) lR).trans r6,h⟩
     refine wp_region_held_drew (S:=λw'=>w'.cell? ⟨w.heap.size,9,none⟩=some (.slice (some ⟨bi,oi,none⟩) a.ns q.ci)∧w'.cell? ⟨bi,oi+i,none⟩=some (.slice (q.pI i) a.nw (q.cI i))∧w'.cell? ⟨w.heap.size,7,none⟩=some (.slice (some ⟨bs,os,none⟩) a.ns q.cs)∧w'.cell? ⟨bs,os+i*22+13,none⟩=some (.string (a.S i).glass)∧w'.cell? ⟨w.heap.size,6,none⟩=some (.slice q.pw a.nw q.cw)∧Below V.heap.size V w') Zx (hrS _ (Zaa hBq (Yae _ wr).drew)) (λhHeld=>?_);have hq0:=Zaa hBq (Yae _ wr).drew;generalize hXd:wr.drew=X0 at *;have hct:=λW (hW:Below V.heap.size V W)=>hthr i hin' W (Zaa hBw hW);clear hthr;have hir:=hrw;have hrA:=hah;have hrI:=λW (hW:Below V.heap.size V W)=>hrw.below (Zaa hBw hW);have hrH:=λW (hW:Below V.heap.size V W)=>hah.below hW;have hia:=ha.ia i;have hit:=ha.it i;generalize hgl:(a.S i).glass=gl at *;by_cases hT:a.through i
     ·have hTs:thrS a.lst i=true:=(Zvt hin').2 hT
      rw[hTs]at hct;have hin2:=λW (hW:Below V.heap.size V W)=>Zln a.nw (q.pI i) p (q.cI i) c (a.ix i) (a.ahead i) (λj hj=>hit j hin' hT hj) W (hrI W hW) (hrH W hW);refine tk 0 (some 80) ?_;refine tl 1 (some 81) rfl (.agg LC) (Zai 38 _ rfl w.heap.size 0 rfl LC (λw' h=>hSL w' h.2.2.2.2.2) _ Tryz.underlying38 rfl hzL2) ?_;refine tk 2 (some 82) ?_;refine Mono.stc 3 (some 83) (hct X0 hq0) (λe X1 hR=>?_);obtain⟨rfl,hbT⟩:=hR;refine⟨(hrS _ (Zaa hHeld.2.2.2.2.2 hbT)),λhHeld=>Mono.pt ?_⟩;have hq1:=Zaa hq0 hbT;refine tk 4 (some 84) ?_;refine tk 5 (some 85) ?_;refine tk 6 (some 86) ?_;refine tk 7 (some 87) ?_;refine tk 8 (some 88) ?_;refine tk 9 (some 89) ?_;refine tk 10 (some 90) ?_;refine Mono.stc 11 (some 91) (hin2 X1 hq1) (λe X2 hR=>?_);obtain⟨rfl,hbU⟩:=hR;refine⟨(hrS _ (Zaa hHeld.2.2.2.2.2 hbU)),λhHeld=>Mono.pt ?_⟩;have hq2:=Zaa hq1 hbU;refine tk 12 (some 92) ?_;refine tk 13 (some 93) ?_;refine tk 14 (some 94) ?_;refine tk 15 (some 95) ?_;refine tl 16 (some 96) rfl (.agg LC) (Zai 38 _ rfl w.heap.size 0 rfl LC (λw' h=>hSL w' h.2.2.2.2.2) _ Tryz.underlying38 rfl hzL2) ?_;refine tk 17 (some 97) ?_;refine Mono.stc 18 (some 98) (hct X2 hq2) (λe X3 hR=>?_);obtain⟨rfl,hbV⟩:=hR;refine⟨(hrS _ (Zaa hHeld.2.2.2.2.2 hbV)),λhHeld=>Mono.pt ?_⟩;have hq3:=Zaa hq2 hbV;refine tk 19 (some 99) ?_;refine tk 20 (some 100) ?_;refine ts 21 (some 101) ?_;refine ts 22 (some 102) ?_;refine ts 23 (some 103) ?_;refine ts 24 (some 104) ?_;refine ts 25 (some 105) ?_;refine ts 26 (some 106) ?_;refine ts 27 (some 107) ?_;refine ts 28 (some 108) ?_;refine tk 29 (some 109) ?_;refine tk 30 (some 110) ?_;refine ts 31 (some 111) ?_;refine ts 32 (some 112) ?_;refine ts 33 (some 113) ?_;refine ts 34 (some 114) ?_;refine ts 35 (some 115) ?_;refine ts 36 (some 116) ?_;refine ts 37 (some 117) ?_;refine ts 38 (some 118) ?_;refine ts 39 (some 119) ?_;refine ts 40 (some 120) ?_;refine ts 41 (some 121) ?_;refine ts 42 (some 122) ?_;refine tk 43 (some 123) ?_;refine tk 44 (some 124) ?_;refine wpAnyH_done Zk ?_ _;have f9:=hHeld.1;have fi:=hHeld.2.1;go_wp2
      go_roundw
      case rel=>exact⟨i+1,Zo,Zs,Zaa hBr hq3,q.pI i,q.cI i,rfl,(hrI X3 hq3)⟩
      case measure=>simp[intOf];omega
     ·have hTs:thrS a.lst i=false:=Bool.eq_false_iff.2 λe=>hT ((Zvt hin').1 e)
      rw[hTs]at hct;refine tk 0 (some 80) ?_;refine tl 1 (some 81) rfl (.agg LC) (Zai 38 _ rfl w.heap.size 0 rfl LC (λw' h=>hSL w' h.2.2.2.2.2) _ Tryz.underlying38 rfl hzL2) ?_;refine tk 2 (some 82) ?_;refine Mono.stc 3 (some 83) (hct X0 hq0) (λe X1 hR=>?_);obtain⟨rfl,hbT⟩:=hR;refine⟨(hrS _ (Zaa hHeld.2.2.2.2.2 hbT)),λhHeld=>Mono.pt ?_⟩;refine tk 4 (some 84) ?_;refine ts 5 (some 85) ?_;refine ts 6 (some 86) ?_;refine ts 7 (some 87) ?_;refine ts 8 (some 88) ?_;refine ts 9 (some 89) ?_;refine ts 10 (some 90) ?_;refine ts 11 (some 91) ?_;refine ts 12 (some 92) ?_;refine tk 13 (some 93) ?_;refine tk 14 (some 94) ?_;refine tk 15 (some 95) ?_;refine tl 16 (some 96) rfl (.agg LC) (Zai 38 _ rfl w.heap.size 0 rfl LC (λw' h=>hSL w' h.2.2.2.2.2) _ Tryz.underlying38 rfl hzL2) ?_;refine tk 17 (some 97) ?_;have hq1:=Zaa hq0 hbT;refine Mono.stc 18 (some 98) (hct X1 hq1) (λe X2 hR=>?_);obtain⟨rfl,hbU⟩:=hR;refine⟨(hrS _ (Zaa hHeld.2.2.2.2.2 hbU)),λhHeld=>Mono.pt ?_⟩;have hq2:=Zaa hq1 hbU;refine tk 19 (some 99) ?_;refine tk 20 (some 100) ?_;refine tk 21 (some 101) ?_;refine tk 22 (some 102) ?_;refine tk 23 (some 103) ?_;refine tk 24 (some 104) ?_;refine tk 25 (some 105) ?_;refine tk 26 (some 106) ?_;refine tk 27 (some 107) ?_;by_cases hg:gl = {data:=#[]}
      ·have hin3:=λpp cc W (hW:Below V.heap.size V W) (hz:RdF W pp a.nw cc (λ_=>10000000))=>Zln a.nw (q.pI i) pp (q.cI i) cc (a.ix i) (λ_=>10000000) (λj hj=>hia j hin' hT hg hj) W (hrI W hW) hz
       clear hgl;subst hg;refine tk 28 (some 108) ?_;refine tk 29 (some 109) ?_;refine tk 30 (some 110) ?_;refine tk 31 (some 111) ?_;refine tk 32 (some 112) ?_;refine tk 33 (some 113) ?_;refine tk 34 (some 114) ?_;refine tk 35 (some 115) ?_;refine tk 36 (some 116) ?_;refine tk 37 (some 117) ?_;refine tk 38 (some 118) ?_;refine tk 39 (some 119) ?_;refine Mono.stc 40 (some 120) (hair X2) (λe X3 hR=>?_);obtain⟨p3,c3,rfl,hown3,hbV⟩:=hR;refine⟨(hrS _ (Zaa hHeld.2.2.2.2.2 hbV)),λhHeld=>Mono.pt ?_⟩;have hq3:=Zaa hq2 hbV;refine Mono.stc 41 (some 121) (hin3 p3 c3 X3 hq3 (Zte hown3 hnw.2)) (λe X4 hR=>?_);obtain⟨rfl,hbY⟩:=hR;refine⟨(hrS _ (Zaa hHeld.2.2.2.2.2 hbY)),λhHeld=>Mono.pt ?_⟩;have hq4:=Zaa hq3 hbY;refine tk 42 (some 122) ?_;refine tk 43 (some 123) ?_;refine tk 44 (some 124) ?_;refine wpAnyH_done Zk ?_ _;have f9:=hHeld.1;have fi:=hHeld.2.1;go_wp2
       go_roundw
       case rel=>exact⟨i+1,Zo,Zs,Zaa hBr hq4,q.pI i,q.cI i,rfl,(hrI X4 hq4)⟩
       case measure=>simp[intOf];omega
      ·have hge:=Zvb hg
       refine tk 28 (some 108) ?_;refine tk 29 (some 109) ?_;refine tk 30 (some 110) ?_;refine ts 31 (some 111) ?_;refine ts 32 (some 112) ?_;refine ts 33 (some 113) ?_;refine ts 34 (some 114) ?_;refine ts 35 (some 115) ?_;refine ts 36 (some 116) ?_;refine ts 37 (some 117) ?_;refine ts 38 (some 118) ?_;refine ts 39 (some 119) ?_;refine ts 40 (some 120) ?_;refine ts 41 (some 121) ?_;refine ts 42 (some 122) ?_;refine tk 43 (some 123) ?_;refine tk 44 (some 124) ?_;refine wpAnyH_done Zk ?_ _;have f9:=hHeld.1;have fi:=hHeld.2.1;go_wp2
       go_roundw
       case rel=>exact⟨i+1,Zo,Zs,Zaa hBr hq2,q.pI i,q.cI i,rfl,(hrI X2 hq2)⟩
       case measure=>simp[intOf];omega
  ·obtain rfl:i=a.ns:=by omega
   go_wp2
   go_ret
   exact⟨rfl,hBw⟩
section
section
open Go.Ex
variable {K:Nat->Value} {hK:∀i,(K i).oneCell'=true}
end
end
section
open Go.Ex
variable {K:Nat->Value} {hK:∀i,(K i).oneCell'=true}
end
end Go.Proofs.W
