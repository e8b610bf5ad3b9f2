/- The drafted optics of chapter 13: what it is and that it is valid. Part 7 of 14. No condition beside the row. -/
import Derived.Test.YtpfpiecljfimjaaGreatDoorA03
import Derived.Test.YtpfpiecljfimjaaGreatDoorA14
import Derived.Test.YtpfpiecljfimjaaGreatDoorD01
import Derived.Test.YtpfpiecljfimjaaGreatDoorD06
set_option linter.unusedVariables false
set_option linter.unusedSimpArgs false
set_option maxRecDepth 100000
set_option maxHeartbeats 4000000
namespace Go.Mono
open Go.RowKit
section
section
variable {P:Program} {ops:Array Oper} {Q:Exit->Act->World->Prop} {md:Region.Mode} {S:World->Prop}
theorem Zhz (B:Nat) (T:TypeId) (i:Nat) {o:Oper} (hi:ops[i]? = some o) (hg:o.guard=none) (hd:o.dst=none) {ty:TypeId} {x y:Operand} (ho:o.op=.store ty x y) (off:Nat) (v:Value) (cs new:Array Value) {a:Act} {fuel:Nat} {listed:Array Bool} {w:World}
  (hr:Region.ready md ops listed=[i]) (hS:∀w u,S w->S (w.setCell ⟨B,off,none⟩ u)) (hx:a.eval x=.pointer (some ⟨B,off,none⟩)) (hy:a.eval y=v)
  (hrun:∀w:World,(w.cell? ⟨B,off,none⟩).isSome=true->w.frozen? ⟨B,off,none⟩=false->(Instr.storeAt ty (.pointer (some ⟨B,off,none⟩)) v).run P w=.ok () (w.setCell ⟨B,off,none⟩ v))
  (hb:Box w B T cs) (hs:S w) (hoff:off<cs.size) (hnew:cs.setIfInBounds off v=new)
  (h:Box (w.setCell ⟨B,off,none⟩ v) B T new->S (w.setCell ⟨B,off,none⟩ v)->wpAnyH P md ops Q S fuel (listed.setIfInBounds i true) a (w.setCell ⟨B,off,none⟩ v)):wpAnyH P md ops Q S (fuel+1) listed a w:=by
 refine wpAnyH_all hr Zs λj hj=>?_;obtain rfl:j=i:=by simpa using hj
 exact Zh1 j hi hg hd ho off v hx hy hrun hb hoff ⟨hS _ _ hs,h (hnew▸hb.set off v) (hS _ _ hs)⟩
end
noncomputable def Len.app (a:Len) (k:Int):List Srf:=if k<0 then a.l else(madeS a.l (a.css k.toNat)).getD []
end
end Go.Mono
namespace Go.Proofs.W
open Go.RowKit Go.Mono
theorem CoatOwn.keep {w w':World} {base:Nat} {p:Option Addr} {c:Nat} {l:List Flm} {R:Nat} {T:TypeId} {A:Array Value} (h:CoatOwn w base p c l) (b:Box w R T A) (hT:T≠222) (hk:KeepBut R w.heap.size w w'):CoatOwn w' base p c l:=
 ⟨Zax h.1 b hT hk,h.2⟩
theorem SrfsOwn.keep {w w':World} {base:Nat} {p:Option Addr} {c:Nat} {l:List Srf} {i:Nat} {cp:Nat->Option Addr} {cl:Nat->Nat} {R:Nat} {T:TypeId} {A:Array Value} (h:SrfsOwn w base p c l i cp cl) (b:Box w R T A) (hT:T≠115∧T≠222) (hk:KeepBut R w.heap.size w w'):SrfsOwn w' base p c l i cp cl:=
 ⟨Zax h.row b hT.1 hk,h.nil,λk hi=>⟨Zax (h.coat k hi).1 b hT.2 hk,(h.coat k hi).2⟩⟩
theorem store_surfs (B off:Nat) (p:Option Addr) (n c:Nat) (w:World) (hc:(w.cell? ⟨B,off,none⟩).isSome=true) (hf:w.frozen? ⟨B,off,none⟩=false):(Instr.storeAt 35 (.pointer (some ⟨B,off,none⟩)) (.slice p n c)).run Tryz.prog w=.ok () (w.setCell ⟨B,off,none⟩ (.slice p n c)):=by
 obtain⟨x,hx⟩:=Yct.1 hc;clear hc;go_simp
theorem Zjk (nm:ByteArray) (di pu st pr:Int) (pf:Option Addr) (nf cf:Nat) (pw:Option Addr) (nw cw:Nat) (ps:Option Addr) (ns cs:Nat) (pc:Option Addr) (nc cc:Nat):(lcs nm di pu st pr pf nf cf pw nw cw ps ns cs pc nc cc).all (·.oneCell')=true:=by
 simp[lcs,Value.oneCell']
def appC (a:Len) (q:LenP) (p:Option Addr) (n c:Nat):Array Value:=lcs a.nm a.di a.pu (a.st:Int) a.pr q.pf a.nf q.cf q.pw a.nw q.cw p n c none 0 0
theorem Zpl (a:Len) (ha:LenOk a) (q:LenP) (k:Int) (hk : -1<=k∧k<=(a.nc:Int)-1) (w:World) (h:LenAt w a q) :
  Calls Tryz.prog 74 #[.agg (lenC a q),.int .i64 k] w λe w'=>Below w.heap.size w w'∧∃p c cp cl,e=.returned (.tuple #[.agg (appC a q p (a.app k).length c),.int .i64 0])∧SrfsAt w' p c (a.app k) cp cl∧KeptL a.l (a.app k)∧(SrfsOwn w' w.heap.size p c (a.app k) (a.app k).length cp cl∨(p=q.p∧c=q.c∧cp=q.cp∧cl=q.cl∧a.app k=a.l)):=by
 have q1:=λW (hW:Below w.heap.size w W)=>Zec a ha q W (h.below hW);have q2:=λW=>Za7 k (-1) ((a.nc:Int)-1) hk.1 hk.2 W;have hz:(Tryz.prog.info? 38).map (·.size)=some (lenC a q).size:=Zk;have hzl:(Tryz.prog.info? 38).map (·.size)=some (lenC a q).toList.length:=hz;have hmost:=ha.confs.most;have g6:(lenC a q)[6]? = some (.slice q.pw a.nw q.cw):=rfl;have g7:(lenC a q)[7]? = some (.slice q.p a.l.length q.c):=rfl;have g8:(lenC a q)[8]? = some (.slice q.pc a.nc q.cc):=rfl;have hkeep:=KeptL.refl ha.sok;have hnew:∀p n c,(((lenC a q).setIfInBounds 7 (.slice p n c)).setIfInBounds 8 (.slice none 0 0))=appC a q p n c:=λp n c=>rfl;have hnew1:(lenC a q).setIfInBounds 8 (.slice none 0 0)=appC a q q.p a.l.length q.c:=rfl;have hzn:∀p n c,(Tryz.prog.info? 38).map (·.size)=some (appC a q p n c).toList.length:=λp n c=>Zk;have hzm:∀p n c,(Tryz.prog.info? 38).map (·.size)=some (appC a q p n c).size:=λp n c=>Zk;have hon:∀p n c,(appC a q p n c).all (·.oneCell')=true:=λp n c=>Zjk ..;have hzA:(lenC a q).size=9:=rfl;generalize hA:lenC a q=A at *;go_enter Tryz.func74,Tryz.ntmps74
 go_wp2_with (refine Zbm (T0:=38) λW hB hsz b0 b1=>?_;refine Zac rfl 38 (.tmp 2) rfl w.heap.size rfl 38 A b0 _ Tryz.underlying38 rfl hz ?_)
 refine(q1 W hB).mono ?_;rintro e W1 ⟨rfl,hb⟩;replace hB:=Zaa hB hb;replace b0:=b0.below hb;replace b1:=b1.below hb;have c8:=(b0.cell 8).trans g8;have c7:=(b0.cell 7).trans g7;have l0:=b0.lt;have f8:=b0.frozen 8;by_cases hk0:k<0
 ·have happ:a.app k=a.l:=if_pos hk0
  have hk1:¬0<=k:=Zo;have b2:=b0.set 8 (.slice none 0 0);rw[hnew1]at b2;have hbs:Below w.heap.size w (W1.setCell ⟨w.heap.size,8,none⟩ (.slice none 0 0)):=Zag hB (Yab _) _ _;have hbt:Box (W1.setCell ⟨w.heap.size,8,none⟩ (.slice none 0 0)) (w.heap.size+1) 38 _:=b1.other _ _ (by show w.heap.size+1≠w.heap.size;omega);have hs:=h.srfs;clear hnew hnew1;go_wp2_with first|(go_at_call 111;refine(q2 _).mono ?_;rintro e w5 ⟨rfl,h5⟩;rw[h5];clear h5 w5)|(refine Zac rfl 38 (.tmp 2) rfl w.heap.size rfl 38 _ b2 _ Tryz.underlying38 rfl (hzm _ _ _) ?_)|(refine Zab rfl 38 (.tmp 4) _ rfl (w.heap.size+1) 0 38 _ (appC a q q.p a.l.length q.c) (appC a q q.p a.l.length q.c) rfl rfl hbt (hzm _ _ _) (Yaa rfl) (hon _ _ _) rfl ?_;intro W3 hk3 b3)
  refine bodyPost_ret (b3.resultsT rfl _ _ rfl Tryz.underlying38 rfl (hzm _ _ _)) rfl ?_;have hB3:=hk3.below hbs Zo hbs.size;exact⟨hB3,q.p,q.c,q.cp,q.cl,by rw[happ];rfl,by rw[happ];exact hs.below hB3,by rw[happ];exact hkeep,.inr ⟨rfl,rfl,rfl,rfl,happ⟩⟩
 ·have hkn:k.toNat<a.nc:=by omega
  obtain⟨kn,rfl⟩:∃n:Nat,k=n:=⟨k.toNat,Zo⟩
  simp only[Ycb]at hkn;have hmd:=ha.confs.made kn hkn;have hch:=ha.confs.chg kn hkn;obtain⟨m,hm⟩:=Ygb.1 hmd;have happ:a.app kn=m:=by
   unfold Len.app;rw[if_neg hk0,Ycb,hm];rfl
  have hkm:KeptL a.l m:=Zif ha.sok (λi hi=>(hch i hi).2) hm;have hml:m.length=a.l.length:=hkm.len;have hm16:=ha.ns.2;replace hml:=Yah hml;have qm:=λW (hW:Below w.heap.size w W)=>Zhb a.l ha.ns.2 ha.sok q.p q.c q.cp q.cl (a.css kn) (ha.confs.len kn hkn) hch (q.pp kn) (q.cq kn) W (h.srfs.below hW) ((h.confs.chg kn hkn).below hW);obtain⟨_,_,hx⟩:=h.confs.row;obtain⟨b,off,hpc,hb',hcell⟩:=hx Zo;have y0:w.cell? ⟨b,off+kn*2+1,none⟩=some (.slice (q.pp kn) (a.css kn).length (q.cq kn)):=by simpa using hcell kn 1 hkn Zd
  clear hcell hx;have hk2:0<=(kn:Int):=Zo;rw[hpc]at c8;have hkn':(kn:Int)<a.nc:=Zo;replace hnew:=Yah hnew;have hzc:(Tryz.prog.info? 183).map (·.size)=some 2:=Zk;clear hnew1 ha hch hmd q1 hkeep h;have y1:W1.cell? ⟨b,off+kn*2+1,none⟩=some (.slice (q.pp kn) (a.css kn).length (q.cq kn)):=(hB.cell (p:=⟨b,off+kn*2+1,none⟩) hb').trans y0;have hb1:=Yaf hb' hB.size;have hbn:b≠w.heap.size:=Zo;go_wp2_with first|(go_at_call 111;refine(q2 _).mono ?_;rintro e w5 ⟨rfl,h5⟩;rw[h5];clear h5 w5)
  refine wp_region_held_drew (S:=λw'=>w'.cell? ⟨w.heap.size,8,none⟩=some (.slice (some ⟨b,off,none⟩) a.nc q.cc)∧(∀b o,b<W1.heap.size->b≠w.heap.size->w'.cell? ⟨b,o,none⟩=W1.cell? ⟨b,o,none⟩)∧KeepBut w.heap.size W1.heap.size W1 w') Zx ⟨c8,KeepBut.S (KeepBut.refl _ _).drew⟩ (λhHeld=>?_);refine tk 0 (some 21) ?_;refine tk 2 (some 23) ?_;refine tk 3 (some 24) ?_;refine tk 4 (some 25) ?_;refine tl 5 (some 26) rfl (.pointer (some ⟨b,off+kn*2,none⟩)) (Zbr (i:=(kn:Int)) (len:=a.nc) 36 _ _ rfl rfl rfl Tryz.underlying36 hzc ⟨Zo,Zo⟩) ?_;refine tk 6 (some 27) ?_;refine tk 7 (some 28) ?_;refine Mono.sta 1 (some 22) (.slice q.p a.l.length q.c) W1.drew hHeld (λhHeld=>Mono.pt ?_) (hx:=by go_simp);refine Mono.stc 8 (some 29) (qm _ hB.drew) (λe W2 hR=>?_);obtain⟨hb2,_,hyes⟩:=hR;obtain⟨p5,c5,cp5,cl5,rfl,hown⟩:=hyes m hm;refine⟨⟨((hb2.cell (p:=⟨w.heap.size,8,none⟩) l0).trans hHeld.1),KeepBut.S (hHeld.2.2.call hb2)⟩,λhHeld=>Mono.pt ?_⟩;refine tk 9 (some 20) ?_;refine tk 10 (some 30) ?_;refine tk 11 (some 31) ?_;refine tk 12 (some 32) ?_;have b2:Box W2 w.heap.size 38 A:=b0.drew.below hb2;have h1:Box W2 (w.heap.size+1) 38 _:=b1.drew.below hb2;have hBw2:Below w.heap.size w W2:=Zaa hB.drew hb2;refine Zhz w.heap.size 38 13 rfl rfl rfl rfl 7 (.slice p5 m.length c5) A (A.setIfInBounds 7 (.slice p5 m.length c5)) Zx (λV u hV=>⟨(Yet _ _ _ _ (by intro e;have:=congrArg Addr.off e;simp at this)).trans hV.1,KeepBut.S (hV.2.2.set 7 u)⟩) rfl rfl (store_surfs _ _ p5 m.length c5) b2 hHeld (by rw[hzA];decide) rfl (λb3 _=>?_);have hB3:Below w.heap.size w (W2.setCell ⟨w.heap.size,7,none⟩ (.slice p5 m.length c5)):=Zag hBw2 (Yab _) _ _;have h3:Box (W2.setCell ⟨w.heap.size,7,none⟩ (.slice p5 m.length c5)) (w.heap.size+1) 38 _:=h1.other _ _ (by show w.heap.size+1≠w.heap.size;omega);have hsb:=hown.keep b2 Zd ((KeepBut.refl w.heap.size W2).set 7 (.slice p5 m.length c5));refine wpAnyH_done Zk ?_ _;generalize W2.setCell ⟨w.heap.size,7,none⟩ (.slice p5 m.length c5)=W3 at *;have b4:=b3.set 8 (.slice none 0 0);rw[hnew.out]at b4;have hB4:Below w.heap.size w (W3.setCell ⟨w.heap.size,8,none⟩ (.slice none 0 0)):=Zag hB3 (Yab _) _ _;have h4:Box (W3.setCell ⟨w.heap.size,8,none⟩ (.slice none 0 0)) (w.heap.size+1) 38 _:=h3.other _ _ (by show w.heap.size+1≠w.heap.size;omega);have hs4:=hsb.keep b3 Zd ((KeepBut.refl w.heap.size W3).set 8 (.slice none 0 0));clear hsb;have c83:W3.cell? ⟨w.heap.size,8,none⟩=some _:=(b3.cell 8).trans ((Array.getElem?_setIfInBounds_ne Zd).trans g8);have f83:=b3.frozen 8;clear c7 c8 f8 b0 b1 b2 h1;go_wp2_with first|(refine Zac rfl 38 (.tmp 2) rfl w.heap.size rfl 38 _ b4 _ Tryz.underlying38 rfl (hzm _ _ _) ?_)|(refine Zab rfl 38 (.tmp 4) _ rfl (w.heap.size+1) 0 38 _ (appC a q p5 m.length c5) (appC a q p5 m.length c5) rfl rfl h4 (hzm _ _ _) (Yaa rfl) (hon _ _ _) rfl ?_;intro W5 hk5 b5)
  refine bodyPost_ret (b5.resultsT rfl _ _ rfl Tryz.underlying38 rfl (hzm _ _ _)) rfl ?_;have hB5:=hk5.below hB4 Zo hB4.size;have ho5:=hs4.keep h4 Zd hk5;have hml16:m.length<=1000:=by rw[hml.out];omega
  have hs5:=ho5.at hml16 hkm.ok;have ho6:SrfsOwn W5 w.heap.size p5 c5 m m.length cp5 cl5:=ho5.low hB.size;exact⟨hB5,p5,c5,rfl,cp5,cl5,hs5,.inl ho6⟩
def sdC (d:SD) (q:Option Addr) (c:Nat):Array Value:=
 #[.int .u8 d.kind,.int .i16 d.c0,.int .i16 d.c1,.int .i16 d.k0,.int .i16 d.k1,.int .i8 d.a0,.int .i8 d.a1,.int .i8 d.a2,.int .i8 d.a3,.int .i8 d.p0,.int .i8 d.p1,.int .i8 d.order,.int .i16 d.thick,.int .u8 d.glass,.int .u8 d.semi,.int .u8 d.hole,
  .int .i8 d.b0,.int .i8 d.b1,.int .i8 d.b2,.int .i8 d.b3,.int .i8 d.b4,.slice q d.films.length c]
def BytesAt (w:World) (p:Option Addr) (c:Nat) (l:List Int):Prop:=RdC w p l.length c 1 (λi _=>.int .u8 (l.getD i 0))
theorem BytesAt.below {w w':World} {p:Option Addr} {c:Nat} {l:List Int} (h:BytesAt w p c l) (hB:Below w.heap.size w w'):BytesAt w' p c l:=RdC.below h hB
theorem Zsf {l:List Int} (h:∀z∈l,U8 z) {i:Nat} (hi:i<l.length):U8 (l.getD i 0):=h _ (by rw[Yac,Yao hi];exact Ybw hi)
theorem Zmr (l:List Int) (k:Nat) (hk:k<min l.length 3):((l.take 3).map dFilm).getD k ⟨0,0,0⟩=dFilm (l.getD k 0):=by
 have h1:k<l.length:=Zo;have h2:k<3:=Zo;simp[Yac,Ycj,Ycv,h1,h2]
theorem Zms (A:Array Value) (hA:(Tryz.prog.info? 138).map (·.size)=some A.size) (q:Option Addr) (c:Nat) (l:List Int) (hl:∀z∈l,U8 z) (g21:A[21]? = some (.slice q l.length c)) (w:World) (h:BytesAt w q c l) :
  Calls Tryz.prog 108 #[.agg A] w λe w'=>∃p' c',e=.returned (.slice p' ((l.take 3).map dFilm).length c')∧CoatOwn w' w.heap.size p' c' ((l.take 3).map dFilm)∧Below w.heap.size w w':=by
 have hlen:((l.take 3).map dFilm).length=min l.length 3:=by simp;omega
 have hget:=Zmr l;have hu:=λi (hi:i<l.length)=>Zsf hl hi;obtain⟨hcap,hbig,hx⟩:=h;obtain⟨fi,hfi,hfz,hfs,hfb⟩:=Zbb Zha;have htf:Tryz.prog.underlying 113=some (.slice 222):=Tryz.underlying113;generalize hF:((l.take 3).map dFilm)=F at *;generalize hn:l.length=n at *;clear hl hF;go_enter Tryz.func108,Tryz.ntmps108
 go_wp2_with fail
 refine Zb1 λW hB hsz bS=>?_;go_loopw [3,4] (λv x wr=>∃i:Nat,i<=min n 3∧x=.int .i64 (i:Int)∧Below W.heap.size W wr∧∃p' c',v=.slice p' i c'∧wr.ownsRow W.heap.size 222 3 (.slice p' i c') i (crow (λk=>(dFilm (l.getD k 0)).vals.toList) i)∧(p'=none->i=0∧c'=0)) (λ_ x _=>(min n 3-intOf x).toNat)
 case atStart=>exact⟨0,Yat _,rfl,Yae _ _,none,0,rfl,Yaj _ _ _ _,λ_=>⟨rfl,rfl⟩⟩
 case round=>
  obtain⟨i,hi,rfl,hBr,p',c',rfl,hown,hnil⟩:=hrel;have bSr:=bS.below hBr;have cS:=(bSr.cell 21).trans g21;have lS:=bSr.lt;by_cases hin:i<n
  ·have hi':(i:Int)<n:=by omega
   by_cases hi3:i<3
   ·have hi3':(i:Int)<3:=by omega
    obtain⟨b,off,rfl,hb,hcell⟩:=hx Zo;have hBw:=Zaa hB hBr;have x0:wr.cell? ⟨b,off+i,none⟩=some (.int .u8 (l.getD i 0)):=by simpa using(hBw.cell (p:=⟨b,off+i*1+0,none⟩) hb).trans (hcell i 0 hin Zd)
    obtain⟨u0,u1⟩:=hu i hin;have hbr:=Yaf hb hBw.size;clear hcell hx hu hget;generalize hz:l.getD i 0=z at *;have b7:Box (wr.alloc (.cells (dFilm z).vals 222)) wr.heap.size 222 (dFilm z).vals:=Box.new _ _ _;have hB7:Below wr.heap.size wr (wr.alloc (.cells (dFilm z).vals 222)):=(Yae _ _).alloc (Yab _) _;have hown7:=Zak hown hB7;have hB7':=Zaa hBr hB7;have hle7:=hB7'.size;have hin3:i<=3:=Zo;go_wp2_with (refine Zao rfl (.tmp 23) (.tmp 33) (ts:=113) (te:=222) rfl htf hfi hfz hfs hfb rfl Zd rfl rfl hown7 (H:=λ_=>(dFilm z).vals.toList) (λ_=>rfl) (λ_ _=>Zsc _) (Zb0 b7 rfl) (λh=>by cases h) hle7 Zo Zo ?_;intro p8 c8 W8 hown8 hg8 hn8)
    have hB8:=Below.appended hown7 hg8 hB7' (Yab _);go_roundw
    case rel=>
     refine⟨i+1,Zo,Zs,hB8,p8,c8,rfl,?_,hn8⟩;rw[<-Zas (C:=ccat (λk=>(dFilm (l.getD k 0)).vals.toList) i (λ_=>(dFilm z).vals.toList))]
     ·exact hown8
     ·intro k hk
      unfold ccat;by_cases hki:k<i
      ·dsimp only
       rw[if_pos hki]
      ·obtain rfl:k=i:=by omega
       dsimp only;rw[if_neg hki,hz]
    case measure=>simp[intOf];omega
   ·obtain rfl:i=3:=by omega
    clear hx hu;go_wp2
    go_ret
    have hL:F.length=3:=Zo;exact⟨p',c',by rw[hL];rfl,⟨by rw[hL,Zas (D:=λk=>(dFilm (l.getD k 0)).vals.toList) (λk hk=>by rw[hget k Zo])];exact Zau hown hB.size,by rw[hL];exact hnil⟩,Zaa hB hBr⟩
  ·obtain rfl:i=n:=by omega
   clear hx hu;go_wp2
   go_ret
   have hL:F.length=i:=Zo;exact⟨p',c',by rw[hL];rfl,⟨by rw[hL,Zas (D:=λk=>(dFilm (l.getD k 0)).vals.toList) (λk hk=>by rw[hget k Zo])];exact Zau hown hB.size,by rw[hL];exact hnil⟩,Zaa hB hBr⟩
end Go.Proofs.W
namespace Go.Mono
def thrS (l:List Srf) (i:Nat):Bool:=decide ((l.getD i (stdS 0)).glass=mirror∨(l.getD i (stdS 0)).kind=3∨(l.getD i (stdS 0)).kind=4∨i+1=l.length)
end Go.Mono
namespace Go.Proofs.W
open Go.RowKit Go.Mono
theorem Zsp {s:ByteArray} (hg:¬s=mirror):(s.toList==[77,73,82,82,79,82])=false:=by
 refine beq_eq_false_iff_ne.2 λe=>hg ?_;have h:s.data.toList=[77,73,82,82,79,82]:=by rw[<-e];simp[Ycs]
 cases s with
 | mk a =>
   simp only[mirror,Ydw];apply Yfo;simpa using h
theorem Zf0 (nm:ByteArray) (di pu st pr:Int) (pf:Option Addr) (nf cf:Nat) (pw:Option Addr) (nw cw:Nat) (pc:Option Addr) (nc cc:Nat) (l:List Srf) (hl:l.length<=16) (p:Option Addr) (c:Nat) (cp:Nat->Option Addr) (cl:Nat->Nat) (i:Nat) (hi:i<l.length) (w:World) (h:SrfsAt w p c l cp cl) :
  Calls Tryz.prog 117 #[.agg (lcs nm di pu st pr pf nf cf pw nw cw p l.length c pc nc cc),.int .i64 (i:Int)] w λe w'=>e=.returned (.bool (thrS l i))∧Below w.heap.size w w':=by
 have hsA:∀(s:Srf) p c,(Tryz.prog.info? 115).map (·.size)=some (s.cs p c).size:=λ_ _ _=>Zk;have hsL:∀(s:Srf) p c,(Tryz.prog.info? 115).map (·.size)=some (s.cs p c).toList.length:=λ_ _ _=>Zk;obtain⟨b,off,rfl,hb,hrg⟩:=h.range Zo;have hrg':=hrg i hi;have hcap:=h.row.1;have hthr:thrS l i=decide ((sAt l i).glass=mirror∨(sAt l i).kind=3∨(sAt l i).kind=4∨i+1=l.length):=rfl;clear h hrg;generalize sAt l i=s at *;generalize thrS l i=T at *;generalize l.length=n at *;have hi':(i:Int)<n:=Zo;unfold lcs;go_enter Tryz.func117,Tryz.ntmps117
 replace hthr:=Yah hthr;by_cases hg:s.glass=mirror
 focus
  have hT:T=true:=by rw[hthr.out];exact decide_eq_true (.inl hg)
 rotate_left
 focus
  have hgm:(s.glass.toList==[77,73,82,82,79,82])=false:=Zsp hg;by_cases h3:s.kind=3
  focus
   have hT:T=true:=by rw[hthr.out];exact decide_eq_true (.inr (.inl h3))
  rotate_left
  focus
   by_cases h4:s.kind=4
   focus
    have hT:T=true:=by rw[hthr.out];exact decide_eq_true (.inr (.inr (.inl h4)))
    have h3':(s.kind==3)=false:=beq_eq_false_iff_ne.2 h3
   rotate_left
   focus
    have h3':(s.kind==3)=false:=beq_eq_false_iff_ne.2 h3;have h4':(s.kind==4)=false:=beq_eq_false_iff_ne.2 h4;by_cases hl9:i+1=n
    focus
     have hT:T=true:=by rw[hthr.out];exact decide_eq_true (.inr (.inr (.inr hl9)))
     subst hl9;have hl1:((i+1:Nat):Int)-1=i:=Zo
    rotate_left
    focus
     have hT:T=false:=by rw[hthr.out];exact decide_eq_false (by simp[hg,h3,h4,hl9])
     have hlast:((i:Int)==n-1)=false:=beq_eq_false_iff_ne.2 Zo
 all_goals
  go_wp2_with first|(refine Zdl (T0:=38) λW hB hsz bS=>?_;have hr2:=hrg' W hB;have hbW:=Yaf hb hB.size;have cS:=bS.cell 7;have lS:=bS.lt;clear hrg')|(refine wpList_load_mid rfl 115 _ rfl b (off+i*22) rfl (s.cs (cp i) (cl i)).toList _ hr2 Tryz.underlying115 rfl (hsL _ _ _) ?_)|(refine Zan rfl 115 rfl _ Zav ?_;intro W1 B1 hle1 hB1 b1;have bS1:=bS.below hB1;have cS1:=bS1.cell 7;have lS1:=bS1.lt)|(refine Zab rfl 115 (.tmp 5) (.tmp 10) rfl B1 0 115 _ (s.cs (cp i) (cl i)) (s.cs (cp i) (cl i)) rfl rfl b1 (hsA _ _ _) (Yaa rfl) (Zbv _ _ _) rfl ?_;intro W2 hk2 b2;have hB2:=hk2.below hB1 hle1 hB1.size;have hBw:=Zaa hB hB2;have bS2:=bS.below hB2;have cS2:=bS2.cell 7;have lS2:=bS2.lt;have lB:=b2.lt;have s0:World.cell? _ ⟨B1,0,none⟩=some (.int .i64 s.kind):=b2.cell 0;have s13:World.cell? _ ⟨B1,13,none⟩=some (.string {data:=#[77,73,82,82,79,82]}):=(b2.cell 13).trans (congrArg (λg=>some (Value.string g)) hg))|(refine Zab rfl 115 (.tmp 5) (.tmp 10) rfl B1 0 115 _ (s.cs (cp i) (cl i)) (s.cs (cp i) (cl i)) rfl rfl b1 (hsA _ _ _) (Yaa rfl) (Zbv _ _ _) rfl ?_;intro W2 hk2 b2;have hB2:=hk2.below hB1 hle1 hB1.size;have hBw:=Zaa hB hB2;have bS2:=bS.below hB2;have cS2:=bS2.cell 7;have lS2:=bS2.lt;have lB:=b2.lt;have s0:World.cell? _ ⟨B1,0,none⟩=some (.int .i64 s.kind):=b2.cell 0;have s13:World.cell? _ ⟨B1,13,none⟩=some (.string s.glass):=b2.cell 13)
  go_ret
  exact⟨by first|rfl|(rw[hT];rfl),hBw⟩
theorem Zlc (A:Array Value) (hA:(Tryz.prog.info? 28).map (·.size)=some A.size) (z:Int) (hz:U16 z) (g:A[2]? = some (.int .u16 z)) (w:World) :
  Calls Tryz.prog 69 #[.agg A] w λe w'=>e=.returned (.int .i64 (100000*(z%10001)))∧Below w.heap.size w w':=by
 obtain⟨z0,z1⟩:=hz;go_enter Tryz.func69,Tryz.ntmps69
 go_wp2_with (refine Zdl (T0:=28) λW hB hsz bS=>?_;have c4:=(bS.cell 2).trans g;have lS:=bS.lt)
 go_ret
 exact⟨rfl,hB⟩
def glassC:Array Value:=#[.string nmNone,.string nmBK7,.string nmSF1,.string mirror,.string nmF2]
theorem Zuz (g:Int):glassC[(g%5).toNat]? = some (.string (dGlass g)):=by
 unfold dGlass;rcases(by omega:g%5=0∨g%5=1∨g%5=2∨g%5=3∨g%5=4) with h|h|h|h|h<;>rw[h]<;>rfl
theorem Zlh (w:World):Calls Tryz.prog 107 #[] w λe w'=>∃B,e=.returned (.slice (some ⟨B,0,none⟩) 5 5)∧Box w' B 9 glassC∧Below w.heap.size w w':=by
 go_enter Tryz.func107,Tryz.ntmps107
 go_wp2
 go_ret
 exact⟨w.heap.size,rfl,Box.new _ _ _,(Yae _ _).alloc (Yab _) _⟩
theorem Zn9:(Tryz.prog.info? 3).map (λi=>(i.zero,i.size,i.bytes))=some (some (.int .i64 0),1,8):=Zk
def IntsOwn (w:World) (base:Nat) (p:Option Addr) (c n:Nat) (f:Nat->Int):Prop:=
 w.ownsRow base 3 1 (.slice p n c) n (crow (λi=>[.int .i64 (f i)]) n)∧(p=none->n=0∧c=0)
theorem Zmx (z:Int):∀u∈[Value.int .i64 z],u.oneCell'=true:=λu hu=>by
 obtain rfl:=Ycd.1 hu;rfl
theorem IntsOwn.at {w:World} {base:Nat} {p:Option Addr} {c n:Nat} {f:Nat->Int} (h:IntsOwn w base p c n f) (hn:n<=1000):RdC w p n c 1 (λi _=>.int .i64 (f i)):=
 Zay (sz:=1) (C:=λi=>[.int .i64 (f i)]) (λ_=>rfl) (λi j hi hj=>by match j,hj with|0,_=>rfl) h.1 hn
theorem IntsOwn.low {w:World} {base base':Nat} {p:Option Addr} {c n:Nat} {f:Nat->Int} (h:IntsOwn w base p c n f) (hb:base'<=base):IntsOwn w base' p c n f:=⟨Zau h.1 hb,h.2⟩
theorem IntsOwn.below {w w':World} {base:Nat} {p:Option Addr} {c n:Nat} {f:Nat->Int} (h:IntsOwn w base p c n f) (hB:Below w.heap.size w w'):IntsOwn w' base p c n f:=⟨Zak h.1 hB,h.2⟩
theorem Zjp (n:Nat) (hn:n<=5) (w:World) :
  Calls Tryz.prog 75 #[.int .i64 (n:Int)] w λe w'=>∃p' c',e=.returned (.slice p' n c')∧IntsOwn w' w.heap.size p' c' n (λ_=>10000000)∧Below w.heap.size w w':=by
 obtain⟨fi,hfi,hfz,hfs,hfb⟩:=Zbb Zn9;have htf:Tryz.prog.underlying 47=some (.slice 3):=Tryz.underlying47;go_enter Tryz.func75,Tryz.ntmps75
 go_wp2
 go_loopw [3,4] (λv x wr=>∃i:Nat,i<=n∧x=.int .i64 (i:Int)∧Below w.heap.size w wr∧∃p' c',v=.slice p' i c'∧IntsOwn wr w.heap.size p' c' i (λ_=>10000000)) (λ_ x _=>(n-intOf x).toNat)
 case atStart=>exact⟨0,Yat _,rfl,Yae _ _,none,0,rfl,Yaj _ _ _ _,λ_=>⟨rfl,rfl⟩⟩
 case round=>
  obtain⟨i,hi,rfl,hB,p',c',rfl,hown,hnil⟩:=hrel;by_cases hin:i<n
  ·have hi':(i:Int)<n:=by omega
   have b7:Box (wr.alloc (.cells #[.int .i64 10000000] 3)) wr.heap.size 3 #[.int .i64 10000000]:=Box.new _ _ _;have hB7:Below wr.heap.size wr (wr.alloc (.cells #[.int .i64 10000000] 3)):=(Yae _ _).alloc (Yab _) _;have hown7:=Zak hown hB7;have hB7':=Zaa hB hB7;have hle7:=hB7'.size;go_wp2_with (refine Zao rfl (.tmp 10) (.tmp 11) (ts:=47) (te:=3) rfl htf hfi hfz hfs hfb rfl Zd rfl rfl hown7 (H:=λ_=>[.int .i64 10000000]) (λ_=>rfl) (λ_ _=>Zmx _) (Zb0 b7 rfl) (λh=>by cases h) hle7 Zo Zo ?_;intro p8 c8 W8 hown8 hg8 hn8)
   have hB8:=Below.appended hown7 hg8 hB7' (Yab _);go_roundw
   case rel=>
    refine⟨i+1,Zo,Zs,hB8,p8,c8,rfl,?_,hn8⟩;rw[<-Zas (C:=ccat (λ_=>[.int .i64 10000000]) i (λ_=>[.int .i64 10000000]))]
    ·exact hown8
    ·intro k hk
     unfold ccat;by_cases hki:k<i
     ·rw[if_pos hki]
     ·rw[if_neg hki]
   case measure=>simp[intOf];omega
  ·obtain rfl:i=n:=by omega
   go_wp2
   go_ret
   exact⟨p',c',rfl,⟨hown,hnil⟩,hB⟩
theorem Zb7 {w:World} {base n m size c:Nat} {p:Option Addr} {e:TypeId} {vals:List Value} (h:w.ownsRow base e size (.slice p m c) n vals):∀b off,p=some ⟨b,off,none⟩->base<=b:=λb off hp=>by
 obtain⟨_,⟨h0,_⟩|⟨g,cap,cur,hv,hb,_⟩⟩:=h
 ·subst hp;cases h0
 ·subst hp;cases hv;exact hb
theorem Zsg:(Tryz.prog.info? 129).map (λi=>(i.zero,i.size,i.bytes))=some (some (.agg #[.int .i64 0,.int .i64 0]),2,16):=Zk
def wvA (z g:Int):Array Value:=#[.int .i64 z,.int .i64 g]
theorem Zsh (z g:Int):∀u∈(wvA z g).toList,u.oneCell'=true:=λu hu=>by
 simp[wvA]at hu;rcases hu with rfl|rfl<;>rfl
def wvC (d:LD) (k:Nat):List Value:=(wvA (d.waveL (k+1)) (1+d.waves.getD k 0%5)).toList
theorem Zgk (d:LD) (h:∀z∈d.waves,U8 z):∀i,i<=d.waves.length->400000<=d.waveL i∧d.waveL i<=400000+52000*i
 | 0,_=>by simp[LD.waveL]
 | i + 1, hi => by
   have h1:=Zgk d h i Zo;have h2:=Zsf h (show i<d.waves.length by omega);obtain⟨h3,h4⟩:=h2;simp only[LD.waveL];omega
theorem Zmt (A:Array Value) (hA:(Tryz.prog.info? 28).map (·.size)=some A.size) (d:LD) (hu:∀z∈d.waves,U8 z) (q:Option Addr) (c:Nat) (g:A[5]? = some (.slice q d.waves.length c)) (w:World) (h:BytesAt w q c d.waves) :
  Calls Tryz.prog 68 #[.agg A] w λe w'=>∃p' c',e=.returned (.slice p' d.nw c')∧RdC w' p' d.nw c' 2 (λi j=>if j=0 then .int .i64 (d.lenW i) else .int .i64 (d.wgtW i))∧(∀b off,p'=some ⟨b,off,none⟩->w.heap.size<=b)∧Below w.heap.size w w':=by
 have hin':=Zgk d hu;have huu:=λi (hi:i<d.waves.length)=>Zsf hu hi;obtain⟨hcap,hbig,hx⟩:=h;obtain⟨fi,hfi,hfz,hfs,hfb⟩:=Zbb Zsg;have htf:Tryz.prog.underlying 34=some (.slice 129):=Tryz.underlying34;have hnil0:d.waves=[]↔d.waves.length=0:=Ydj.symm;have hnw:d.nw=if d.waves.length=0 then 1 else min d.waves.length 5:=by unfold LD.nw;by_cases h0:d.waves=[]<;>simp[h0]
 have hL:∀i,d.waves.length≠0->d.lenW i=d.waveL (i+1):=λi h0=>by unfold LD.lenW;rw[if_neg λe=>h0 (hnil0.1 e)]
 have hG:∀i,d.waves.length≠0->d.wgtW i=1+d.waves.getD i 0%5:=λi h0=>by unfold LD.wgtW;rw[if_neg λe=>h0 (hnil0.1 e)]
 have hL0:∀i,d.waves.length=0->d.lenW i=550000:=λi h0=>by unfold LD.lenW;rw[if_pos (hnil0.2 h0)]
 have hG0:∀i,d.waves.length=0->d.wgtW i=1:=λi h0=>by unfold LD.wgtW;rw[if_pos (hnil0.2 h0)]
 clear hnil0;generalize hn:d.waves.length=n at *;replace hL:=Yah hL;replace hG:=Yah hG;replace hL0:=Yah hL0;replace hG0:=Yah hG0;replace hnw:=Yah hnw;go_enter Tryz.func68,Tryz.ntmps68
 go_wp2_with fail
 refine Zb1 λW hB hsz bS=>?_;go_wp2
 go_loopw [3,4,5] (λv y x wr=>∃i:Nat,i<=min n 5∧x=.int .i64 (i:Int)∧y=.int .i64 (d.waveL i)∧Below W.heap.size W wr∧∃p' c',v=.slice p' i c'∧wr.ownsRow W.heap.size 129 2 (.slice p' i c') i (crow (wvC d) i)∧(p'=none->i=0∧c'=0)) (λ_ _ x _=>(min n 5-intOf x).toNat)
 case atStart=>exact⟨0,Yat _,rfl,rfl,Yae _ _,none,0,rfl,Yaj _ _ _ _,λ_=>⟨rfl,rfl⟩⟩
 case round=>
  obtain⟨i,hi,rfl,rfl,hBr,p',c',rfl,hown,hnil⟩:=hrel;have bSr:=bS.below hBr;have cS:=(bSr.cell 5).trans g;have lS:=bSr.lt;by_cases hin:i<n
  ·have hi':(i:Int)<n:=by omega
   by_cases hi5:i<5
   ·have hi5':(i:Int)<5:=by omega
    obtain⟨b,off,rfl,hb,hcell⟩:=hx Zo;have hBw:=Zaa hB hBr;have x0:wr.cell? ⟨b,off+i,none⟩=some (.int .u8 (d.waves.getD i 0)):=by simpa using(hBw.cell (p:=⟨b,off+i*1+0,none⟩) hb).trans (hcell i 0 hin Zd)
    obtain⟨u0,u1⟩:=huu i hin;have hbr:=Yaf hb hBw.size;have hwb:=hin' i Zo;have hws:d.waveL (i+1)=d.waveL i+200*d.waves.getD i 0+1000:=rfl;have hwc:wvC d i=(wvA (d.waveL i+200*d.waves.getD i 0+1000) (1+d.waves.getD i 0%5)).toList:=rfl;have hi6:i<=5:=Zo;replace hws:=Yah hws;clear hcell hx huu hin';generalize hz:d.waves.getD i 0=z at *;generalize hl:d.waveL i=l at *;have b7:Box (wr.alloc (.cells (wvA (l+200*z+1000) (1+z%5)) 129)) wr.heap.size 129 (wvA (l+200*z+1000) (1+z%5)):=Box.new _ _ _;have hB7:Below wr.heap.size wr (wr.alloc (.cells (wvA (l+200*z+1000) (1+z%5)) 129)):=(Yae _ _).alloc (Yab _) _;have hown7:=Zak hown hB7;have hB7':=Zaa hBr hB7;have hle7:=hB7'.size;go_wp2_with (refine Zao rfl (.tmp 27) (.tmp 38) (ts:=34) (te:=129) rfl htf hfi hfz hfs hfb rfl Zd rfl rfl hown7 (H:=λ_=>(wvA (l+200*z+1000) (1+z%5)).toList) (λ_=>rfl) (λ_ _=>Zsh _ _) (Zb0 b7 rfl) (λh=>by cases h) hle7 Zo Zo ?_;intro p8 c8 W8 hown8 hg8 hn8)
    have hB8:=Below.appended hown7 hg8 hB7' (Yab _);go_roundw
    case rel=>
     refine⟨i+1,Zo,Zs,by rw[hws.out],hB8,p8,c8,rfl,?_,hn8⟩;rw[<-Zas (C:=ccat (wvC d) i (λ_=>(wvA (l+200*z+1000) (1+z%5)).toList))]
     ·exact hown8
     ·intro k hk
      unfold ccat;by_cases hki:k<i
      ·rw[if_pos hki]
      ·obtain rfl:k=i:=by omega
       rw[if_neg hki,hwc]
    case measure=>simp[intOf];omega
   ·obtain rfl:i=5:=by omega
    have hn0:n≠0:=Zo;clear hx huu hin';go_wp2
    go_ret
    have hN:d.nw=5:=by rw[hnw.out,if_neg hn0];omega
    exact⟨p',c',by first|rfl|(rw[hN];rfl),by
     (try rw[hN])
     exact Zay (λ_=>rfl) (λk j hk hj=>by
      rcases(by omega:j=0∨j=1) with rfl|rfl
      ·rw[if_pos rfl,hL.out k hn0];rfl
      ·rw[if_neg Zd,hG.out k hn0];rfl) hown Zo,λb off e=>Yak hB.size (Zb7 hown b off e),Zaa hB hBr⟩
  ·obtain rfl:i=n:=by omega
   clear hx huu hin';by_cases hn0:i=0
   ·subst hn0
    have hN:d.nw=1:=by rw[hnw.out,if_pos rfl]
    have hB7:Below wr.heap.size wr (wr.alloc (.cells (wvA 550000 1) 129)):=(Yae _ _).alloc (Yab _) _;have b7:Box (wr.alloc (.cells (wvA 550000 1) 129)) wr.heap.size 129 (wvA 550000 1):=Box.new _ _ _;have hown7:=Zak hown hB7;have hB7':=Zaa hBr hB7;have hle7:=hB7'.size;have hlen0:=hL0.out 0 rfl;have hw0:=hG0.out 0 rfl;go_wp2_with (refine Zao rfl (.tmp 43) (.tmp 45) (ts:=34) (te:=129) rfl htf hfi hfz hfs hfb rfl Zd rfl rfl hown7 (H:=λ_=>(wvA 550000 1).toList) (λ_=>rfl) (λ_ _=>Zsh _ _) (Zb0 b7 rfl) (λh=>by cases h) hle7 Zo Zo ?_;intro p8 c8 W8 hown8 hg8 hn8)
    go_ret
    have hB8:=Below.appended hown7 hg8 hB7' (Yab _);exact⟨p8,c8,by first|rfl|(rw[hN];rfl),by
     (try rw[hN])
     exact Zay (C:=ccat (wvC d) 0 (λ_=>(wvA 550000 1).toList)) (λk=>by unfold ccat;rw[if_neg Zo];rfl) (λk j hk hj=>by
      obtain rfl:k=0:=Zo;rcases(by omega:j=0∨j=1) with rfl|rfl
      ·rw[if_pos rfl,hlen0];rfl
      ·rw[if_neg Zd,hw0];rfl) hown8 Zo,λb off e=>Yak hB.size (Zb7 hown8 b off e),Zaa hB hB8⟩
   ·have hn1:¬((i:Int)=0):=by omega
    go_wp2
    go_ret
    have hN:d.nw=i:=by rw[hnw.out,if_neg hn0];omega
    exact⟨p',c',by first|rfl|(rw[hN];rfl),by
     (try rw[hN])
     exact Zay (λ_=>rfl) (λk j hk hj=>by
      rcases(by omega:j=0∨j=1) with rfl|rfl
      ·rw[if_pos rfl,hL.out k hn0];rfl
      ·rw[if_neg Zd,hG.out k hn0];rfl) hown Zo,λb off e=>Yak hB.size (Zb7 hown b off e),Zaa hB hBr⟩
end Go.Proofs.W
