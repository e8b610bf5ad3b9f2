/- The references of chapters 13 and 17 over any valid optics. Part 5 of 5. No condition beside the row. -/
import Derived.Test.YtpfpiecljfimjaaGreatDoorA03
import Derived.Test.YtpfpiecljfimjaaGreatDoorA21
import Derived.Test.YtpfpiecljfimjaaGreatDoorA23
import Derived.Test.YtpfpiecljfimjaaGreatDoorA25
import Derived.Test.YtpfpiecljfimjaaGreatDoorD01
import Derived.Test.YtpfpiecljfimjaaGreatDoorD14
import Derived.Test.YtpfpiecljfimjaaGreatDoorR01
import Derived.Test.YtpfpiecljfimjaaGreatDoorR02
import Derived.Test.YtpfpiecljfimjaaGreatDoorR03
import Derived.Test.YtpfpiecljfimjaaGreatDoorR04
set_option linter.unusedVariables false
set_option linter.unusedSimpArgs false
set_option maxRecDepth 100000
set_option maxHeartbeats 4000000
namespace Go.Proofs.W
open Go.RowKit Go.Mono
theorem Zdt (a:Lns) (ha:a.opt) (q:Plc) (s k:Nat) (w:World) (h:OptAt w a q) (hs:SrfsL w a q) (s1:s<a.ns) (k1:k<a.nw) :
  Calls Tryz.prog 40 #[.agg (a.ovals q),.int .i64 (k:Int),.int .i64 (s:Int)] w λe w'=>∃C,e=.returned (.agg C)∧QtV 3 w' (.agg C) (a.nI k s)∧Below w.heap.size w w':=by
 have hb1:=λW (hW:Below w.heap.size w W)=>Zlp a ha q s k W (h.below hW) (SrfsAt.below hs hW) s1 k1;have hb2:=λW (hW:Below w.heap.size w W)=>Ztf a ha q s W (h.below hW) (SrfsAt.below hs hW) s1;obtain⟨i1,i2⟩:=ha.ir s k s1 k1;have hsg:=a.sgn_cases (s+1);obtain⟨g1,g2⟩:=Znz i1 i2 hsg;have hcm:a.sgn (s+1)*a.ix s k=a.ix s k*a.sgn (s+1):=Ydh _ _;have hwr:IntKind.i64.wrap (a.sgn (s+1)*a.ix s k)=a.ix s k*a.sgn (s+1):=by rw[hcm,Ybi];omega
 have hof:=λW=>Zdf (a.ix s k*a.sgn (s+1)) 10000000 W Zd Zo Zo Zd;rw[show Rat.divInt (a.ix s k*a.sgn (s+1)) 10000000=a.nI k s from rfl]at hof;have n0:¬((s:Int)<0):=Zo;have hz:(Tryz.prog.info? 41).map (·.size)=some (a.ovals q).size:=Zk;clear hcm g1 g2 i1 i2 hsg h hs;generalize a.ovals q=A at *;generalize a.nI k s=rr at *;generalize a.ix s k=n at *;generalize a.sgn (s+1)=g at *;go_enter Tryz.func40,Tryz.ntmps40
 go_wp2_with first|(refine Zbm (T0:=41) λW hB hsz bO bR=>?_)|(refine Zac rfl 41 _ rfl _ rfl 41 _ bO _ Tryz.underlying41 rfl hz ?_)
 refine(hb1 W hB).mono ?_;rintro e W1 ⟨rfl,hw1⟩;have hB1:=Zaa hB hw1;replace bO:=bO.below hw1;replace bR:=bR.below hw1;go_wp2_with first|(refine Zac rfl 41 _ rfl _ rfl 41 _ bO _ Tryz.underlying41 rfl hz ?_)
 refine(hb2 W1 hB1).mono ?_;rintro e W2 ⟨rfl,hw2⟩;have hB2:=Zaa hB1 hw2;replace bR:=bR.below hw2;go_wp2_with fail
 refine(hof W2).mono ?_;rintro e W3 ⟨C,rfl,hV,hw3⟩;obtain⟨_,e,zC,oC⟩:=hV.cells;cases e;have hB3:=Zaa hB2 hw3;replace bR:=bR.below hw3;clear hw1 hw2 hw3 hb1 hb2 hof;go_wp2_with first|(refine Zab rfl 51 (.tmp 6) (.tmp 30) rfl (w.heap.size+1) 0 51 _ C C rfl rfl bR (by rw[zC];exact Zah) (Ybl (by rw[zC];rfl)) oC (Zaf (by rw[zC];rfl)) ?_;intro W6 hk b2)
 refine bodyPost_ret (b2.results rfl _ _ rfl Tryz.underlying51 rfl (by rw[zC];exact Zah)) rfl ?_;exact⟨_,rfl,hV.ext (hk.ext bR Zd),hk.below hB3 Zo hB3.size⟩
theorem Zd6 (A:Array Value) (k:Int) (w:World) :
  Calls Tryz.prog 40 #[.agg A,.int .i64 k,.int .i64 (-1)] w λe w'=>∃C,e=.returned (.agg C)∧QtV 3 w' (.agg C) (Rat.divInt 1 1)∧Below w.heap.size w w':=by
 have hof:=λW=>Zdf 1 1 W Zd Zd Zd Zd;go_enter Tryz.func40,Tryz.ntmps40
 go_wp2_with first|(refine Zbm (T0:=41) λW hB hsz bO bR=>?_)
 refine(hof W).mono ?_;rintro e W3 ⟨C,rfl,hV,hw3⟩;obtain⟨_,e,zC,oC⟩:=hV.cells;cases e;have hB3:=Zaa hB hw3;replace bR:=bR.below hw3;clear hw3 hof;go_wp2_with first|(refine Zab rfl 51 (.tmp 6) (.tmp 13) rfl (w.heap.size+1) 0 51 _ C C rfl rfl bR (by rw[zC];exact Zah) (Ybl (by rw[zC];rfl)) oC (Zaf (by rw[zC];rfl)) ?_;intro W6 hk b2)
 refine bodyPost_ret (b2.results rfl _ _ rfl Tryz.underlying51 rfl (by rw[zC];exact Zah)) rfl ?_;exact⟨_,rfl,hV.ext (hk.ext bR Zd),hk.below hB3 Zo hB3.size⟩
theorem Zm0 (a:Lns) (ha:a.opt) (q:Plc) (s k:Nat) (w:World) (h:OptAt w a q) (hs:SrfsL w a q) (s1:s<a.ns) (k1:k<a.nw) :
  Calls Tryz.prog 40 #[.agg (a.ovals q),.int .i64 (k:Int),.int .i64 ((s:Int)-1)] w λe w'=>∃C,e=.returned (.agg C)∧QtV 3 w' (.agg C) (a.nB k s)∧Below w.heap.size w w':=by
 unfold Lns.nB;by_cases h0:s=0
 ·subst h0
  rw[if_pos rfl];exact Zd6 _ _ w
 ·rw[if_neg h0,show((s:Int)-1)=((s-1:Nat):Int) by omega]
  exact Zdt a ha q (s-1) k w h hs Zo k1
section
open Go.Ex
theorem Zgm {w:World} {a:Lns} {q q':Plc} (ho:OptAt w a q') (hN:SrfsNil a q) (e1:q'.cp=q.cp) (e2:q'.cl=q.cl):SrfsL w a q':=by
 obtain⟨h1,h2,hx⟩:=ho.surfs;have hl:=a.lst_len;refine⟨⟨Zo,Zo,λhn=>?_⟩,λi hi=>?_,λi hi hc=>?_⟩
 ·obtain⟨b,off,hp,hb,hc⟩:=hx Zo
  exact⟨b,off,hp,hb,λi j hi hj=>by
   dsimp only;rw[Zlo a i Zo];exact hc i j Zo hj⟩
 ·rw[Zlo a i Zo]
  exact ho.coat i Zo
 ·rw[Zlo a i Zo,e2]
  rw[e1]at hc;exact hN i Zo hc
section
variable {a:Lns} (ha:a.opt) {q:Plc} {ns:Nat} (hns:a.ns=ns) {w0:World} (ho:OptAt w0 a q) (hN:SrfsNil a q)
def cR13Chk:Ctr DO Tryz.prog w0 (λ_=>False):=.plain 92 (λargs bk orc=>match args with
    | [.agg l]=>(seesO a q ns l bk).map λL=>(.a okV,L,orc)
    | _=>none)<|by
 intro args bk orc v obl orc' hr hobl ρ w vals hfr hb hargs;split at hr
 ·rename_i l
  obtain⟨L,hL,e⟩:=Yad.1 hr;cases e;obtain⟨v1,r1,rfl,⟨cs1,rfl,d1⟩,h3⟩:=hargs;obtain rfl:r1=[]:=h3;obtain⟨q',rfl,ho',e1,e2⟩:=Zb4 hns (by have:=ha.base.ns.1;omega) (ho.below hfr.below) hL hobl hb d1;refine(Zpz a ha q' w ho' (Zgm ho' hN e1 e2)).mono ?_;rintro e w' ⟨rfl,hbl⟩;exact⟨_,rfl,⟨rfl,rfl⟩,hbl⟩
 ·cases hr
def cR17Beh:Ctr DO Tryz.prog w0 (λ_=>False):=.plain 40 (λargs bk orc=>match args with
    | [.agg l, x, y] => match seesO a q ns l bk, Ex.intOf (some (.a x)), Ex.intOf (some (.a y)) with
      | some L,some (.i64,k,_),some (.i64,s,_)=>some (.a (.agg [.quo (refB a k.toNat s)]),L++(0<=k∧k<a.nw)::(-1<=s∧s<(ns:Int))::[],orc)
      | _,_,_=>none
    | _=>none)<|by
 intro args bk orc v obl orc' hr hobl ρ w vals hfr hb hargs;split at hr
 ·rename_i l x y
  split at hr
  ·rename_i L k s1 s s2 h1 h2 h3
   cases hr;obtain⟨v1,r1,rfl,⟨cs1,rfl,d1⟩,v2,r2,rfl,d2,v3,r3,rfl,d3,h5⟩:=hargs;obtain rfl:r3=[]:=h5;obtain rfl:=Za6 (D:=DO) (ρ:=ρ) (w:=w) h2 d2;obtain rfl:=Za6 (D:=DO) (ρ:=ρ) (w:=w) h3 d3;obtain⟨q',rfl,ho',e1,e2⟩:=Zb4 hns (by have:=ha.base.ns.1;omega) (ho.below hfr.below) h1 (λp hp=>hobl p (Ycy _ hp)) hb d1;obtain⟨k0,k1⟩:=hobl (0<=k∧k<a.nw) Zs;obtain⟨s0,s1⟩:=hobl (-1<=s∧s<(ns:Int)) Zs;obtain⟨kn,rfl⟩:∃kn:Nat,k=kn:=⟨k.toNat,Zo⟩
   rw[Ycb];by_cases hs:s<0
   ·obtain rfl:s = -1:=by omega
    refine(Zd6 (a.ovals q') kn w).mono ?_;rintro e w' ⟨C,rfl,hC,hbl⟩;exact⟨_,rfl,den_quo.2 (hC.mono Zd).qv,hbl⟩
   ·obtain⟨sn,rfl⟩:∃sn:Nat,s=sn:=⟨s.toNat,Zo⟩
    refine(Zdt a ha q' sn kn w ho' (Zgm ho' hN e1 e2) Zo Zo).mono ?_;rintro e w' ⟨C,rfl,hC,hbl⟩;refine⟨_,rfl,?_,hbl⟩;unfold refB;rw[if_neg hs,Ycb];exact den_quo.2 (hC.mono Zd).qv
  ·cases hr
 ·cases hr
end
end
end Go.Proofs.W
namespace Go.Mono
section
theorem Lns.gr_ref (a:Lns) (k s:Nat):Rat.divInt 2 1*(Rat.divInt ((a.S s).order*(a.S s).p0) 10000000*Rat.divInt (a.L k) 10000000)=a.gr k s:=by
 unfold Lns.gr;rw[<-Rat.mul_assoc,Rat.divInt_mul_divInt,Yga,<-Int.mul_assoc]
theorem Zth {x y:Int} (hx:In 3 x) (hy:In 1000000000 y) : -3000000000<=x*y∧x*y<=3000000000:=by
 obtain⟨h1,h2⟩:=hx;obtain⟨h3,h4⟩:=hy;rcases(by omega:x = -3∨x = -2∨x = -1∨x=0∨x=1∨x=2∨x=3) with rfl|rfl|rfl|rfl|rfl|rfl|rfl<;>omega
section
variable {P:Program} {ops:Array Oper} {Q:Exit->Act->World->Prop} {md:Region.Mode} {S:World->Prop}
theorem sto0 (i:Nat) {o:Oper} {fuel:Nat} {listed:Array Bool} {a:Act} {w:World} (ty:TypeId) (x y:Operand) (B off:Nat) (T:TypeId) (old cells new:Array Value)
  (ho:ops[i]? = some o) (hop:o.op=.store ty x y) (hd:o.dst=none) (hx:a.eval x=.pointer (some ⟨B,off,none⟩)) (hy:a.eval y=.agg cells)
  (hb:Box w B T old) (hi:(P.info? ty).map (·.size)=some cells.size) (hold:off+cells.size<=old.size) (h1:cells.all (·.oneCell')=true)
  (hn:old.toList.take off++cells.toList++old.toList.drop (off+cells.size)=new.toList)
  (h:∀W,KeepBut B w.heap.size w W->Box W B T new->S W∧wpAnyH P md ops Q S fuel (listed.setIfInBounds i true) a W)
  (hr:Region.ready md ops listed=[i]:=by as_aux_lemma=>kernel_rfl) (hw:Region.wanted o (yielded ops a.tmps)=true:=by as_aux_lemma=>kernel_rfl):wpAnyH P md ops Q S (fuel+1) listed a w:=
 sto i ty x y B off T old cells new ho hop hx hy hb hi hold h1 hn (λW k b=>by rw[hd];exact h W k b) hr hw
end
end
end Go.Mono
namespace Go.Proofs.W
open Go.RowKit Go.Mono
theorem Zxg {a:Lns} (ha:a.opt) {k s:Nat} (hs:s<a.ns) (hk:k<a.nw):Fits (Rat.divInt ((a.S s).order*(a.S s).p0) 10000000*Rat.divInt (a.L k) 10000000):=by
 have h:=Zth (ha.base.sok s hs).order (ha.base.sok s hs).p0;have hl:=ha.base.wl k hk;exact((Ov.of _ 10000000 Zd 3000000000 (Ze2 Zo Zo)).mul (Ov.of _ 10000000 Zd 2500000 Zo)).fits (k:=30) Zd Zd Zd
theorem Zm1 (a:Lns) (ha:a.opt) (q:Plc) (s k:Nat) (w:World) (h:OptAt w a q) (hs:SrfsL w a q) (s1:s<a.ns) (k1:k<a.nw) (hf:PowFits a k s) (Bs:Nat) (bs:Box w Bs 100 #[.int .i64 0]) :
  Calls Tryz.prog 43 #[.pointer (some ⟨Bs,0,none⟩),.agg (a.ovals q),.int .i64 (k:Int),.int .i64 (s:Int)] w λe w'=>∃C,e=.returned (.agg C)∧QtV 600 w' (.agg C) (a.pow k s)∧Below w.heap.size w w':=by
 have hb1:=λW (hW:Below w.heap.size w W)=>Zdt a ha q s k W (h.below hW) (SrfsAt.below hs hW) s1 k1;have hb2:=λW (hW:Below w.heap.size w W)=>Zm0 a ha q s k W (h.below hW) (SrfsAt.below hs hW) s1 k1;obtain⟨b,off,hps,hbl,hcell⟩:=h.surfs.2.2 Zo;obtain⟨bw,ow,hpw,hbw,hcw⟩:=h.waves.2.2 Zo;have cL:=hcw k 0 k1 Zd;have hok:=ha.base.sok s s1;have hn16:=ha.base.ns.2;have ho3:=hok.order;have hp9:=hok.p0;have hgr:=a.gr_ref k s;have hfg:=Zxg ha s1 k1;have hpi:=Zth ho3 hp9;have hlam:=ha.base.wl k k1;have hcap:=h.surfs.1;have hrange:∀W,Below w.heap.size w W->W.rangeAt b (off+s*22) ((a.S s).cs (q.cp s) (q.cl s)).toList:=λW hW j v hv=>by
  have hj:j<22:=(Yan.1 hv).1;refine((hW.cell (p:=⟨b,off+s*22+j,none⟩) hbl).trans (hcell s j s1 hj)).trans ?_;dsimp only;rw[Yaq]at hv;rw[Yax,hv];rfl
 have hsl:(Tryz.prog.info? 115).map (·.size)=some ((a.S s).cs (q.cp s) (q.cl s)).toList.length:=Zk;have hsz:(Tryz.prog.info? 115).map (·.size)=some ((a.S s).cs (q.cp s) (q.cl s)).size:=Zk;have g1:((a.S s).cs (q.cp s) (q.cl s)).all (·.oneCell')=true:=by simp[Srf.cs,Value.oneCell']
 have gz:((a.S s).cs (q.cp s) (q.cl s)).size=22:=rfl;have e0:((a.S s).cs (q.cp s) (q.cl s))[0]? = some (.int .i64 (a.S s).kind):=rfl;have e1:((a.S s).cs (q.cp s) (q.cl s))[1]? = some (.int .i64 (a.S s).curv):=rfl;have e9:((a.S s).cs (q.cp s) (q.cl s))[9]? = some (.int .i64 (a.S s).p0):=rfl;have e11:((a.S s).cs (q.cp s) (q.cl s))[11]? = some (.int .i64 (a.S s).order):=rfl;have hz:(Tryz.prog.info? 41).map (·.size)=some (a.ovals q).size:=Zk;have c6:(a.ovals q)[6]? = some (.slice (some ⟨bw,ow,none⟩) a.nw q.cw):=by rw[<-hpw];rfl
 have c7:(a.ovals q)[7]? = some (.slice (some ⟨b,off,none⟩) a.ns q.cs):=by rw[<-hps];rfl
 have s1':(s:Int)<a.ns:=Zo;clear hcell hcw;generalize (a.S s).cs (q.cp s) (q.cl s)=A at *;generalize a.ovals q=OV at *;have hpow:a.pow k s=if(a.S s).kind=3 then Rat.divInt 0 1 else if(a.S s).kind=4 then a.cv s else a.cv s*a.step k s-a.gr k s:=rfl
 have hcv:=λW=>Zdf (a.S s).curv 1000000000 W Zd (by have:=hok.curv.1;omega) (by have:=hok.curv.2;omega) Zd;rw[show Rat.divInt (a.S s).curv 1000000000=a.cv s from rfl]at hcv;have h01:=λW=>Zdf 0 1 W Zd Zd Zd Zd;have h21:=λW=>Zdf 2 1 W Zd Zd Zd Zd;have hop:=λW=>Zdf ((a.S s).order*(a.S s).p0) 10000000 W Zd Zo Zo Zd;have hla:=λW=>Zdf (a.L k) 10000000 W Zd Zo Zo Zd;generalize (a.S s).curv=cvv at *;generalize a.pow k s=PW at *;generalize hkd:(a.S s).kind=kd at *;by_cases n3:kd=3
 ·subst n3
  rw[if_pos rfl]at hpow;subst hpow;go_enter Tryz.func43,Tryz.ntmps43
  go_wp2_with first|(refine Zbm (T0:=41) λW hB hsW bO bR=>?_;have k6:=(bO.cell 6).trans c6;have k7:=(bO.cell 7).trans c7;have lO:=bO.lt)|(refine wpList_load_mid rfl 115 _ rfl b (off+s*22) rfl A.toList _ (hrange _ hB) Tryz.underlying115 rfl hsl ?_)|(refine Zan rfl 115 rfl _ Zav ?_;intro W1 B1 hle hB1 b1)|(refine Zab rfl 115 (.tmp 9) (.tmp 17) rfl B1 0 115 _ A A rfl rfl b1 hsz (by rw[gz];exact Yaa rfl) g1 (Zaf (by rw[gz];rfl)) ?_;intro W2 hk2 b2;have hB2:=Zaa hB (hk2.below hB1 hle hB1.size);have l2:=b2.lt;have m0:=(b2.cell 0).trans e0;have m1:=(b2.cell 1).trans e1)
  refine(h01 W2).mono ?_;rintro e W3 ⟨C,rfl,hV,hw3⟩;obtain⟨_,e,zC,oC⟩:=hV.cells;cases e;have hB3:=Zaa hB2 hw3;have bR3:=bR.below (Zaa (hk2.below hB1 hle hB1.size) hw3);clear hb1 hb2 hcv h01 h21 hop hla;go_wp2_with first|(refine Zab rfl 51 (.tmp 8) (.tmp 22) rfl (w.heap.size+1) 0 51 _ C C rfl rfl bR3 (by rw[zC];exact Zah) (Ybl (by rw[zC];rfl)) oC (Zaf (by rw[zC];rfl)) ?_;intro W6 hk b6)
  refine bodyPost_ret (b6.results rfl _ _ rfl Tryz.underlying51 rfl (by rw[zC];exact Zah)) rfl ?_;exact⟨_,rfl,(hV.ext (hk.ext bR3 Zd)).mono Zd,hk.below hB3 Zo hB3.size⟩
 ·have m3:(kd==3)=false:=beq_eq_false_iff_ne.2 n3
  rw[if_neg n3]at hpow;by_cases n4:kd=4
  ·subst n4
   rw[if_pos rfl]at hpow;subst hpow;go_enter Tryz.func43,Tryz.ntmps43
   go_wp2_with first|(refine Zbm (T0:=41) λW hB hsW bO bR=>?_;have k6:=(bO.cell 6).trans c6;have k7:=(bO.cell 7).trans c7;have lO:=bO.lt)|(refine wpList_load_mid rfl 115 _ rfl b (off+s*22) rfl A.toList _ (hrange _ hB) Tryz.underlying115 rfl hsl ?_)|(refine Zan rfl 115 rfl _ Zav ?_;intro W1 B1 hle hB1 b1)|(refine Zab rfl 115 (.tmp 9) (.tmp 17) rfl B1 0 115 _ A A rfl rfl b1 hsz (by rw[gz];exact Yaa rfl) g1 (Zaf (by rw[gz];rfl)) ?_;intro W2 hk2 b2;have hB2:=Zaa hB (hk2.below hB1 hle hB1.size);have l2:=b2.lt;have m0:=(b2.cell 0).trans e0;have m1:=(b2.cell 1).trans e1)
   refine(hcv W2).mono ?_;rintro e W3 ⟨C,rfl,hV,hw3⟩;obtain⟨_,e,zC,oC⟩:=hV.cells;cases e;have hB3:=Zaa hB2 hw3;have bR3:=bR.below (Zaa (hk2.below hB1 hle hB1.size) hw3);clear hb1 hb2 hcv h01 h21 hop hla;go_wp2_with first|(refine Zab rfl 51 (.tmp 8) (.tmp 27) rfl (w.heap.size+1) 0 51 _ C C rfl rfl bR3 (by rw[zC];exact Zah) (Ybl (by rw[zC];rfl)) oC (Zaf (by rw[zC];rfl)) ?_;intro W6 hk b6)
   refine bodyPost_ret (b6.results rfl _ _ rfl Tryz.underlying51 rfl (by rw[zC];exact Zah)) rfl ?_;exact⟨_,rfl,(hV.ext (hk.ext bR3 Zd)).mono Zd,hk.below hB3 Zo hB3.size⟩
  ·have m4:(kd==4)=false:=beq_eq_false_iff_ne.2 n4
   rw[if_neg n4]at hpow;go_enter Tryz.func43,Tryz.ntmps43
   go_wp2_with first|(refine Zbm (T0:=41) λW hB hsW bO bR=>?_;have k6:=(bO.cell 6).trans c6;have k7:=(bO.cell 7).trans c7;have lO:=bO.lt)|(refine wpList_load_mid rfl 115 _ rfl b (off+s*22) rfl A.toList _ (hrange _ hB) Tryz.underlying115 rfl hsl ?_)|(refine Zan rfl 115 rfl _ Zav ?_;intro W1 B1 hle hB1 b1)|(refine Zab rfl 115 (.tmp 9) (.tmp 17) rfl B1 0 115 _ A A rfl rfl b1 hsz (by rw[gz];exact Yaa rfl) g1 (Zaf (by rw[gz];rfl)) ?_;intro W2 hk2 b2;have hB2:=Zaa hB (hk2.below hB1 hle hB1.size);have l2:=b2.lt;have m0:=(b2.cell 0).trans e0;have m1:=(b2.cell 1).trans e1)
   have hS:∀w',Below W2.heap.size W2 w'->w'.cell? ⟨B1,1,none⟩=some (.int .i64 cvv)∧Below W2.heap.size W2 w':=λw' h=>⟨(h.cell (p:=⟨B1,1,none⟩) l2).trans m1,h⟩
   have hW2:=hk2.below hB1 hle hB1.size;have bO2:=bO.below hW2;have bR2:=bR.below hW2;have bS2:=bs.below hB2;have hwr:IntKind.i64.wrap ((s:Int)-1)=(s:Int)-1:=by rw[Ybi];omega
   refine wp_region_held_drew (S:=λw'=>w'.cell? ⟨B1,1,none⟩=some (.int .i64 cvv)∧Below W2.heap.size W2 w') Zx (hS _ (Yae _ _).drew) (λhHeld=>?_);have hB0:Below W2.heap.size W2 W2.drew:=(Yae _ _).drew;generalize hXd:W2.drew=X0 at *;refine tkf 0 (some 28) ?_;refine tkf 1 (some 29) ?_;refine tkf 2 (some 30) ?_;refine tkf 4 (some 32) ?_;refine tlf 5 (some 33) rfl (.agg OV) (Zai 41 _ rfl w.heap.size 0 Zx OV (λw' h=>(bO2.below h.2).range) _ Tryz.underlying41 rfl hz) ?_;refine tkf 6 (some 34) ?_;refine tkf 7 (some 35) ?_;refine tlf 9 (some 37) rfl (.agg OV) (Zai 41 _ rfl w.heap.size 0 Zx OV (λw' h=>(bO2.below h.2).range) _ Tryz.underlying41 rfl hz) ?_;refine tkf 10 (some 38) ?_;refine tkf 11 (some 39) ?_;refine tkf 12 (some 40) ?_;refine Mono.Fl.open [⟨16,10,51,_⟩] (.cons (.of Zda) .nil) (λhfa=>?_);refine Mono.Fl.call 3 31 (λwc hV=>hcv wc) ?_ (hN:=Yab _) (hSt:=λw w' h k=>hS _ (Zaa h.2 k));intro wc hV hHeld2 e Wa hR;obtain⟨Ca,rfl,Ra,hba⟩:=hR;have hBa:=Zaa hV hba;refine⟨hba,Mono.Fl.pt ?_⟩;refine Mono.Fl.call 8 36 (λwd hVd=>hb1 wd (Zaa hB2 (Zaa hB0 (Zaa hBa hVd)))) ?_ (hN:=hBa.size) (hSt:=λw w' h k=>hS _ (Zaa h.2 k));intro wd hVd hHeld3 e Wb hR;obtain⟨Cb,rfl,Rb,hbb⟩:=hR;have hBb:=Zaa (Zaa hBa hVd) hbb;refine⟨hbb,Mono.Fl.pt ?_⟩;refine Mono.Fl.call 13 41 (λwe hVe=>hb2 we (Zaa hB2 (Zaa hB0 (Zaa hBb hVe)))) ?_ (hN:=hBb.size) (hSt:=λw w' h k=>hS _ (Zaa h.2 k));intro we hVe hHeld4 e Wc hR;obtain⟨Cc,rfl,Rc,hbc⟩:=hR;have hBc:=Zaa (Zaa hBb hVe) hbc;refine⟨hbc,Mono.Fl.pt ?_⟩;refine Mono.Fl.call 14 42 (λwf hVf=>Zlr Bs wf (bS2.below (Zaa hB0 (Zaa hBc hVf))) ((Rb.ext (.of_below (Zaa hVe hbc))).mono Zd |>.ext (.of_below hVf)) ((Rc.mono Zd).ext (.of_below hVf)) hf.f1) ?_ (hN:=hBc.size) (hSt:=λw w' h k=>hS _ (Zaa h.2 k));intro wf hVf hHeld5 e Wd hR;obtain⟨Cd,rfl,Rd,hbd⟩:=hR;have hBd:=Zaa (Zaa hBc hVf) hbd;have hba2:=Zaa (Zaa (Zaa (Zaa (Zaa hVd hbb) hVe) hbc) hVf) hbd;refine⟨hbd,Mono.Fl.pt ?_⟩;refine Mono.Fl.call 15 43 (λwg hVg=>Zhu Bs wg (bS2.below (Zaa hB0 (Zaa hBd hVg))) ((Ra.mono Zd).ext (.of_below (Zaa hba2 hVg))) (Rd.ext (.of_below hVg)) hf.f2) ?_ (hN:=hBd.size) (hSt:=λw w' h k=>hS _ (Zaa h.2 k));intro wg hVg hHeld6 e We hR;obtain⟨Ce,rfl,Re,hbe⟩:=hR;have hBe:=Zaa (Zaa hBd hVg) hbe;refine⟨hbe,Mono.Fl.pt ?_⟩;refine Mono.Fl.close1 (λB4 W4 hV4 hHeld7 hg4 b4=>Mono.pt ?_) (hN:=hBe.size) (hSt:=λw w' h k=>hS _ (Zaa h.2 k));replace Re:=Re.ext (.of_below hV4);have hB4:=Zaa hB0 (Zaa hBe hV4);replace hg4:W2.heap.size<=B4:=Yak hB0.size hg4;obtain⟨_,ee,ze,oe⟩:=Re.cells;cases ee;refine Mono.sto0 17 51 _ _ B4 0 51 _ Ce Ce rfl rfl rfl rfl rfl b4 (by rw[ze];exact Zah) (Ybl (by rw[ze];rfl)) oe (Zaf (by rw[ze];rfl)) (λW5 hk5 b5=>⟨hS _ (hk5.below hB4 hg4 hB4.size),?_⟩);have hB5:=hk5.below hB4 hg4 hB4.size;replace Re:=Re.ext (hk5.ext b4 Zd);refine wpAnyH_done Zx ?_ _;have b15:=b2.below hB5;have bO5:=bO2.below hB5;have bR5:=bR2.below hB5;have bS5:=bS2.below hB5;have n9:=(b15.cell 9).trans e9;have n11:=(b15.cell 11).trans e11;have n6:=(bO5.cell 6).trans c6
   have hBw5:=Zaa hB2 hB5;have nL:=(hBw5.cell (p:=⟨bw,ow+k*2,none⟩) hbw).trans cL;have lb5:=b15.lt;have lO5:=bO5.lt;have lw5:=Yaf hbw hBw5.size;clear hS;have hmul:IntKind.i64.wrap ((a.S s).order*(a.S s).p0)=(a.S s).order*(a.S s).p0:=by rw[Ybi];omega
   have hS:∀w',Below W5.heap.size W5 w'->w'.cell? ⟨B1,9,none⟩=some (.int .i64 (a.S s).p0)∧w'.cell? ⟨B1,11,none⟩=some (.int .i64 (a.S s).order)∧w'.cell? ⟨w.heap.size,6,none⟩=some (.slice (some ⟨bw,ow,none⟩) a.nw q.cw)∧w'.cell? ⟨bw,ow+k*2,none⟩=some (.int .i64 (a.L k))∧Below W5.heap.size W5 w':=λw' h=>⟨(h.cell (p:=⟨B1,9,none⟩) lb5).trans n9,(h.cell (p:=⟨B1,11,none⟩) lb5).trans n11,(h.cell (p:=⟨w.heap.size,6,none⟩) lO5).trans n6,(h.cell (p:=⟨bw,ow+k*2,none⟩) lw5).trans nL,h⟩
   have hk9:(k:Int)<a.nw:=Zo;go_wp2_with fail
   refine wp_region_held_drew (S:=λw'=>w'.cell? ⟨B1,9,none⟩=some (.int .i64 (a.S s).p0)∧w'.cell? ⟨B1,11,none⟩=some (.int .i64 (a.S s).order)∧w'.cell? ⟨w.heap.size,6,none⟩=some (.slice (some ⟨bw,ow,none⟩) a.nw q.cw)∧w'.cell? ⟨bw,ow+k*2,none⟩=some (.int .i64 (a.L k))∧Below W5.heap.size W5 w') Zx (hS _ (Yae _ _).drew) (λhHeld8=>?_);have hB50:Below W5.heap.size W5 W5.drew:=(Yae _ _).drew;generalize hX5:W5.drew=X5 at *;refine tkf 0 (some 44) ?_;refine tkf 1 (some 45) ?_;refine tkf 2 (some 46) ?_;refine tkf 3 (some 47) ?_;refine tkf 4 (some 48) ?_;refine tkf 5 (some 49) ?_;refine tkf 6 (some 50) ?_;refine tkf 8 (some 52) ?_;refine tkf 9 (some 53) ?_;refine tkf 10 (some 54) ?_;refine tkf 11 (some 55) ?_;refine tkf 12 (some 56) ?_;refine tkf 13 (some 57) ?_;refine tkf 14 (some 58) ?_;refine Mono.Fl.open [⟨17,11,51,_⟩] (.cons (.of Zda) .nil) (λhfa=>?_);refine Mono.Fl.call 7 51 (λwc hV=>hop wc) ?_ (hN:=Yab _) (hSt:=λw w' h k=>hS _ (Zaa h.2.2.2.2 k));intro wh hVh hHeld9 e Wf hR;obtain⟨Cf,rfl,Rf,hbf⟩:=hR;have hBf:=Zaa hVh hbf;refine⟨hbf,Mono.Fl.pt ?_⟩;refine Mono.Fl.call 15 59 (λwc hV=>hla wc) ?_ (hN:=hBf.size) (hSt:=λw w' h k=>hS _ (Zaa h.2.2.2.2 k));intro wi hVi hHeld10 e Wg hR;obtain⟨Cg,rfl,Rg,hbg⟩:=hR;have hBg:=Zaa (Zaa hBf hVi) hbg;refine⟨hbg,Mono.Fl.pt ?_⟩;refine Mono.Fl.call 16 60 (λwj hVj=>Zhu Bs wj (bS5.below (Zaa hB50 (Zaa hBg hVj))) ((Rf.mono Zd).ext (.of_below (Zaa (Zaa hVi hbg) hVj))) ((Rg.mono Zd).ext (.of_below hVj)) hfg) ?_ (hN:=hBg.size) (hSt:=λw w' h k=>hS _ (Zaa h.2.2.2.2 k));intro wj hVj hHeld11 e Wh hR;obtain⟨Ch,rfl,Rh,hbh⟩:=hR;have hBh:=Zaa (Zaa hBg hVj) hbh;refine⟨hbh,Mono.Fl.pt ?_⟩;refine Mono.Fl.close1 (λB6 W6 hV6 hHeld12 hg6 b6=>Mono.pt ?_) (hN:=hBh.size) (hSt:=λw w' h k=>hS _ (Zaa h.2.2.2.2 k));replace Rh:=Rh.ext (.of_below hV6);have hB6:=Zaa hB50 (Zaa hBh hV6);replace hg6:W5.heap.size<=B6:=Yak hB50.size hg6;obtain⟨_,eh,zh,oh⟩:=Rh.cells;cases eh;refine Mono.sto0 18 51 _ _ B6 0 51 _ Ch Ch rfl rfl rfl rfl rfl b6 (by rw[zh];exact Zah) (Ybl (by rw[zh];rfl)) oh (Zaf (by rw[zh];rfl)) (λW7 hk7 b7=>⟨hS _ (hk7.below hB6 hg6 hB6.size),?_⟩);have hB7:=hk7.below hB6 hg6 hB6.size;replace Rh:=Rh.ext (hk7.ext b6 Zd);refine wpAnyH_done Zx ?_ _;have b57:=b5.below hB7;have bR7:=bR5.below hB7;have bS7:=bS5.below hB7;have Re7:=Re.ext (.of_below hB7);have hBw7:=Zaa hBw5 hB7;clear hS;go_wp2_with fail
   have hOut:∀W,Below W7.heap.size W7 W->Below w.heap.size w W:=λW h=>Zaa hBw7 h;clear hb1 hb2 hcv h01 hop hla hHeld hHeld2 hHeld3 hHeld4 hHeld5 hHeld6 hHeld7 hHeld8 hHeld9 hHeld10 hHeld11 hHeld12;have hS:∀w',Below W7.heap.size W7 w'->Box w' B4 51 Ce∧Box w' B6 51 Ch:=λw' h=>⟨b57.below h,b7.below h⟩
   refine wp_region_held_drew (S:=λw'=>Box w' B4 51 Ce∧Box w' B6 51 Ch) Zx (hS _ (Yae _ _).drew) (λhHeld=>?_);have hB70:Below W7.heap.size W7 W7.drew:=(Yae _ _).drew;generalize hX7:W7.drew=X7 at *;refine tkf 0 (some 61) ?_;refine tlf 1 (some 62) rfl (.agg Ce) (Zai 51 _ rfl B4 0 Zx Ce (λw' h=>h.1.range) _ Tryz.underlying51 rfl (by rw[ze];exact Zah)) ?_;refine tkf 2 (some 63) ?_;refine tlf 4 (some 65) rfl (.agg Ch) (Zai 51 _ rfl B6 0 Zx Ch (λw' h=>h.2.range) _ Tryz.underlying51 rfl (by rw[zh];exact Zah)) ?_;refine Mono.stc 3 (some 64) (h21 X7) (λe W8 hR=>?_);obtain⟨Ci,rfl,Ri,hbi⟩:=hR;refine⟨(hS _ (Zaa hB70 hbi)),λhHeld=>Mono.pt ?_⟩;have hB8:=Zaa hB70 hbi;refine Mono.stc 5 (some 66) (Zhu Bs W8 (bS7.below hB8) (Ri.mono Zd) (Rh.ext (.of_below hB8)) (by rw[hgr];exact hf.f3)) (λe W9 hR=>?_);obtain⟨Cj,rfl,Rj,hbj⟩:=hR;refine⟨(hS _ (Zaa hB8 hbj)),λhHeld=>Mono.pt ?_⟩;have hB9:=Zaa hB8 hbj;rw[hgr]at Rj;refine Mono.stc 6 (some 67) (Zlr Bs W9 (bS7.below hB9) (Re7.ext (.of_below hB9)) Rj hf.f4) (λe W10 hR=>?_);obtain⟨Ck,rfl,Rk,hbk⟩:=hR;refine⟨(hS _ (Zaa hB9 hbk)),λhHeld=>Mono.pt ?_⟩;have hB10:=Zaa hB9 hbk;obtain⟨_,ek,zk,ok⟩:=Rk.cells;cases ek;have n4:B4≠w.heap.size+1:=by have:=bR2.lt;omega
   have n6:B6≠w.heap.size+1:=by have:=bR5.lt;omega
   refine Mono.sto0 7 51 _ _ (w.heap.size+1) 0 51 _ Ck Ck rfl rfl rfl rfl rfl (bR7.below hB10) (by rw[zk];exact Zah) (Ybl (by rw[zk];rfl)) ok (Zaf (by rw[zk];rfl)) (λW11 hk11 b11=>⟨⟨hk11.box (hS _ hB10).1 (hS _ hB10).1.lt n4,hk11.box (hS _ hB10).2 (hS _ hB10).2.lt n6⟩,?_⟩);refine wpAnyH_done Zx ?_ _;go_wp2_with fail
   refine bodyPost_ret (b11.results rfl _ _ rfl Tryz.underlying51 rfl (by rw[zk];exact Zah)) rfl ?_;exact⟨_,rfl,Rk.ext (hk11.ext (bR7.below hB10) Zd),hk11.below (hOut _ hB10) Zo (hOut _ hB10).size⟩
section
open Go.Ex
def sumsB:Blk:=⟨100,[.val (.int .i64 0)],false,false,false⟩
section
variable {a:Lns} (ha:a.opt) {q:Plc} {ns:Nat} (hns:a.ns=ns) {w0:World} (ho:OptAt w0 a q) (hN:SrfsNil a q)
def cR17Pow:Ctr DO Tryz.prog w0 (λ_=>False):=.plain 43 (λargs bk orc=>match args with
    | [.one (.ptr kb 0), .agg l, x, y] => match bk.look kb, seesO a q ns l bk, Ex.intOf (some (.a x)), Ex.intOf (some (.a y)) with
      | some b,some L,some (.i64,k,_),some (.i64,s,_)=>some (.a (.agg [.quo (a.pow k.toNat s.toNat)]),L++(b=sumsB)::(0<=k∧k<a.nw)::(0<=s∧s<(ns:Int))::PowFits a k.toNat s.toNat::[],orc)
      | _,_,_,_=>none
    | _=>none)<|by
 intro args bk orc v obl orc' hr hobl ρ w vals hfr hb hargs;split at hr
 ·rename_i kb l x y
  split at hr
  ·rename_i b L k s1 s s2 hkb h1 h2 h3
   cases hr;obtain⟨v0,r0,rfl,⟨B,hB,e0⟩,v1,r1,rfl,⟨cs1,rfl,d1⟩,v2,r2,rfl,d2,v3,r3,rfl,d3,h5⟩:=hargs;obtain rfl:r3=[]:=h5;obtain rfl:=Za6 (D:=DO) (ρ:=ρ) (w:=w) h2 d2;obtain rfl:=Za6 (D:=DO) (ρ:=ρ) (w:=w) h3 d3;obtain⟨q',rfl,ho',e1,e2⟩:=Zb4 hns (by have:=ha.base.ns.1;omega) (ho.below hfr.below) h1 (λp hp=>hobl p (Ycy _ hp)) hb d1;have hbe:b=sumsB:=hobl (b=sumsB) Zs;subst hbe;obtain⟨k0,k1⟩:=hobl (0<=k∧k<a.nw) Zs;obtain⟨s0,s1⟩:=hobl (0<=s∧s<(ns:Int)) Zs;have hf:=hobl (PowFits a k.toNat s.toNat) Zs;obtain⟨kn,rfl⟩:∃kn:Nat,k=kn:=⟨k.toNat,Zo⟩
   obtain⟨sn,rfl⟩:∃sn:Nat,s=sn:=⟨s.toNat,Zo⟩
   rw[Ycb,Ycb]at hf ⊢;obtain⟨B',cs',hB',hH,hC,hro⟩:=hb _ _ hkb rfl;rw[hB]at hB';cases hB';rcases hH with ⟨hr1,_⟩|⟨_,h0,rest,hs,_,hbx⟩
   ·rw[hr1]at hro
    cases hro
   ·obtain rfl:=hs rfl
    obtain⟨_,d0,rfl,⟨rfl,_⟩,h⟩:=hC;obtain rfl:d0=[]:=h;obtain rfl:v0=.pointer (some ⟨B.blk,B.base+0,none⟩):=by simpa using e0
    rw[h0];refine(Zm1 a ha q' sn kn w ho' (Zgm ho' hN e1 e2) Zo Zo hf B.blk (by simpa[sumsB]using hbx)).mono ?_;rintro e w' ⟨C,rfl,hC,hbl⟩;exact⟨_,rfl,den_quo.2 hC.qv,hbl⟩
  ·cases hr
 ·cases hr
noncomputable def spRf:List (Ctr DO Tryz.prog w0 (λ_=>False)):=[cR13Chk ha hns ho hN,cR17Beh ha hns ho hN,cR17Pow ha hns ho hN,cR4Of w0 _]
noncomputable def runR (g:FuncId) (args:List SA) (orc:List (Option Bool)):Option (SV×List Prop×Option Value):=
 (evF Tryz.prog (spRf ha hns ho hN) [] 24 [] g (.agg (optU a q ns 0)::args) [(0,srfB a q ns)] 1 1 orc).map λr=>(r.v,r.obl,r.pan)
def obR0 (a:Lns) (q:Plc) (ns:Nat) (k s:Int) (L:List Prop):List Prop:=obE0 a q ns (lessE k false (overE k a.nw false (lessE s false (overE s ns false L))))
def obRI (a:Lns) (q:Plc) (ns:Nat) (k s:Int):List Prop:=obR0 a q ns k s (obE0 a q ns ((0<=k∧k<a.nw)::(-1<=s∧s<(ns:Int))::[]))
def obRP (a:Lns) (q:Plc) (ns:Nat) (k s:Int):List Prop:=obR0 a q ns k s (obE0 a q ns ((sumsB=sumsB)::(0<=k∧k<a.nw)::(0<=s∧s<(ns:Int))::PowFits a k.toNat s.toNat::[]))
def refAt (g:FuncId) (k s:Int) (V:Rat) (L:List Prop):Prop:=
 runR ha hns ho hN g [.one (.sym k),.one (.sym s)] [some false,some false,some false,some false]=some (.tup [.agg [.quo V],okV],L,none)∧
 runR ha hns ho hN g [.one (.sym k),.one (.sym s)] [some true]=some (errQ 2,obE0 a q ns (lessE k true []),none)∧
 runR ha hns ho hN g [.one (.sym k),.one (.sym s)] [some false,some true]=some (errQ 2,obE0 a q ns (lessE k false (overE k a.nw true [])),none)∧
 runR ha hns ho hN g [.one (.sym k),.one (.sym s)] [some false,some false,some true]=some (errQ 2,obE0 a q ns (lessE k false (overE k a.nw false (lessE s true []))),none)∧
 runR ha hns ho hN g [.one (.sym k),.one (.sym s)] [some false,some false,some false,some true]=some (errQ 2,obE0 a q ns (lessE k false (overE k a.nw false (lessE s false (overE s ns true [])))),none)
end
section
set_option maxRecDepth 100000
variable {a:Lns} (ha:a.opt) {q:Plc} {w0:World} (ho:OptAt w0 a q) (hN:SrfsNil a q) (k s:Int)
theorem Zy9 {ns:Nat} (hns:a.ns=ns) (h6:2<=ns∧ns<=6):refAt ha hns ho hN 12 k s (refB a k.toNat s) (obRI a q ns k s):=by
 rcases Zwu h6 with rfl|rfl|rfl|rfl|rfl<;>exact⟨Zk,Zk,Zk,Zk,Zk⟩
theorem Zza {ns:Nat} (hns:a.ns=ns) (h6:2<=ns∧ns<=6):refAt ha hns ho hN 14 k s (a.pow k.toNat s.toNat) (obRP a q ns k s):=by
 rcases Zwu h6 with rfl|rfl|rfl|rfl|rfl<;>exact⟨Zk,Zk,Zk,Zk,Zk⟩
end
def atV (V:Rat):Bool->SV
 | true=>.tup [.agg [.quo V],okV]
 | false=>errQ 2
section
variable {a:Lns} (ha:a.opt) {q:Plc} {ns:Nat} (hns:a.ns=ns) (h6:2<=ns∧ns<=6) {w0:World} (ho:OptAt w0 a q) (hN:SrfsNil a q)
def cRefAt (g:FuncId) (f:Nat->Nat->Rat) (L0:Plc->Int->Int->List Prop) (ob:Nat->Nat->List Prop) (hL0:∀{q:Plc} {k s:Int},inRng a ns k s->(∀p∈ob k.toNat s.toNat,p)->AllP (L0 q k s))
    (V:Int->Int->Rat) (hV:∀{k s:Int},inRng a ns k s->V k s=f k.toNat s.toNat)
    (hg:∀{w:World} {q:Plc} (ho:OptAt w a q) (hN:SrfsNil a q) (k s:Int),refAt ha hns ho hN g k s (V k s) (L0 q k s)):Ctr DO Tryz.prog w0 (λ_=>False):=.plain g (λargs bk orc=>match args,orc with
    | [.agg l, x, y], some b :: r => match seesO a q ns l bk, Ex.intOf (some (.a x)), Ex.intOf (some (.a y)) with
      | some L,some (.i64,k,_),some (.i64,s,_)=>some (atV (f k.toNat s.toNat) b,L++(decide (inRng a ns k s)=b)::(bif b then ob k.toNat s.toNat else[]),r)
      | _,_,_=>none
    | _,_=>none)<|by
 intro args bk orc v obl orc' hr hobl ρ w vals hfr hb hargs;split at hr
 ·rename_i l x y b r
  split at hr
  ·rename_i L k s1 s s2 h1 h2 h3
   cases hr;obtain⟨v1,r1,rfl,⟨cs1,rfl,d1⟩,v2,r2,rfl,d2,v3,r3,rfl,d3,h5⟩:=hargs;obtain rfl:r3=[]:=h5;obtain rfl:=Za6 (D:=DO) (ρ:=ρ) (w:=w) h2 d2;obtain rfl:=Za6 (D:=DO) (ρ:=ρ) (w:=w) h3 d3;obtain⟨q',rfl,ho',e1,e2⟩:=Zb4 hns h6.1 (ho.below hfr.below) h1 (λp hp=>hobl p (Ycy _ hp)) hb d1;have hN':SrfsNil a q':=λi hi hc=>by rw[e1]at hc;rw[e2];exact hN i hi hc
   have hb':=hobl (decide (inRng a ns k s)=b) Zs;have hd:denAs DO (λ_=>none) w [.one (.sym k),.one (.sym s)] [.int .i64 k,.int .i64 s]:=⟨_,_,rfl,rfl,_,_,rfl,rfl,rfl⟩
   obtain⟨t0,t1,t2,t3,t4⟩:=hg ho' hN' k s;have key:∃orc V2 L2,runR ha hns ho' hN' g [.one (.sym k),.one (.sym s)] orc=some (V2,L2,none)∧AllP L2∧closedV V2=true∧V2=atV (f k.toNat s.toNat) b:=by
    cases b with
    | true =>
      have hn:inRng a ns k s:=of_decide_eq_true hb';exact⟨_,_,_,t0,hL0 hn (λp hp=>hobl p (by simp[hp])),rfl,by rw[hV hn];rfl⟩
    | false =>
      have hn:¬inRng a ns k s:=of_decide_eq_false hb';unfold inRng at hn;by_cases k0:k<0
      ·exact⟨_,_,_,t1,⟨rfl,rfl,decide_eq_true k0,trivial⟩,rfl,rfl⟩
      by_cases k1:k>=a.nw
      ·exact⟨_,_,_,t2,⟨rfl,rfl,decide_eq_false k0,decide_eq_true k1,trivial⟩,rfl,rfl⟩
      by_cases s0:s<0
      ·exact⟨_,_,_,t3,⟨rfl,rfl,decide_eq_false k0,decide_eq_false k1,decide_eq_true s0,trivial⟩,rfl,rfl⟩
      ·exact⟨_,_,_,t4,⟨rfl,rfl,decide_eq_false k0,decide_eq_false k1,decide_eq_false s0,decide_eq_true Zo,trivial⟩,rfl,rfl⟩
   obtain⟨orc2,V2,L2,hrun,hL,hc,rfl⟩:=key;refine(Zik ha hns ho' hrun hL hc rfl hd).mono ?_;rintro e w' ⟨v,e1,hv,hbl⟩;exact⟨v,e1,hv ρ,hbl⟩
  ·cases hr
 ·cases hr
def cRIndexA:Ctr DO Tryz.prog w0 (λ_=>False):=cRefAt ha hns h6 ho hN 12 a.nI (λq k s=>obRI a q ns k s) (λ_ _=>[])
 (λh _=>⟨rfl,rfl,decide_eq_false (by have:=h.1;omega),decide_eq_false (by have:=h.1;omega),decide_eq_false (by have:=h.2;omega),decide_eq_false (by have:=h.2;omega),rfl,rfl,h.1,⟨by have:=h.2;omega,h.2.2⟩,trivial⟩)
 (λk s=>refB a k.toNat s) (λh=>by unfold refB;rw[if_neg (by have:=h.2;omega)]) λho hN k s=>Zy9 ha ho hN k s hns h6
def cRPowerA:Ctr DO Tryz.prog w0 (λ_=>False):=cRefAt ha hns h6 ho hN 14 a.pow (λq k s=>obRP a q ns k s) (λk s=>[PowFits a k s])
 (λh hp=>⟨rfl,rfl,decide_eq_false (by have:=h.1;omega),decide_eq_false (by have:=h.1;omega),decide_eq_false (by have:=h.2;omega),decide_eq_false (by have:=h.2;omega),rfl,rfl,rfl,h.1,h.2,hp _ (Ycl ..),trivial⟩)
 (λk s=>a.pow k.toNat s.toNat) (λ_=>rfl) λho hN k s=>Zza ha ho hN k s hns h6
end
end
section
open Go.Ex
section
variable {a:Lns} (ha:a.opt) {q:Plc} {ns:Nat} (hns:a.ns=ns) {w0:World} (ho:OptAt w0 a q) (hN:SrfsNil a q)
def cRight0:Ctr DO Tryz.prog w0 (λ_=>False):=.plain 72 (λargs bk orc=>match args with
    | [.agg l]=>(seesO a q ns (l++[.val (.slice q.pi a.ns q.ci)]) bk).map λL=>(.a (.one (.val (.bool true))),L,orc)
    | _=>none)<|by
 intro args bk orc v obl orc' hr hobl ρ w vals hfr hb hargs;split at hr
 ·rename_i l
  obtain⟨L,hL,e⟩:=Yad.1 hr;cases e;obtain⟨v1,r1,rfl,⟨cs1,rfl,d1⟩,h3⟩:=hargs;obtain rfl:r1=[]:=h3;obtain⟨q',e,ho',e1,e2⟩:=Zb4 hns (by have:=ha.base.ns.1;omega) (ho.below hfr.below) hL hobl hb (d1.append (m:=[.val (.slice q.pi a.ns q.ci)]) (ds:=[.slice q.pi a.ns q.ci]) ⟨[_],[],rfl,⟨rfl,rfl⟩,rfl⟩);obtain rfl:cs1=(a.lvals q').toList:=by
   have:=congrArg (λl=>l.take 9) e;have hl:cs1.length=9:=by
    have:=congrArg List.length e;simpa[Lns.ovals]using this
   rw[List.take_left' hl]at this;exact this
  refine(Zhq ha.base ho'.toLnsAt (Zgm ho' hN e1 e2)).mono ?_;rintro e w' ⟨rfl,hbl⟩;exact⟨_,rfl,⟨rfl,rfl⟩,hbl⟩
 ·cases hr
noncomputable def cRun (sp:List (Ctr DO Tryz.prog w0 (λ_=>False))) (a:Lns) (q:Plc) (ns j:Nat):Option (SV×List Prop×List (Nat×Blk)×Option Value):=
 (evF Tryz.prog sp [] 24 [] 92 [.agg (bntU a q ns 0 j)] [(0,srfB a q ns)] 1 1 []).map λr=>(r.v,r.obl,r.wr,r.pan)
set_option maxRecDepth 100000
theorem Zzk {n:Nat} (hns:a.ns=n+2):cRun [cRight0 ha hns ho hN] a q (n+2) 0=some (v130,(optU a q (n+2) 0=optU a q (n+2) 0)::(srfB a q (n+2)=srfB a q (n+2))::[],[],none):=Zk
theorem Zzl:∀(j:Nat) (hj:j≠0),cRun [cRightB ha hns ho j hj] a q ns j=some (v130,(bntL a q ns 0 j=bntL a q ns 0 j)::(srfB a q ns=srfB a q ns)::[],[],none)
 | 1,_=>Zk
 | 2,_=>Zk
 | 3,_=>Zk
 | j+4,_=>Zk
include ha hns ho hN in
theorem Zxj (j:Nat):∃sp L,cRun (w0:=w0) sp a q ns j=some (v130,L,[],none)∧AllP L:=by
 by_cases hj:j=0
 ·subst hj
  obtain⟨n,rfl⟩:∃n,ns=n+2:=⟨ns-2,by have:=ha.base.ns.1;omega⟩
  exact⟨_,_,Zzk ha ho hN hns,rfl,rfl,trivial⟩
 ·exact⟨_,_,Zzl ha hns ho j hj,rfl,rfl,trivial⟩
def cR13ChkB (j:Nat):Ctr DO Tryz.prog w0 (λ_=>False):=.plain 92 (λargs bk orc=>match args with
    | [.agg [a0,a1,a2,a3,a4,a5,a6,.slc k o n c,a8,a9]]=>(bk.look k).map λb=>(v130,([a0,a1,a2,a3,a4,a5,a6,.slc k o n c,a8,a9]=bntU a q ns k j)::(b=srfB a q ns)::[],orc)
    | _=>none)<|by
 intro args bk orc v obl orc' hr hobl ρ w vals hfr hb hargs;split at hr
 ·rename_i a0 a1 a2 a3 a4 a5 a6 k o n c a8 a9
  obtain⟨b,hk,e⟩:=Yad.1 hr;cases e;have e1:=hobl _ (Ycl ..);have e2:b=srfB a q ns:=hobl _ Zs;subst e2;obtain⟨v1,r1,rfl,⟨cs1,rfl,d1⟩,h3⟩:=hargs;obtain rfl:r1=[]:=h3;rw[e1]at d1;obtain⟨B,hB,rfl⟩:=(Zco j).1 d1;obtain⟨B',cs',hB',hH,hC,hro⟩:=hb _ _ hk rfl;rw[hB]at hB';cases hB';have hr:w.rangeAt B.blk B.base cs':=by
   rcases hH with ⟨_,h⟩|⟨h,_⟩
   ·exact h
   ·rw[h]at hro
    cases hro
  obtain rfl:=(Zbe ns 0).1 hC;have hlt:B.blk<w.heap.size:=Zca (hr (0*22+0) _ (Zcg a q ns 0 0 0 (by have:=ha.base.ns.1;omega) Zd));obtain⟨sp,L,hrun,hL⟩:=Zxj ha hns (ho.below hfr.below) hN j;refine(Zet (D:=DO) Zd2 sp [] (vs:=[⟨115,srfsU a q 0 ns,B.blk,B.base,srfsC a q 0 ns⟩]) [(0,srfB a q ns)] rfl rfl _ _ _ hrun hL (λv hm=>by rw[Ycd.1 hm];exact⟨hlt,hr,(Zbe ns 0).2 rfl⟩) (vals:=[.agg (bntC a q ns (some ⟨B.blk,B.base,none⟩) j).toArray]) ⟨_,_,rfl,⟨_,rfl,(Zco j).2 ⟨⟨B.blk,B.base,true,0,0⟩,rfl,rfl⟩⟩,rfl⟩).mono ?_;rintro e w' ⟨v,ρ',rfl,hden,hbl,_⟩;exact⟨v,rfl,Zcd rfl hden,hbl⟩
 ·cases hr
noncomputable def runBR (g:FuncId) (args:List SA) (j:Nat):Option (SV×List Prop×Option Value):=
 (evF Tryz.prog [cR13ChkB ha hns ho hN j] [] 24 [] g (.agg (bntU a q ns 0 j)::args) [(0,srfB a q ns)] 1 1 []).map λr=>(r.v,r.obl,r.pan)
def bntErrR (g:FuncId) (args:List SA) (V:SV) (j:Nat):Prop:=runBR ha hns ho hN g args j=some (V,obB a q ns j,none)
end
section
set_option maxRecDepth 100000
variable {a:Lns} (ha:a.opt) {q:Plc} {w0:World} (ho:OptAt w0 a q) (hN:SrfsNil a q) (k s:Int)
theorem Zzn {ns:Nat} (hns:a.ns=ns):∀j:Nat,bntErrR ha hns ho hN 12 [.one (.sym k),.one (.sym s)] (errQ 130) j
 | 0=>by unfold bntErrR;kernel_rfl
 | 1=>by unfold bntErrR;kernel_rfl
 | 2=>by unfold bntErrR;kernel_rfl
 | 3=>by unfold bntErrR;kernel_rfl
 | j+4=>by unfold bntErrR;kernel_rfl
theorem Zzo {ns:Nat} (hns:a.ns=ns):∀j:Nat,bntErrR ha hns ho hN 14 [.one (.sym k),.one (.sym s)] (errQ 130) j
 | 0=>by unfold bntErrR;kernel_rfl
 | 1=>by unfold bntErrR;kernel_rfl
 | 2=>by unfold bntErrR;kernel_rfl
 | 3=>by unfold bntErrR;kernel_rfl
 | j+4=>by unfold bntErrR;kernel_rfl
end
section
variable {a:Lns} (ha:a.opt) {ns:Nat} (hns:a.ns=ns) {w0:World} {q:Plc} (ho:OptAt w0 a q) (hN:SrfsNil a q)
def cBntR (g:FuncId) (V:SV) (hV:closedV V=true) (j:Nat) (dec:List SA->Option (List SA)) (hdec:∀{r r':List SA},dec r=some r'->∀{ρ ρ':Nm} {w:World} {vs:List Value},denAs DO ρ w r vs->denAs DO ρ' w r' vs∧∀{w:World} (ho:OptAt w a q),bntErrR ha hns ho hN g r' V j):Ctr DO Tryz.prog w0 (λ_=>False):=.plain g (λargs bk orc=>match args with
    | .agg [a0, a1, a2, a3, a4, a5, a6, .slc k o n c, a8, a9] :: r => match bk.look k, dec r with
      | some b,some _=>some (V,([a0,a1,a2,a3,a4,a5,a6,.slc k o n c,a8,a9]=bntU a q ns k j)::(b=srfB a q ns)::[],orc)
      | _,_=>none
    | _=>none)<|by
 intro args bk orc v obl orc' hr hobl ρ w vals hfr hb hargs;split at hr
 ·rename_i a0 a1 a2 a3 a4 a5 a6 k o n c a8 a9 r
  split at hr
  ·rename_i b r' hk hr'
   cases hr;have e1:=hobl _ (Ycl ..);have e2:b=srfB a q ns:=hobl _ Zs;subst e2;obtain⟨v1,r1,rfl,⟨cs1,rfl,d1⟩,h3⟩:=hargs;rw[e1]at d1;obtain⟨B,hB,rfl⟩:=(Zco j).1 d1;obtain⟨B',cs',hB',hH,hC,hro⟩:=hb _ _ hk rfl;rw[hB]at hB';cases hB';have hrg:w.rangeAt B.blk B.base cs':=by
    rcases hH with ⟨_,h⟩|⟨h,_⟩
    ·exact h
    ·rw[h]at hro
     cases hro
   obtain rfl:=(Zbe ns 0).1 hC;have hlt:B.blk<w.heap.size:=Zca (hrg (0*22+0) _ (Zcg a q ns 0 0 0 (by have:=ha.base.ns.1;omega) Zd));obtain⟨hd',hrun⟩:=hdec hr' (ρ':=nmV [⟨115,srfsU a q 0 ns,B.blk,B.base,srfsC a q 0 ns⟩]) h3;have hrun:=hrun (ho.below hfr.below);unfold bntErrR runBR at hrun;obtain⟨x,hx,he⟩:=Yad.1 hrun;simp only[Yco]at he;obtain⟨e1,e2,hpan⟩:=he;have hL:AllP x.obl:=by rw[e2];exact⟨rfl,rfl,trivial⟩
   refine(Zet (D:=DO) Zd2 [cR13ChkB ha hns (ho.below hfr.below) hN j] [] (vs:=[⟨115,srfsU a q 0 ns,B.blk,B.base,srfsC a q 0 ns⟩]) [(0,srfB a q ns)] rfl rfl x.v x.obl x.wr (Zm2 hx hpan) hL (λv hm=>by rw[Ycd.1 hm];exact⟨hlt,hrg,(Zbe ns 0).2 rfl⟩) (vals:=.agg (bntC a q ns (some ⟨B.blk,B.base,none⟩) j).toArray::r1) ⟨_,_,rfl,⟨_,rfl,(Zco j).2 ⟨⟨B.blk,B.base,true,0,0⟩,rfl,rfl⟩⟩,hd'⟩).mono ?_;rintro e w' ⟨v,ρ',rfl,hden,hbl,_⟩;rw[e1]at hden;exact⟨v,rfl,Zcd hV hden,hbl⟩
  ·cases hr
 ·cases hr
def cRIndexB (j:Nat):Ctr DO Tryz.prog w0 (λ_=>False):=cBntR ha hns ho hN 12 (errQ 130) rfl j dec2<|by
 intro r r' h ρ ρ' w vs hd;obtain⟨⟨k,s,rfl⟩,h2⟩:=Zjx (ρ':=ρ') h hd;exact⟨h2,λho=>Zzn ha ho hN k s hns j⟩
def cRPowerB (j:Nat):Ctr DO Tryz.prog w0 (λ_=>False):=cBntR ha hns ho hN 14 (errQ 130) rfl j dec2<|by
 intro r r' h ρ ρ' w vs hd;obtain⟨⟨k,s,rfl⟩,h2⟩:=Zjx (ρ':=ρ') h hd;exact⟨h2,λho=>Zzo ha ho hN k s hns j⟩
end
end
end Go.Proofs.W
