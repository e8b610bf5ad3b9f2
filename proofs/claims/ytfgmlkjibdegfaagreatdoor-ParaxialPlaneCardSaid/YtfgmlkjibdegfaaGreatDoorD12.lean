/- The drafted optics of chapter 13: what it is and that it is valid. Part 12 of 19. No condition beside the row. -/
import Derived.Test.YtfgmlkjibdegfaaGreatDoorD11
set_option linter.unusedVariables false
set_option linter.unusedSimpArgs false
set_option maxRecDepth 100000
set_option maxHeartbeats 4000000
namespace Go.Proofs.W
open Go.RowKit Go.Mono
structure ConfsAt (w:World) (p:Option Addr) (c n:Nat) (nm:Nat->ByteArray) (cs:Nat->List Chg) (pp:Nat->Option Addr) (cc:Nat->Nat):Prop where
 row:RdC w p n c 2 (λi j=>if j=0 then .string (nm i) else .slice (pp i) (cs i).length (cc i))
 chg:∀i,i<n->ChgsAt w (pp i) (cc i) (cs i)
theorem ConfsAt.below {w w':World} {p:Option Addr} {c n:Nat} {nm:Nat->ByteArray} {cs:Nat->List Chg} {pp:Nat->Option Addr} {cc:Nat->Nat} (h:ConfsAt w p c n nm cs pp cc) (hB:Below w.heap.size w w'):ConfsAt w' p c n nm cs pp cc:=
 ⟨h.row.below hB,λi hi=>(h.chg i hi).below hB⟩
structure ConfsOk (l:List Srf) (n:Nat) (nm:Nat->ByteArray) (cs:Nat->List Chg):Prop where
 most:n<=4
 name:∀i,i<n->NameOk (nm i)
 diff:∀i k,k<i->i<n->nm k≠nm i
 len:∀i,i<n->(cs i).length<=12
 chg:∀i,i<n->∀k,k<(cs i).length->(cAt (cs i) k).1<l.length∧In 32768000 (cAt (cs i) k).2.2
 made:∀i,i<n->madeS l (cs i)≠none
theorem Zrs {a b:ByteArray} (h:a≠b):(a.toList==b.toList)=false:=beq_eq_false_iff_ne.2 λe=>h (by
 have e':a.data.toList=b.data.toList:=by simpa[Ycs]using e
 cases a;cases b;simp only[Ydw];exact Yfo e')
theorem Zi8 (nm0:ByteArray) (di pu st pr:Int) (pf:Option Addr) (nf cf:Nat) (pw:Option Addr) (nw cw:Nat) (l:List Srf) (hl:l.length<=16) (hs:∀s∈l,s.ok) (p:Option Addr) (c:Nat) (cp:Nat->Option Addr) (cl:Nat->Nat) (n:Nat) (nm:Nat->ByteArray) (cs:Nat->List Chg)
  (hk:ConfsOk l n nm cs) (pc:Option Addr) (cc:Nat) (pp:Nat->Option Addr) (cq:Nat->Nat) (w:World) (h:SrfsAt w p c l cp cl) (hc:ConfsAt w pc cc n nm cs pp cq) :
  Calls Tryz.prog 132 #[.agg (lcs nm0 di pu st pr pf nf cf pw nw cw p l.length c pc n cc)] w λe w'=>e=.returned (.bool true)∧Below w.heap.size w w':=by
 obtain⟨hcap,_,hx⟩:=hc.row;have hmade:=λi (hi:i<n) W (hW:Below w.heap.size w W)=>Zha l hl hs p c cp cl (cs i) (hk.len i hi) (hk.chg i hi) (pp i) (cq i) W (h.below hW) ((hc.chg i hi).below hW);have hn4:=hk.most;have hnmk:=λi (hi:i<n) W=>Zg7 (nm i) (hk.name i hi) W;have hdf:=hk.diff;have hmd:=hk.made;clear hk hc h;replace hdf:=Yah hdf;replace hmd:=Yah hmd;unfold lcs;go_enter Tryz.func132,Tryz.ntmps132
 go_wp2_with fail
 refine Zbo λW hB hsz bS=>?_;go_loopw [3] (λx wr=>∃i:Nat,i<=n∧x=.int .i64 (i:Int)∧Below W.heap.size W wr) (λx _=>(n-intOf x).toNat)
 case atStart=>exact⟨0,Zo,rfl,Yae _ _⟩
 case round=>
  obtain⟨i,hi,rfl,hBr⟩:=hrel;have hBw:=Zaa hB hBr;have bSr:=bS.below hBr;have cS:=bSr.cell;have lS:=bSr.lt;by_cases hin:i<n
  ·obtain⟨b,off,rfl,hb,hcell⟩:=hx Zo
   have hce:=λV (hV:Below w.heap.size w V) k (hk:k<n) j (hj:j<2)=>(hV.cell (p:=⟨b,off+k*2+j,none⟩) hb).trans (hcell k j hk hj);have hbW:=Yaf hb hBw.size;have x0:wr.cell? ⟨b,off+i*2,none⟩=some (.string (nm i)):=by simpa using hce wr hBw i hin 0 Zd
   have y0:wr.cell? ⟨b,off+i*2+1,none⟩=some (.slice (pp i) (cs i).length (cq i)):=by simpa using hce wr hBw i hin 1 Zd
   have hi':(i:Int)<n:=Zo;have qn:=hnmk i hin;clear hx hcell hnmk;go_wp2_with fail
   refine Zbv λW2 hB2 hs2 bF=>?_;have hBw2:=Zaa hBw hB2;have bS2:=bSr.below hB2;have cS2:=bS2.cell;have lS2:=bS2.lt;have cF:=bF.cell;have lF:=bF.lt;have hb2:=Yaf hbW hB2.size;have xk:∀k,k<n->W2.cell? ⟨b,off+k*2,none⟩=some (.string (nm k)):=λk hk=>by simpa using hce W2 hBw2 k hk 0 Zd
   clear cS lS x0 y0 hce hbW;refine(qn W2).mono ?_;rintro e w5 ⟨rfl,h5⟩;rw[h5];clear h5 w5;go_wp2_with fail
   go_loopw [5] (λx w6=>∃j:Nat,j<=i∧x=.int .i64 (j:Int)∧∃q,w6=W2.drewN q) (λx _=>(i-intOf x).toNat)
   case atStart=>exact⟨0,Zo,rfl,0,rfl⟩
   case round=>
    obtain⟨j,hj,rfl,q,rfl⟩:=hrel;by_cases hji:j<i
    ·have xj:=xk j Zo
     have hji':(j:Int)<i:=Zo;have hjn':(j:Int)<n:=Zo;have hne:=Zrs (hdf.out i j hji hin);clear xk hmade;generalize nm j=nj at *;generalize nm i=ni at *;go_wp2
     go_quiet (fail)
     go_wp2
     go_roundw
     case rel=>exact⟨j+1,Zo,Zs,_,rfl⟩
     case measure=>simp[intOf];omega
    ·obtain rfl:j=i:=by omega
     have hBq:Below w.heap.size w (W2.drewN q):=below_drewN hBw2 q;have hm:=hmade j hin;have hmj:=hmd.out j hin;clear xk hmade;go_wp2_with fail
     refine(hm _ hBq).mono ?_;rintro e W4 ⟨hb4,_,hyes⟩;obtain⟨m,hmm⟩:=Ygb.1 hmj;obtain⟨p5,c5,cp5,cl5,rfl,_⟩:=hyes m hmm;have hB4:Below W.heap.size W W4:=Zaa (below_drewN (Zaa hBr hB2) q) hb4;go_wp2
     go_roundw
     case rel=>exact⟨j+1,Zo,Zs,hB4⟩
     case measure=>simp[intOf];omega
  ·obtain rfl:i=n:=by omega
   have hn':(i:Int)<=4:=Zo;clear hx hmade hnmk;go_wp2
   go_ret
   exact⟨rfl,hBw⟩
end Go.Proofs.W
namespace Go.Mono
structure Len where
 nm:ByteArray
 di:Int
 pu:Int
 st:Nat
 pr:Int
 nf:Nat
 X:Nat->Int
 Y:Nat->Int
 nw:Nat
 L:Nat->Int
 G:Nat->Int
 l:List Srf
 nc:Nat
 nms:Nat->ByteArray
 css:Nat->List Chg
structure LenP where
 pf:Option Addr
 cf:Nat
 pw:Option Addr
 cw:Nat
 p:Option Addr
 c:Nat
 cp:Nat->Option Addr
 cl:Nat->Nat
 pc:Option Addr
 cc:Nat
 pp:Nat->Option Addr
 cq:Nat->Nat
end Go.Mono
namespace Go.Proofs.W
open Go.RowKit Go.Mono
def lenC (a:Len) (q:LenP):Array Value:=lcs a.nm a.di a.pu (a.st:Int) a.pr q.pf a.nf q.cf q.pw a.nw q.cw q.p a.l.length q.c q.pc a.nc q.cc
structure LenAt (w:World) (a:Len) (q:LenP):Prop where
 fields:RdC w q.pf a.nf q.cf 2 (λi j=>if j=0 then .int .i64 (a.X i) else .int .i64 (a.Y i))
 waves:RdC w q.pw a.nw q.cw 2 (λi j=>if j=0 then .int .i64 (a.L i) else .int .i64 (a.G i))
 srfs:SrfsAt w q.p q.c a.l q.cp q.cl
 confs:ConfsAt w q.pc q.cc a.nc a.nms a.css q.pp q.cq
theorem LenAt.below {w w':World} {a:Len} {q:LenP} (h:LenAt w a q) (hB:Below w.heap.size w w'):LenAt w' a q:=
 ⟨h.fields.below hB,h.waves.below hB,h.srfs.below hB,h.confs.below hB⟩
structure LenOk (a:Len):Prop where
 name:NameOk a.nm
 di:0<=a.di∧a.di<=1000000000
 pu:1<=a.pu∧a.pu<=1000000000
 nf:1<=a.nf∧a.nf<=5
 fr:∀i,i<a.nf->In (if a.di=0 then 1000000 else 1000000000) (a.X i)∧In (if a.di=0 then 1000000 else 1000000000) (a.Y i)
 fd:∀i k,k<i->i<a.nf->¬(a.X i=a.X k∧a.Y i=a.Y k)
 nw:1<=a.nw∧a.nw<=5
 pr:0<=a.pr∧a.pr<=a.nw-1
 wl:∀i,i<a.nw->300000<=a.L i∧a.L i<=2500000
 wg:∀i,i<a.nw->1<=a.G i∧a.G i<=100
 ws:∀i,i+1<a.nw->a.L i<a.L (i+1)
 ns:2<=a.l.length∧a.l.length<=16
 sok:∀s∈a.l,s.ok
 st:a.st+2<=a.l.length
 stop:(sAt a.l a.st).kind≠3
 image:(sAt a.l (a.l.length-1)).kind=1∧(sAt a.l (a.l.length-1)).glass = {data:=#[]}∧(sAt a.l (a.l.length-1)).thick=0∧(sAt a.l (a.l.length-1)).order=0∧(sAt a.l (a.l.length-1)).co=[]
 confs:ConfsOk a.l a.nc a.nms a.css
theorem Zhb (a:Len) (ha:LenOk a) (q:LenP) (w:World) (h:LenAt w a q) :
  Calls Tryz.prog 84 #[.agg (lenC a q)] w λe w'=>e=.returned (.bool true)∧Below w.heap.size w w':=by
 have q1:=λW=>Zg7 a.nm ha.name W;have q2:=λW=>Za9 a.di 0 1000000000 ha.di.1 ha.di.2 W;have q3:=λW=>Za9 a.pu 1 1000000000 ha.pu.1 ha.pu.2 W;have q4:=λW (hW:Below w.heap.size w W)=>Zkx a.nm a.di a.pu a.st a.pr q.pf a.nf q.cf q.pw a.nw q.cw q.p a.l.length q.c q.pc a.nc q.cc a.X a.Y ha.nf _ rfl ha.fr ha.fd W (h.fields.below hW);have q5:=λW (hW:Below w.heap.size w W)=>Zl8 a.nm a.di a.pu a.st a.pr q.pf a.nf q.cf q.pw a.nw q.cw q.p a.l.length q.c q.pc a.nc q.cc a.L a.G ha.nw ha.pr ha.wl ha.wg ha.ws W (h.waves.below hW);have q6:=λW (hW:Below w.heap.size w W)=>Zhr a.nm a.di a.pu a.pr a.st q.pf a.nf q.cf q.pw a.nw q.cw q.pc a.nc q.cc a.l ha.ns ha.sok ha.st ha.stop ha.image q.p q.c q.cp q.cl W (h.srfs.below hW);have q7:=λW (hW:Below w.heap.size w W)=>Zi8 a.nm a.di a.pu a.st a.pr q.pf a.nf q.cf q.pw a.nw q.cw a.l ha.ns.2 ha.sok q.p q.c q.cp q.cl a.nc a.nms a.css ha.confs q.pc q.cc q.pp q.cq W (h.srfs.below hW) (h.confs.below hW);have hz:(Tryz.prog.info? 42).map (·.size)=some (lenC a q).size:=Zk;have g0:(lenC a q)[0]? = some (.string a.nm):=rfl;have g1:(lenC a q)[1]? = some (.int .i64 a.di):=rfl;have g2:(lenC a q)[2]? = some (.int .i64 a.pu):=rfl;clear h ha;change ∀W,Below w.heap.size w W->Calls Tryz.prog 129 #[.agg (lenC a q)] W _ at q4;change ∀W,Below w.heap.size w W->Calls Tryz.prog 130 #[.agg (lenC a q)] W _ at q5;change ∀W,Below w.heap.size w W->Calls Tryz.prog 131 #[.agg (lenC a q)] W _ at q6;change ∀W,Below w.heap.size w W->Calls Tryz.prog 132 #[.agg (lenC a q)] W _ at q7;generalize lenC a q=A at *;go_enter Tryz.func84,Tryz.ntmps84
 go_wp2_with fail
 refine Zbv λW hB hsz bS=>?_;have c0:=(bS.cell 0).trans g0;have c1:=(bS.cell 1).trans g1;have c2:=(bS.cell 2).trans g2;have lS:=bS.lt;have hzl:(Tryz.prog.info? 42).map (·.size)=some A.toList.length:=hz;refine(q1 W).mono ?_;rintro e w5 ⟨rfl,h5⟩;rw[h5];clear h5 w5;go_wp2_with first|(go_at_call 128;(first|with_reducible refine(q2 _).mono ?_|with_reducible refine(q3 _).mono ?_);rintro e w5 ⟨rfl,h5⟩;rw[h5];clear h5 w5)|(refine Zac rfl 42 (.tmp 1) rfl w.heap.size rfl 42 A bS _ Tryz.underlying42 rfl hz ?_)
 refine(q4 W hB).mono ?_;rintro e W1 ⟨rfl,hb1⟩;have hB1:=Zaa hB hb1;have bS1:=bS.below hb1;clear c0 c1 c2 q1 q2 q3 q4;go_wp2_with (refine Zbe (by rfl) 42 (.tmp 1) rfl w.heap.size 0 rfl A.toList _ bS1.range Tryz.underlying42 rfl hzl ?_)
 refine(q5 W1 hB1).mono ?_;rintro e W2 ⟨rfl,hb2⟩;have hB2:=Zaa hB1 hb2;have bS2:=bS1.below hb2;go_wp2_with (refine Zbe (by rfl) 42 (.tmp 1) rfl w.heap.size 0 rfl A.toList _ bS2.range Tryz.underlying42 rfl hzl ?_)
 refine(q6 W2 hB2).mono ?_;rintro e W3 ⟨rfl,hb3⟩;have hB3:=Zaa hB2 hb3;have bS3:=bS2.below hb3;go_wp2_with (refine Zbe (by rfl) 42 (.tmp 1) rfl w.heap.size 0 rfl A.toList _ bS3.range Tryz.underlying42 rfl hzl ?_)
 refine(q7 W3 hB3).mono ?_;rintro e W4 ⟨rfl,hb4⟩;go_wp2
 go_ret
 exact⟨rfl,Zaa hB3 hb4⟩
end Go.Proofs.W
