/- The drafted optics of chapter 13: what it is and that it is valid. Part 10 of 16. No condition beside the row. -/
import Derived.Test.YtgkmjekkefmejaaGreatDoorA02
import Derived.Test.YtgkmjekkefmejaaGreatDoorA15
import Derived.Test.YtgkmjekkefmejaaGreatDoorD01
import Derived.Test.YtgkmjekkefmejaaGreatDoorD09
set_option linter.unusedVariables false
set_option linter.unusedSimpArgs false
set_option maxRecDepth 100000
set_option maxHeartbeats 4000000
namespace Go.Proofs.W
open Go.RowKit Go.Mono
structure ConfsAt (w:World) (p:Option Addr) (c n:Nat) (nm:Nat->ByteArray) (cs:Nat->List Chg) (pp:Nat->Option Addr) (cc:Nat->Nat):Prop where
 row:RdC w p n c 2 (λi j=>if j=0 then .string (nm i) else .slice (pp i) (cs i).length (cc i))
 chg:∀i,i<n->ChgsAt w (pp i) (cc i) (cs i)
theorem ConfsAt.below {w w':World} {p:Option Addr} {c n:Nat} {nm:Nat->ByteArray} {cs:Nat->List Chg} {pp:Nat->Option Addr} {cc:Nat->Nat} (h:ConfsAt w p c n nm cs pp cc) (hB:Below w.heap.size w w'):ConfsAt w' p c n nm cs pp cc:=
 ⟨h.row.below hB,λi hi=>(h.chg i hi).below hB⟩
structure ConfsOk (l:List Srf) (n:Nat) (nm:Nat->ByteArray) (cs:Nat->List Chg):Prop where
 most:n<=4
 name:∀i,i<n->NameOk (nm i)
 diff:∀i k,k<i->i<n->nm k≠nm i
 len:∀i,i<n->(cs i).length<=12
 chg:∀i,i<n->∀k,k<(cs i).length->(cAt (cs i) k).1<l.length∧In 32768000 (cAt (cs i) k).2.2
 made:∀i,i<n->madeS l (cs i)≠none
theorem Zta {a b:ByteArray} (h:a≠b):(a.toList==b.toList)=false:=beq_eq_false_iff_ne.2 λe=>h (by
 have e':a.data.toList=b.data.toList:=by simpa[Ycs]using e
 cases a;cases b;simp only[Ydw];exact Yfo e')
theorem Zj7 (nm0:ByteArray) (di pu st pr:Int) (pf:Option Addr) (nf cf:Nat) (pw:Option Addr) (nw cw:Nat) (l:List Srf) (hl:l.length<=16) (hs:∀s∈l,s.ok) (p:Option Addr) (c:Nat) (cp:Nat->Option Addr) (cl:Nat->Nat) (n:Nat) (nm:Nat->ByteArray) (cs:Nat->List Chg)
  (hk:ConfsOk l n nm cs) (pc:Option Addr) (cc:Nat) (pp:Nat->Option Addr) (cq:Nat->Nat) (w:World) (h:SrfsAt w p c l cp cl) (hc:ConfsAt w pc cc n nm cs pp cq) :
  Calls Tryz.prog 178 #[.agg (lcs nm0 di pu st pr pf nf cf pw nw cw p l.length c pc n cc)] w λe w'=>e=.returned (.bool true)∧Below w.heap.size w w':=by
 obtain⟨hcap,_,hx⟩:=hc.row;have hmade:=λi (hi:i<n) W (hW:Below w.heap.size w W)=>Zhm l hl hs p c cp cl (cs i) (hk.len i hi) (hk.chg i hi) (pp i) (cq i) W (h.below hW) ((hc.chg i hi).below hW);have hn4:=hk.most;have hnmk:=λi (hi:i<n) W=>Zhj (nm i) (hk.name i hi) W;have hdf:=hk.diff;have hmd:=hk.made;clear hk hc h;replace hdf:=Yah hdf;replace hmd:=Yah hmd;unfold lcs;go_enter Tryz.func178,Tryz.ntmps178
 go_wp2_with fail
 refine Zb3 λW hB hsz bS=>?_;go_loopw [3] (λx wr=>∃i:Nat,i<=n∧x=.int .i64 (i:Int)∧Below W.heap.size W wr) (λx _=>(n-intOf x).toNat)
 case atStart=>exact⟨0,Zo,rfl,Yae _ _⟩
 case round=>
  obtain⟨i,hi,rfl,hBr⟩:=hrel;have hBw:=Zaa hB hBr;have bSr:=bS.below hBr;have cS:=bSr.cell;have lS:=bSr.lt;by_cases hin:i<n
  ·obtain⟨b,off,rfl,hb,hcell⟩:=hx Zo
   have hce:=λV (hV:Below w.heap.size w V) k (hk:k<n) j (hj:j<2)=>(hV.cell (p:=⟨b,off+k*2+j,none⟩) hb).trans (hcell k j hk hj);have hbW:=Yaf hb hBw.size;have x0:wr.cell? ⟨b,off+i*2,none⟩=some (.string (nm i)):=by simpa using hce wr hBw i hin 0 Zd
   have y0:wr.cell? ⟨b,off+i*2+1,none⟩=some (.slice (pp i) (cs i).length (cq i)):=by simpa using hce wr hBw i hin 1 Zd
   have hi':(i:Int)<n:=Zo;have qn:=hnmk i hin;clear hx hcell hnmk;go_wp2_with fail
   refine Zbz λW2 hB2 hs2 bF=>?_;have hBw2:=Zaa hBw hB2;have bS2:=bSr.below hB2;have cS2:=bS2.cell;have lS2:=bS2.lt;have cF:=bF.cell;have lF:=bF.lt;have hb2:=Yaf hbW hB2.size;have xk:∀k,k<n->W2.cell? ⟨b,off+k*2,none⟩=some (.string (nm k)):=λk hk=>by simpa using hce W2 hBw2 k hk 0 Zd
   clear cS lS x0 y0 hce hbW;refine(qn W2).mono ?_;rintro e w5 ⟨rfl,h5⟩;rw[h5];clear h5 w5;go_wp2_with fail
   go_loopw [5] (λx w6=>∃j:Nat,j<=i∧x=.int .i64 (j:Int)∧∃q,w6=W2.drewN q) (λx _=>(i-intOf x).toNat)
   case atStart=>exact⟨0,Zo,rfl,0,rfl⟩
   case round=>
    obtain⟨j,hj,rfl,q,rfl⟩:=hrel;by_cases hji:j<i
    ·have xj:=xk j Zo
     have hji':(j:Int)<i:=Zo;have hjn':(j:Int)<n:=Zo;have hne:=Zta (hdf.out i j hji hin);clear xk hmade;generalize nm j=nj at *;generalize nm i=ni at *;go_wp2
     go_quiet (fail)
     go_wp2
     go_roundw
     case rel=>exact⟨j+1,Zo,Zs,_,rfl⟩
     case measure=>simp[intOf];omega
    ·obtain rfl:j=i:=by omega
     have hBq:Below w.heap.size w (W2.drewN q):=below_drewN hBw2 q;have hm:=hmade j hin;have hmj:=hmd.out j hin;clear xk hmade;go_wp2_with fail
     refine(hm _ hBq).mono ?_;rintro e W4 ⟨hb4,_,hyes⟩;obtain⟨m,hmm⟩:=Ygb.1 hmj;obtain⟨p5,c5,cp5,cl5,rfl,_⟩:=hyes m hmm;have hB4:Below W.heap.size W W4:=Zaa (below_drewN (Zaa hBr hB2) q) hb4;go_wp2
     go_roundw
     case rel=>exact⟨j+1,Zo,Zs,hB4⟩
     case measure=>simp[intOf];omega
  ·obtain rfl:i=n:=by omega
   have hn':(i:Int)<=4:=Zo;clear hx hmade hnmk;go_wp2
   go_ret
   exact⟨rfl,hBw⟩
end Go.Proofs.W
namespace Go.Mono
structure Len where
 nm:ByteArray
 di:Int
 pu:Int
 st:Nat
 pr:Int
 nf:Nat
 X:Nat->Int
 Y:Nat->Int
 nw:Nat
 L:Nat->Int
 G:Nat->Int
 l:List Srf
 nc:Nat
 nms:Nat->ByteArray
 css:Nat->List Chg
structure LenP where
 pf:Option Addr
 cf:Nat
 pw:Option Addr
 cw:Nat
 p:Option Addr
 c:Nat
 cp:Nat->Option Addr
 cl:Nat->Nat
 pc:Option Addr
 cc:Nat
 pp:Nat->Option Addr
 cq:Nat->Nat
end Go.Mono
namespace Go.Proofs.W
open Go.RowKit Go.Mono
def lenC (a:Len) (q:LenP):Array Value:=lcs a.nm a.di a.pu (a.st:Int) a.pr q.pf a.nf q.cf q.pw a.nw q.cw q.p a.l.length q.c q.pc a.nc q.cc
structure LenAt (w:World) (a:Len) (q:LenP):Prop where
 fields:RdC w q.pf a.nf q.cf 2 (λi j=>if j=0 then .int .i64 (a.X i) else .int .i64 (a.Y i))
 waves:RdC w q.pw a.nw q.cw 2 (λi j=>if j=0 then .int .i64 (a.L i) else .int .i64 (a.G i))
 srfs:SrfsAt w q.p q.c a.l q.cp q.cl
 confs:ConfsAt w q.pc q.cc a.nc a.nms a.css q.pp q.cq
theorem LenAt.below {w w':World} {a:Len} {q:LenP} (h:LenAt w a q) (hB:Below w.heap.size w w'):LenAt w' a q:=
 ⟨h.fields.below hB,h.waves.below hB,h.srfs.below hB,h.confs.below hB⟩
structure LenOk (a:Len):Prop where
 name:NameOk a.nm
 di:0<=a.di∧a.di<=1000000000
 pu:1<=a.pu∧a.pu<=1000000000
 nf:1<=a.nf∧a.nf<=5
 fr:∀i,i<a.nf->In (if a.di=0 then 1000000 else 1000000000) (a.X i)∧In (if a.di=0 then 1000000 else 1000000000) (a.Y i)
 fd:∀i k,k<i->i<a.nf->¬(a.X i=a.X k∧a.Y i=a.Y k)
 nw:1<=a.nw∧a.nw<=5
 pr:0<=a.pr∧a.pr<=a.nw-1
 wl:∀i,i<a.nw->300000<=a.L i∧a.L i<=2500000
 wg:∀i,i<a.nw->1<=a.G i∧a.G i<=100
 ws:∀i,i+1<a.nw->a.L i<a.L (i+1)
 ns:2<=a.l.length∧a.l.length<=16
 sok:∀s∈a.l,s.ok
 st:a.st+2<=a.l.length
 stop:(sAt a.l a.st).kind≠3
 image:(sAt a.l (a.l.length-1)).kind=1∧(sAt a.l (a.l.length-1)).glass = {data:=#[]}∧(sAt a.l (a.l.length-1)).thick=0∧(sAt a.l (a.l.length-1)).order=0∧(sAt a.l (a.l.length-1)).co=[]
 confs:ConfsOk a.l a.nc a.nms a.css
theorem Zhn (a:Len) (ha:LenOk a) (q:LenP) (w:World) (h:LenAt w a q) :
  Calls Tryz.prog 134 #[.agg (lenC a q)] w λe w'=>e=.returned (.bool true)∧Below w.heap.size w w':=by
 have q1:=λW=>Zhj a.nm ha.name W;have q2:=λW=>Za5 a.di 0 1000000000 ha.di.1 ha.di.2 W;have q3:=λW=>Za5 a.pu 1 1000000000 ha.pu.1 ha.pu.2 W;have q4:=λW (hW:Below w.heap.size w W)=>Zl2 a.nm a.di a.pu a.st a.pr q.pf a.nf q.cf q.pw a.nw q.cw q.p a.l.length q.c q.pc a.nc q.cc a.X a.Y ha.nf _ rfl ha.fr ha.fd W (h.fields.below hW);have q5:=λW (hW:Below w.heap.size w W)=>Zng a.nm a.di a.pu a.st a.pr q.pf a.nf q.cf q.pw a.nw q.cw q.p a.l.length q.c q.pc a.nc q.cc a.L a.G ha.nw ha.pr ha.wl ha.wg ha.ws W (h.waves.below hW);have q6:=λW (hW:Below w.heap.size w W)=>Zib a.nm a.di a.pu a.pr a.st q.pf a.nf q.cf q.pw a.nw q.cw q.pc a.nc q.cc a.l ha.ns ha.sok ha.st ha.stop ha.image q.p q.c q.cp q.cl W (h.srfs.below hW);have q7:=λW (hW:Below w.heap.size w W)=>Zj7 a.nm a.di a.pu a.st a.pr q.pf a.nf q.cf q.pw a.nw q.cw a.l ha.ns.2 ha.sok q.p q.c q.cp q.cl a.nc a.nms a.css ha.confs q.pc q.cc q.pp q.cq W (h.srfs.below hW) (h.confs.below hW);have hz:(Tryz.prog.info? 37).map (·.size)=some (lenC a q).size:=Zk;have g0:(lenC a q)[0]? = some (.string a.nm):=rfl;have g1:(lenC a q)[1]? = some (.int .i64 a.di):=rfl;have g2:(lenC a q)[2]? = some (.int .i64 a.pu):=rfl;clear h ha;change ∀W,Below w.heap.size w W->Calls Tryz.prog 175 #[.agg (lenC a q)] W _ at q4;change ∀W,Below w.heap.size w W->Calls Tryz.prog 176 #[.agg (lenC a q)] W _ at q5;change ∀W,Below w.heap.size w W->Calls Tryz.prog 177 #[.agg (lenC a q)] W _ at q6;change ∀W,Below w.heap.size w W->Calls Tryz.prog 178 #[.agg (lenC a q)] W _ at q7;generalize lenC a q=A at *;go_enter Tryz.func134,Tryz.ntmps134
 go_wp2_with fail
 refine Zbz λW hB hsz bS=>?_;have c0:=(bS.cell 0).trans g0;have c1:=(bS.cell 1).trans g1;have c2:=(bS.cell 2).trans g2;have lS:=bS.lt;have hzl:(Tryz.prog.info? 37).map (·.size)=some A.toList.length:=hz;refine(q1 W).mono ?_;rintro e w5 ⟨rfl,h5⟩;rw[h5];clear h5 w5;go_wp2_with first|(go_at_call 174;(first|with_reducible refine(q2 _).mono ?_|with_reducible refine(q3 _).mono ?_);rintro e w5 ⟨rfl,h5⟩;rw[h5];clear h5 w5)|(refine Zac rfl 37 (.tmp 1) rfl w.heap.size rfl 37 A bS _ Tryz.underlying37 rfl hz ?_)
 refine(q4 W hB).mono ?_;rintro e W1 ⟨rfl,hb1⟩;have hB1:=Zaa hB hb1;have bS1:=bS.below hb1;clear c0 c1 c2 q1 q2 q3 q4;go_wp2_with (refine Zbe (by rfl) 37 (.tmp 1) rfl w.heap.size 0 rfl A.toList _ bS1.range Tryz.underlying37 rfl hzl ?_)
 refine(q5 W1 hB1).mono ?_;rintro e W2 ⟨rfl,hb2⟩;have hB2:=Zaa hB1 hb2;have bS2:=bS1.below hb2;go_wp2_with (refine Zbe (by rfl) 37 (.tmp 1) rfl w.heap.size 0 rfl A.toList _ bS2.range Tryz.underlying37 rfl hzl ?_)
 refine(q6 W2 hB2).mono ?_;rintro e W3 ⟨rfl,hb3⟩;have hB3:=Zaa hB2 hb3;have bS3:=bS2.below hb3;go_wp2_with (refine Zbe (by rfl) 37 (.tmp 1) rfl w.heap.size 0 rfl A.toList _ bS3.range Tryz.underlying37 rfl hzl ?_)
 refine(q7 W3 hB3).mono ?_;rintro e W4 ⟨rfl,hb4⟩;go_wp2
 go_ret
 exact⟨rfl,Zaa hB3 hb4⟩
end Go.Proofs.W
namespace Go.Mono
open Go.RowKit
section
section
variable {P:Program} {ops:Array Oper} {Q:Exit->Act->World->Prop} {md:Region.Mode} {S:World->Prop}
theorem Zic (B:Nat) (T:TypeId) (i:Nat) {o:Oper} (hi:ops[i]? = some o) (hg:o.guard=none) (hd:o.dst=none) {ty:TypeId} {x y:Operand} (ho:o.op=.store ty x y) (off:Nat) (v:Value) (cs new:Array Value) {a:Act} {fuel:Nat} {listed:Array Bool} {w:World}
  (hr:Region.ready md ops listed=[i]) (hS:∀w u,S w->S (w.setCell ⟨B,off,none⟩ u)) (hx:a.eval x=.pointer (some ⟨B,off,none⟩)) (hy:a.eval y=v)
  (hrun:∀w:World,(w.cell? ⟨B,off,none⟩).isSome=true->w.frozen? ⟨B,off,none⟩=false->(Instr.storeAt ty (.pointer (some ⟨B,off,none⟩)) v).run P w=.ok () (w.setCell ⟨B,off,none⟩ v))
  (hb:Box w B T cs) (hs:S w) (hoff:off<cs.size) (hnew:cs.setIfInBounds off v=new)
  (h:Box (w.setCell ⟨B,off,none⟩ v) B T new->S (w.setCell ⟨B,off,none⟩ v)->wpAnyH P md ops Q S fuel (listed.setIfInBounds i true) a (w.setCell ⟨B,off,none⟩ v)):wpAnyH P md ops Q S (fuel+1) listed a w:=by
 refine wpAnyH_all hr Zs λj hj=>?_;obtain rfl:j=i:=by simpa using hj
 exact Zie j hi hg hd ho off v hx hy hrun hb hoff ⟨hS _ _ hs,h (hnew▸hb.set off v) (hS _ _ hs)⟩
end
noncomputable def Len.app (a:Len) (k:Int):List Srf:=if k<0 then a.l else(madeS a.l (a.css k.toNat)).getD []
end
end Go.Mono
namespace Go.Proofs.W
open Go.RowKit Go.Mono
theorem CoatOwn.keep {w w':World} {base:Nat} {p:Option Addr} {c:Nat} {l:List Flm} {R:Nat} {T:TypeId} {A:Array Value} (h:CoatOwn w base p c l) (b:Box w R T A) (hT:T≠270) (hk:KeepBut R w.heap.size w w'):CoatOwn w' base p c l:=
 ⟨Zay h.1 b hT hk,h.2⟩
theorem SrfsOwn.keep {w w':World} {base:Nat} {p:Option Addr} {c:Nat} {l:List Srf} {i:Nat} {cp:Nat->Option Addr} {cl:Nat->Nat} {R:Nat} {T:TypeId} {A:Array Value} (h:SrfsOwn w base p c l i cp cl) (b:Box w R T A) (hT:T≠85∧T≠270) (hk:KeepBut R w.heap.size w w'):SrfsOwn w' base p c l i cp cl:=
 ⟨Zay h.row b hT.1 hk,h.nil,λk hi=>⟨Zay (h.coat k hi).1 b hT.2 hk,(h.coat k hi).2⟩⟩
theorem Znh (B off:Nat) (p:Option Addr) (n c:Nat) (w:World) (hc:(w.cell? ⟨B,off,none⟩).isSome=true) (hf:w.frozen? ⟨B,off,none⟩=false):(Instr.storeAt 34 (.pointer (some ⟨B,off,none⟩)) (.slice p n c)).run Tryz.prog w=.ok () (w.setCell ⟨B,off,none⟩ (.slice p n c)):=by
 obtain⟨x,hx⟩:=Yct.1 hc;clear hc;go_simp
theorem Zj8 (nm:ByteArray) (di pu st pr:Int) (pf:Option Addr) (nf cf:Nat) (pw:Option Addr) (nw cw:Nat) (ps:Option Addr) (ns cs:Nat) (pc:Option Addr) (nc cc:Nat):(lcs nm di pu st pr pf nf cf pw nw cw ps ns cs pc nc cc).all (·.oneCell')=true:=by
 simp[lcs,Value.oneCell']
def appC (a:Len) (q:LenP) (p:Option Addr) (n c:Nat):Array Value:=lcs a.nm a.di a.pu (a.st:Int) a.pr q.pf a.nf q.cf q.pw a.nw q.cw p n c none 0 0
theorem Zqc (a:Len) (ha:LenOk a) (q:LenP) (k:Int) (hk : -1<=k∧k<=(a.nc:Int)-1) (w:World) (h:LenAt w a q) :
  Calls Tryz.prog 136 #[.agg (lenC a q),.int .i64 k] w λe w'=>Below w.heap.size w w'∧∃p c cp cl,e=.returned (.tuple #[.agg (appC a q p (a.app k).length c),.int .i64 0])∧SrfsAt w' p c (a.app k) cp cl∧KeptL a.l (a.app k)∧(SrfsOwn w' w.heap.size p c (a.app k) (a.app k).length cp cl∨(p=q.p∧c=q.c∧cp=q.cp∧cl=q.cl∧a.app k=a.l)):=by
 have q1:=λW (hW:Below w.heap.size w W)=>Zhn a ha q W (h.below hW);have q2:=λW=>Za5 k (-1) ((a.nc:Int)-1) hk.1 hk.2 W;have hz:(Tryz.prog.info? 37).map (·.size)=some (lenC a q).size:=Zk;have hzl:(Tryz.prog.info? 37).map (·.size)=some (lenC a q).toList.length:=hz;have hmost:=ha.confs.most;have g6:(lenC a q)[6]? = some (.slice q.pw a.nw q.cw):=rfl;have g7:(lenC a q)[7]? = some (.slice q.p a.l.length q.c):=rfl;have g8:(lenC a q)[8]? = some (.slice q.pc a.nc q.cc):=rfl;have hkeep:=KeptL.refl ha.sok;have hnew:∀p n c,(((lenC a q).setIfInBounds 7 (.slice p n c)).setIfInBounds 8 (.slice none 0 0))=appC a q p n c:=λp n c=>rfl;have hnew1:(lenC a q).setIfInBounds 8 (.slice none 0 0)=appC a q q.p a.l.length q.c:=rfl;have hzn:∀p n c,(Tryz.prog.info? 37).map (·.size)=some (appC a q p n c).toList.length:=λp n c=>Zk;have hzm:∀p n c,(Tryz.prog.info? 37).map (·.size)=some (appC a q p n c).size:=λp n c=>Zk;have hon:∀p n c,(appC a q p n c).all (·.oneCell')=true:=λp n c=>Zj8 ..;have hzA:(lenC a q).size=9:=rfl;generalize hA:lenC a q=A at *;go_enter Tryz.func136,Tryz.ntmps136
 go_wp2_with (refine Zb6 (T0:=37) λW hB hsz b0 b1=>?_;refine Zac rfl 37 (.tmp 2) rfl w.heap.size rfl 37 A b0 _ Tryz.underlying37 rfl hz ?_)
 refine(q1 W hB).mono ?_;rintro e W1 ⟨rfl,hb⟩;replace hB:=Zaa hB hb;replace b0:=b0.below hb;replace b1:=b1.below hb;have c8:=(b0.cell 8).trans g8;have c7:=(b0.cell 7).trans g7;have l0:=b0.lt;have f8:=b0.frozen 8;by_cases hk0:k<0
 ·have happ:a.app k=a.l:=if_pos hk0
  have hk1:¬0<=k:=Zo;have b2:=b0.set 8 (.slice none 0 0);rw[hnew1]at b2;have hbs:Below w.heap.size w (W1.setCell ⟨w.heap.size,8,none⟩ (.slice none 0 0)):=Zaf hB (Yab _) _ _;have hbt:Box (W1.setCell ⟨w.heap.size,8,none⟩ (.slice none 0 0)) (w.heap.size+1) 37 _:=b1.other _ _ (by show w.heap.size+1≠w.heap.size;omega);have hs:=h.srfs;clear hnew hnew1;go_wp2_with first|(go_at_call 174;refine(q2 _).mono ?_;rintro e w5 ⟨rfl,h5⟩;rw[h5];clear h5 w5)|(refine Zac rfl 37 (.tmp 2) rfl w.heap.size rfl 37 _ b2 _ Tryz.underlying37 rfl (hzm _ _ _) ?_)|(refine Zab rfl 37 (.tmp 4) _ rfl (w.heap.size+1) 0 37 _ (appC a q q.p a.l.length q.c) (appC a q q.p a.l.length q.c) rfl rfl hbt (hzm _ _ _) (Yaa rfl) (hon _ _ _) rfl ?_;intro W3 hk3 b3)
  refine bodyPost_ret (b3.resultsT rfl _ _ rfl Tryz.underlying37 rfl (hzm _ _ _)) rfl ?_;have hB3:=hk3.below hbs Zo hbs.size;exact⟨hB3,q.p,q.c,q.cp,q.cl,by rw[happ];rfl,by rw[happ];exact hs.below hB3,by rw[happ];exact hkeep,.inr ⟨rfl,rfl,rfl,rfl,happ⟩⟩
 ·have hkn:k.toNat<a.nc:=by omega
  obtain⟨kn,rfl⟩:∃n:Nat,k=n:=⟨k.toNat,Zo⟩
  simp only[Ycb]at hkn;have hmd:=ha.confs.made kn hkn;have hch:=ha.confs.chg kn hkn;obtain⟨m,hm⟩:=Ygb.1 hmd;have happ:a.app kn=m:=by
   unfold Len.app;rw[if_neg hk0,Ycb,hm];rfl
  have hkm:KeptL a.l m:=Ziw ha.sok (λi hi=>(hch i hi).2) hm;have hml:m.length=a.l.length:=hkm.len;have hm16:=ha.ns.2;replace hml:=Yah hml;have qm:=λW (hW:Below w.heap.size w W)=>Zhm a.l ha.ns.2 ha.sok q.p q.c q.cp q.cl (a.css kn) (ha.confs.len kn hkn) hch (q.pp kn) (q.cq kn) W (h.srfs.below hW) ((h.confs.chg kn hkn).below hW);obtain⟨_,_,hx⟩:=h.confs.row;obtain⟨b,off,hpc,hb',hcell⟩:=hx Zo;have y0:w.cell? ⟨b,off+kn*2+1,none⟩=some (.slice (q.pp kn) (a.css kn).length (q.cq kn)):=by simpa using hcell kn 1 hkn Zd
  clear hcell hx;have hk2:0<=(kn:Int):=Zo;rw[hpc]at c8;have hkn':(kn:Int)<a.nc:=Zo;replace hnew:=Yah hnew;have hzc:(Tryz.prog.info? 242).map (·.size)=some 2:=Zk;clear hnew1 ha hch hmd q1 hkeep h;have y1:W1.cell? ⟨b,off+kn*2+1,none⟩=some (.slice (q.pp kn) (a.css kn).length (q.cq kn)):=(hB.cell (p:=⟨b,off+kn*2+1,none⟩) hb').trans y0;have hb1:=Yaf hb' hB.size;have hbn:b≠w.heap.size:=Zo;go_wp2_with first|(go_at_call 174;refine(q2 _).mono ?_;rintro e w5 ⟨rfl,h5⟩;rw[h5];clear h5 w5)
  refine wp_region_held_drew (S:=λw'=>w'.cell? ⟨w.heap.size,8,none⟩=some (.slice (some ⟨b,off,none⟩) a.nc q.cc)∧(∀b o,b<W1.heap.size->b≠w.heap.size->w'.cell? ⟨b,o,none⟩=W1.cell? ⟨b,o,none⟩)∧KeepBut w.heap.size W1.heap.size W1 w') Zx ⟨c8,KeepBut.S (KeepBut.refl _ _).drew⟩ (λhHeld=>?_);refine tk 0 (some 21) ?_;refine tk 2 (some 23) ?_;refine tk 3 (some 24) ?_;refine tk 4 (some 25) ?_;refine tl 5 (some 26) rfl (.pointer (some ⟨b,off+kn*2,none⟩)) (Zbo (i:=(kn:Int)) (len:=a.nc) 35 _ _ rfl rfl rfl Tryz.underlying35 hzc ⟨Zo,Zo⟩) ?_;refine tk 6 (some 27) ?_;refine tk 7 (some 28) ?_;refine Mono.sta 1 (some 22) (.slice q.p a.l.length q.c) W1.drew hHeld (λhHeld=>Mono.pt ?_) (hx:=by go_simp);refine Mono.stc 8 (some 29) (qm _ hB.drew) (λe W2 hR=>?_);obtain⟨hb2,_,hyes⟩:=hR;obtain⟨p5,c5,cp5,cl5,rfl,hown⟩:=hyes m hm;refine⟨⟨((hb2.cell (p:=⟨w.heap.size,8,none⟩) l0).trans hHeld.1),KeepBut.S (hHeld.2.2.call hb2)⟩,λhHeld=>Mono.pt ?_⟩;refine tk 9 (some 20) ?_;refine tk 10 (some 30) ?_;refine tk 11 (some 31) ?_;refine tk 12 (some 32) ?_;have b2:Box W2 w.heap.size 37 A:=b0.drew.below hb2;have h1:Box W2 (w.heap.size+1) 37 _:=b1.drew.below hb2;have hBw2:Below w.heap.size w W2:=Zaa hB.drew hb2;refine Zic w.heap.size 37 13 rfl rfl rfl rfl 7 (.slice p5 m.length c5) A (A.setIfInBounds 7 (.slice p5 m.length c5)) Zx (λV u hV=>⟨(Yet _ _ _ _ (by intro e;have:=congrArg Addr.off e;simp at this)).trans hV.1,KeepBut.S (hV.2.2.set 7 u)⟩) rfl rfl (Znh _ _ p5 m.length c5) b2 hHeld (by rw[hzA];decide) rfl (λb3 _=>?_);have hB3:Below w.heap.size w (W2.setCell ⟨w.heap.size,7,none⟩ (.slice p5 m.length c5)):=Zaf hBw2 (Yab _) _ _;have h3:Box (W2.setCell ⟨w.heap.size,7,none⟩ (.slice p5 m.length c5)) (w.heap.size+1) 37 _:=h1.other _ _ (by show w.heap.size+1≠w.heap.size;omega);have hsb:=hown.keep b2 Zd ((KeepBut.refl w.heap.size W2).set 7 (.slice p5 m.length c5));refine wpAnyH_done Zk ?_ _;generalize W2.setCell ⟨w.heap.size,7,none⟩ (.slice p5 m.length c5)=W3 at *;have b4:=b3.set 8 (.slice none 0 0);rw[hnew.out]at b4;have hB4:Below w.heap.size w (W3.setCell ⟨w.heap.size,8,none⟩ (.slice none 0 0)):=Zaf hB3 (Yab _) _ _;have h4:Box (W3.setCell ⟨w.heap.size,8,none⟩ (.slice none 0 0)) (w.heap.size+1) 37 _:=h3.other _ _ (by show w.heap.size+1≠w.heap.size;omega);have hs4:=hsb.keep b3 Zd ((KeepBut.refl w.heap.size W3).set 8 (.slice none 0 0));clear hsb;have c83:W3.cell? ⟨w.heap.size,8,none⟩=some _:=(b3.cell 8).trans ((Array.getElem?_setIfInBounds_ne Zd).trans g8);have f83:=b3.frozen 8;clear c7 c8 f8 b0 b1 b2 h1;go_wp2_with first|(refine Zac rfl 37 (.tmp 2) rfl w.heap.size rfl 37 _ b4 _ Tryz.underlying37 rfl (hzm _ _ _) ?_)|(refine Zab rfl 37 (.tmp 4) _ rfl (w.heap.size+1) 0 37 _ (appC a q p5 m.length c5) (appC a q p5 m.length c5) rfl rfl h4 (hzm _ _ _) (Yaa rfl) (hon _ _ _) rfl ?_;intro W5 hk5 b5)
  refine bodyPost_ret (b5.resultsT rfl _ _ rfl Tryz.underlying37 rfl (hzm _ _ _)) rfl ?_;have hB5:=hk5.below hB4 Zo hB4.size;have ho5:=hs4.keep h4 Zd hk5;have hml16:m.length<=1000:=by rw[hml.out];omega
  have hs5:=ho5.at hml16 hkm.ok;have ho6:SrfsOwn W5 w.heap.size p5 c5 m m.length cp5 cl5:=ho5.low hB.size;exact⟨hB5,p5,c5,rfl,cp5,cl5,hs5,.inl ho6⟩
def sdC (d:SD) (q:Option Addr) (c:Nat):Array Value:=
 #[.int .u8 d.kind,.int .i16 d.c0,.int .i16 d.c1,.int .i16 d.k0,.int .i16 d.k1,.int .i8 d.a0,.int .i8 d.a1,.int .i8 d.a2,.int .i8 d.a3,.int .i8 d.p0,.int .i8 d.p1,.int .i8 d.order,.int .i16 d.thick,.int .u8 d.glass,.int .u8 d.semi,.int .u8 d.hole,
  .int .i8 d.b0,.int .i8 d.b1,.int .i8 d.b2,.int .i8 d.b3,.int .i8 d.b4,.slice q d.films.length c]
def BytesAt (w:World) (p:Option Addr) (c:Nat) (l:List Int):Prop:=RdC w p l.length c 1 (λi _=>.int .u8 (l.getD i 0))
theorem BytesAt.below {w w':World} {p:Option Addr} {c:Nat} {l:List Int} (h:BytesAt w p c l) (hB:Below w.heap.size w w'):BytesAt w' p c l:=RdC.below h hB
theorem Ztb {l:List Int} (h:∀z∈l,U8 z) {i:Nat} (hi:i<l.length):U8 (l.getD i 0):=h _ (by rw[Yac,Yao hi];exact Ybw hi)
theorem Zni (l:List Int) (k:Nat) (hk:k<min l.length 3):((l.take 3).map dFilm).getD k ⟨0,0,0⟩=dFilm (l.getD k 0):=by
 have h1:k<l.length:=Zo;have h2:k<3:=Zo;simp[Yac,Ycj,Ycv,h1,h2]
theorem Znj (A:Array Value) (hA:(Tryz.prog.info? 191).map (·.size)=some A.size) (q:Option Addr) (c:Nat) (l:List Int) (hl:∀z∈l,U8 z) (g21:A[21]? = some (.slice q l.length c)) (w:World) (h:BytesAt w q c l) :
  Calls Tryz.prog 171 #[.agg A] w λe w'=>∃p' c',e=.returned (.slice p' ((l.take 3).map dFilm).length c')∧CoatOwn w' w.heap.size p' c' ((l.take 3).map dFilm)∧Below w.heap.size w w':=by
 have hlen:((l.take 3).map dFilm).length=min l.length 3:=by simp;omega
 have hget:=Zni l;have hu:=λi (hi:i<l.length)=>Ztb hl hi;obtain⟨hcap,hbig,hx⟩:=h;obtain⟨fi,hfi,hfz,hfs,hfb⟩:=Zbb Zhl;have htf:Tryz.prog.underlying 83=some (.slice 270):=Tryz.underlying83;generalize hF:((l.take 3).map dFilm)=F at *;generalize hn:l.length=n at *;clear hl hF;go_enter Tryz.func171,Tryz.ntmps171
 go_wp2_with fail
 refine Zb3 λW hB hsz bS=>?_;go_loopw [3,4] (λv x wr=>∃i:Nat,i<=min n 3∧x=.int .i64 (i:Int)∧Below W.heap.size W wr∧∃p' c',v=.slice p' i c'∧wr.ownsRow W.heap.size 270 3 (.slice p' i c') i (crow (λk=>(dFilm (l.getD k 0)).vals.toList) i)∧(p'=none->i=0∧c'=0)) (λ_ x _=>(min n 3-intOf x).toNat)
 case atStart=>exact⟨0,Yat _,rfl,Yae _ _,none,0,rfl,Yaj _ _ _ _,λ_=>⟨rfl,rfl⟩⟩
 case round=>
  obtain⟨i,hi,rfl,hBr,p',c',rfl,hown,hnil⟩:=hrel;have bSr:=bS.below hBr;have cS:=(bSr.cell 21).trans g21;have lS:=bSr.lt;by_cases hin:i<n
  ·have hi':(i:Int)<n:=by omega
   by_cases hi3:i<3
   ·have hi3':(i:Int)<3:=by omega
    obtain⟨b,off,rfl,hb,hcell⟩:=hx Zo;have hBw:=Zaa hB hBr;have x0:wr.cell? ⟨b,off+i,none⟩=some (.int .u8 (l.getD i 0)):=by simpa using(hBw.cell (p:=⟨b,off+i*1+0,none⟩) hb).trans (hcell i 0 hin Zd)
    obtain⟨u0,u1⟩:=hu i hin;have hbr:=Yaf hb hBw.size;clear hcell hx hu hget;generalize hz:l.getD i 0=z at *;have b7:Box (wr.alloc (.cells (dFilm z).vals 270)) wr.heap.size 270 (dFilm z).vals:=Box.new _ _ _;have hB7:Below wr.heap.size wr (wr.alloc (.cells (dFilm z).vals 270)):=(Yae _ _).alloc (Yab _) _;have hown7:=Zai hown hB7;have hB7':=Zaa hBr hB7;have hle7:=hB7'.size;have hin3:i<=3:=Zo;go_wp2_with (refine Zan rfl (.tmp 23) (.tmp 33) (ts:=83) (te:=270) rfl htf hfi hfz hfs hfb rfl Zd rfl rfl hown7 (H:=λ_=>(dFilm z).vals.toList) (λ_=>rfl) (λ_ _=>Zs8 _) (Zb2 b7 rfl) (λh=>by cases h) hle7 Zo Zo ?_;intro p8 c8 W8 hown8 hg8 hn8)
    have hB8:=Below.appended hown7 hg8 hB7' (Yab _);go_roundw
    case rel=>
     refine⟨i+1,Zo,Zs,hB8,p8,c8,rfl,?_,hn8⟩;rw[<-Zas (C:=ccat (λk=>(dFilm (l.getD k 0)).vals.toList) i (λ_=>(dFilm z).vals.toList))]
     ·exact hown8
     ·intro k hk
      unfold ccat;by_cases hki:k<i
      ·dsimp only
       rw[if_pos hki]
      ·obtain rfl:k=i:=by omega
       dsimp only;rw[if_neg hki,hz]
    case measure=>simp[intOf];omega
   ·obtain rfl:i=3:=by omega
    clear hx hu;go_wp2
    go_ret
    have hL:F.length=3:=Zo;exact⟨p',c',by rw[hL];rfl,⟨by rw[hL,Zas (D:=λk=>(dFilm (l.getD k 0)).vals.toList) (λk hk=>by rw[hget k Zo])];exact Zav hown hB.size,by rw[hL];exact hnil⟩,Zaa hB hBr⟩
  ·obtain rfl:i=n:=by omega
   clear hx hu;go_wp2
   go_ret
   have hL:F.length=i:=Zo;exact⟨p',c',by rw[hL];rfl,⟨by rw[hL,Zas (D:=λk=>(dFilm (l.getD k 0)).vals.toList) (λk hk=>by rw[hget k Zo])];exact Zav hown hB.size,by rw[hL];exact hnil⟩,Zaa hB hBr⟩
end Go.Proofs.W
namespace Go.Mono
def thrS (l:List Srf) (i:Nat):Bool:=decide ((l.getD i (stdS 0)).glass=mirror∨(l.getD i (stdS 0)).kind=3∨(l.getD i (stdS 0)).kind=4∨i+1=l.length)
end Go.Mono
namespace Go.Proofs.W
open Go.RowKit Go.Mono
theorem Ztk {s:ByteArray} (hg:¬s=mirror):(s.toList==[77,73,82,82,79,82])=false:=by
 refine beq_eq_false_iff_ne.2 λe=>hg ?_;have h:s.data.toList=[77,73,82,82,79,82]:=by rw[<-e];simp[Ycs]
 cases s with
 | mk a =>
   simp only[mirror,Ydw];apply Yfo;simpa using h
theorem Zma (nm:ByteArray) (di pu st pr:Int) (pf:Option Addr) (nf cf:Nat) (pw:Option Addr) (nw cw:Nat) (pc:Option Addr) (nc cc:Nat) (l:List Srf) (hl:l.length<=16) (p:Option Addr) (c:Nat) (cp:Nat->Option Addr) (cl:Nat->Nat) (i:Nat) (hi:i<l.length) (w:World) (h:SrfsAt w p c l cp cl) :
  Calls Tryz.prog 180 #[.agg (lcs nm di pu st pr pf nf cf pw nw cw p l.length c pc nc cc),.int .i64 (i:Int)] w λe w'=>e=.returned (.bool (thrS l i))∧Below w.heap.size w w':=by
 have hsA:∀(s:Srf) p c,(Tryz.prog.info? 85).map (·.size)=some (s.cs p c).size:=λ_ _ _=>Zk;have hsL:∀(s:Srf) p c,(Tryz.prog.info? 85).map (·.size)=some (s.cs p c).toList.length:=λ_ _ _=>Zk;obtain⟨b,off,rfl,hb,hrg⟩:=h.range Zo;have hrg':=hrg i hi;have hcap:=h.row.1;have hthr:thrS l i=decide ((sAt l i).glass=mirror∨(sAt l i).kind=3∨(sAt l i).kind=4∨i+1=l.length):=rfl;clear h hrg;generalize sAt l i=s at *;generalize thrS l i=T at *;generalize l.length=n at *;have hi':(i:Int)<n:=Zo;unfold lcs;go_enter Tryz.func180,Tryz.ntmps180
 replace hthr:=Yah hthr;by_cases hg:s.glass=mirror
 focus
  have hT:T=true:=by rw[hthr.out];exact decide_eq_true (.inl hg)
 rotate_left
 focus
  have hgm:(s.glass.toList==[77,73,82,82,79,82])=false:=Ztk hg;by_cases h3:s.kind=3
  focus
   have hT:T=true:=by rw[hthr.out];exact decide_eq_true (.inr (.inl h3))
  rotate_left
  focus
   by_cases h4:s.kind=4
   focus
    have hT:T=true:=by rw[hthr.out];exact decide_eq_true (.inr (.inr (.inl h4)))
    have h3':(s.kind==3)=false:=beq_eq_false_iff_ne.2 h3
   rotate_left
   focus
    have h3':(s.kind==3)=false:=beq_eq_false_iff_ne.2 h3;have h4':(s.kind==4)=false:=beq_eq_false_iff_ne.2 h4;by_cases hl9:i+1=n
    focus
     have hT:T=true:=by rw[hthr.out];exact decide_eq_true (.inr (.inr (.inr hl9)))
     subst hl9;have hl1:((i+1:Nat):Int)-1=i:=Zo
    rotate_left
    focus
     have hT:T=false:=by rw[hthr.out];exact decide_eq_false (by simp[hg,h3,h4,hl9])
     have hlast:((i:Int)==n-1)=false:=beq_eq_false_iff_ne.2 Zo
 all_goals
  go_wp2_with first|(refine Zd5 (T0:=37) λW hB hsz bS=>?_;have hr2:=hrg' W hB;have hbW:=Yaf hb hB.size;have cS:=bS.cell 7;have lS:=bS.lt;clear hrg')|(refine wpList_load_mid rfl 85 _ rfl b (off+i*22) rfl (s.cs (cp i) (cl i)).toList _ hr2 Tryz.underlying85 rfl (hsL _ _ _) ?_)|(refine Zak rfl 85 rfl _ Za6 ?_;intro W1 B1 hle1 hB1 b1;have bS1:=bS.below hB1;have cS1:=bS1.cell 7;have lS1:=bS1.lt)|(refine Zab rfl 85 (.tmp 5) (.tmp 10) rfl B1 0 85 _ (s.cs (cp i) (cl i)) (s.cs (cp i) (cl i)) rfl rfl b1 (hsA _ _ _) (Yaa rfl) (Zbu _ _ _) rfl ?_;intro W2 hk2 b2;have hB2:=hk2.below hB1 hle1 hB1.size;have hBw:=Zaa hB hB2;have bS2:=bS.below hB2;have cS2:=bS2.cell 7;have lS2:=bS2.lt;have lB:=b2.lt;have s0:World.cell? _ ⟨B1,0,none⟩=some (.int .i64 s.kind):=b2.cell 0;have s13:World.cell? _ ⟨B1,13,none⟩=some (.string {data:=#[77,73,82,82,79,82]}):=(b2.cell 13).trans (congrArg (λg=>some (Value.string g)) hg))|(refine Zab rfl 85 (.tmp 5) (.tmp 10) rfl B1 0 85 _ (s.cs (cp i) (cl i)) (s.cs (cp i) (cl i)) rfl rfl b1 (hsA _ _ _) (Yaa rfl) (Zbu _ _ _) rfl ?_;intro W2 hk2 b2;have hB2:=hk2.below hB1 hle1 hB1.size;have hBw:=Zaa hB hB2;have bS2:=bS.below hB2;have cS2:=bS2.cell 7;have lS2:=bS2.lt;have lB:=b2.lt;have s0:World.cell? _ ⟨B1,0,none⟩=some (.int .i64 s.kind):=b2.cell 0;have s13:World.cell? _ ⟨B1,13,none⟩=some (.string s.glass):=b2.cell 13)
  go_ret
  exact⟨by first|rfl|(rw[hT];rfl),hBw⟩
theorem Zl3 (A:Array Value) (hA:(Tryz.prog.info? 28).map (·.size)=some A.size) (z:Int) (hz:U16 z) (g:A[2]? = some (.int .u16 z)) (w:World) :
  Calls Tryz.prog 131 #[.agg A] w λe w'=>e=.returned (.int .i64 (100000*(z%10001)))∧Below w.heap.size w w':=by
 obtain⟨z0,z1⟩:=hz;go_enter Tryz.func131,Tryz.ntmps131
 go_wp2_with (refine Zd5 (T0:=28) λW hB hsz bS=>?_;have c4:=(bS.cell 2).trans g;have lS:=bS.lt)
 go_ret
 exact⟨rfl,hB⟩
def glassC:Array Value:=#[.string nmNone,.string nmBK7,.string nmSF1,.string mirror,.string nmF2]
theorem Zv1 (g:Int):glassC[(g%5).toNat]? = some (.string (dGlass g)):=by
 unfold dGlass;rcases(by omega:g%5=0∨g%5=1∨g%5=2∨g%5=3∨g%5=4) with h|h|h|h|h<;>rw[h]<;>rfl
theorem Zl8 (w:World):Calls Tryz.prog 170 #[] w λe w'=>∃B,e=.returned (.slice (some ⟨B,0,none⟩) 5 5)∧Box w' B 9 glassC∧Below w.heap.size w w':=by
 go_enter Tryz.func170,Tryz.ntmps170
 go_wp2
 go_ret
 exact⟨w.heap.size,rfl,Box.new _ _ _,(Yae _ _).alloc (Yab _) _⟩
theorem Zb9 {w:World} {base n m size c:Nat} {p:Option Addr} {e:TypeId} {vals:List Value} (h:w.ownsRow base e size (.slice p m c) n vals):∀b off,p=some ⟨b,off,none⟩->base<=b:=λb off hp=>by
 obtain⟨_,⟨h0,_⟩|⟨g,cap,cur,hv,hb,_⟩⟩:=h
 ·subst hp;cases h0
 ·subst hp;cases hv;exact hb
theorem Ztc:(Tryz.prog.info? 138).map (λi=>(i.zero,i.size,i.bytes))=some (some (.agg #[.int .i64 0,.int .i64 0]),2,16):=Zk
def wvA (z g:Int):Array Value:=#[.int .i64 z,.int .i64 g]
theorem Ztd (z g:Int):∀u∈(wvA z g).toList,u.oneCell'=true:=λu hu=>by
 simp[wvA]at hu;rcases hu with rfl|rfl<;>rfl
def wvC (d:LD) (k:Nat):List Value:=(wvA (d.waveL (k+1)) (1+d.waves.getD k 0%5)).toList
theorem Zgm (d:LD) (h:∀z∈d.waves,U8 z):∀i,i<=d.waves.length->400000<=d.waveL i∧d.waveL i<=400000+52000*i
 | 0,_=>by simp[LD.waveL]
 | i + 1, hi => by
   have h1:=Zgm d h i Zo;have h2:=Ztb h (show i<d.waves.length by omega);obtain⟨h3,h4⟩:=h2;simp only[LD.waveL];omega
theorem Znk (A:Array Value) (hA:(Tryz.prog.info? 28).map (·.size)=some A.size) (d:LD) (hu:∀z∈d.waves,U8 z) (q:Option Addr) (c:Nat) (g:A[5]? = some (.slice q d.waves.length c)) (w:World) (h:BytesAt w q c d.waves) :
  Calls Tryz.prog 130 #[.agg A] w λe w'=>∃p' c',e=.returned (.slice p' d.nw c')∧RdC w' p' d.nw c' 2 (λi j=>if j=0 then .int .i64 (d.lenW i) else .int .i64 (d.wgtW i))∧(∀b off,p'=some ⟨b,off,none⟩->w.heap.size<=b)∧Below w.heap.size w w':=by
 have hin':=Zgm d hu;have huu:=λi (hi:i<d.waves.length)=>Ztb hu hi;obtain⟨hcap,hbig,hx⟩:=h;obtain⟨fi,hfi,hfz,hfs,hfb⟩:=Zbb Ztc;have htf:Tryz.prog.underlying 33=some (.slice 138):=Tryz.underlying33;have hnil0:d.waves=[]↔d.waves.length=0:=Ydj.symm;have hnw:d.nw=if d.waves.length=0 then 1 else min d.waves.length 5:=by unfold LD.nw;by_cases h0:d.waves=[]<;>simp[h0]
 have hL:∀i,d.waves.length≠0->d.lenW i=d.waveL (i+1):=λi h0=>by unfold LD.lenW;rw[if_neg λe=>h0 (hnil0.1 e)]
 have hG:∀i,d.waves.length≠0->d.wgtW i=1+d.waves.getD i 0%5:=λi h0=>by unfold LD.wgtW;rw[if_neg λe=>h0 (hnil0.1 e)]
 have hL0:∀i,d.waves.length=0->d.lenW i=550000:=λi h0=>by unfold LD.lenW;rw[if_pos (hnil0.2 h0)]
 have hG0:∀i,d.waves.length=0->d.wgtW i=1:=λi h0=>by unfold LD.wgtW;rw[if_pos (hnil0.2 h0)]
 clear hnil0;generalize hn:d.waves.length=n at *;replace hL:=Yah hL;replace hG:=Yah hG;replace hL0:=Yah hL0;replace hG0:=Yah hG0;replace hnw:=Yah hnw;go_enter Tryz.func130,Tryz.ntmps130
 go_wp2_with fail
 refine Zb3 λW hB hsz bS=>?_;go_wp2
 go_loopw [3,4,5] (λv y x wr=>∃i:Nat,i<=min n 5∧x=.int .i64 (i:Int)∧y=.int .i64 (d.waveL i)∧Below W.heap.size W wr∧∃p' c',v=.slice p' i c'∧wr.ownsRow W.heap.size 138 2 (.slice p' i c') i (crow (wvC d) i)∧(p'=none->i=0∧c'=0)) (λ_ _ x _=>(min n 5-intOf x).toNat)
 case atStart=>exact⟨0,Yat _,rfl,rfl,Yae _ _,none,0,rfl,Yaj _ _ _ _,λ_=>⟨rfl,rfl⟩⟩
 case round=>
  obtain⟨i,hi,rfl,rfl,hBr,p',c',rfl,hown,hnil⟩:=hrel;have bSr:=bS.below hBr;have cS:=(bSr.cell 5).trans g;have lS:=bSr.lt;by_cases hin:i<n
  ·have hi':(i:Int)<n:=by omega
   by_cases hi5:i<5
   ·have hi5':(i:Int)<5:=by omega
    obtain⟨b,off,rfl,hb,hcell⟩:=hx Zo;have hBw:=Zaa hB hBr;have x0:wr.cell? ⟨b,off+i,none⟩=some (.int .u8 (d.waves.getD i 0)):=by simpa using(hBw.cell (p:=⟨b,off+i*1+0,none⟩) hb).trans (hcell i 0 hin Zd)
    obtain⟨u0,u1⟩:=huu i hin;have hbr:=Yaf hb hBw.size;have hwb:=hin' i Zo;have hws:d.waveL (i+1)=d.waveL i+200*d.waves.getD i 0+1000:=rfl;have hwc:wvC d i=(wvA (d.waveL i+200*d.waves.getD i 0+1000) (1+d.waves.getD i 0%5)).toList:=rfl;have hi6:i<=5:=Zo;replace hws:=Yah hws;clear hcell hx huu hin';generalize hz:d.waves.getD i 0=z at *;generalize hl:d.waveL i=l at *;have b7:Box (wr.alloc (.cells (wvA (l+200*z+1000) (1+z%5)) 138)) wr.heap.size 138 (wvA (l+200*z+1000) (1+z%5)):=Box.new _ _ _;have hB7:Below wr.heap.size wr (wr.alloc (.cells (wvA (l+200*z+1000) (1+z%5)) 138)):=(Yae _ _).alloc (Yab _) _;have hown7:=Zai hown hB7;have hB7':=Zaa hBr hB7;have hle7:=hB7'.size;go_wp2_with (refine Zan rfl (.tmp 27) (.tmp 38) (ts:=33) (te:=138) rfl htf hfi hfz hfs hfb rfl Zd rfl rfl hown7 (H:=λ_=>(wvA (l+200*z+1000) (1+z%5)).toList) (λ_=>rfl) (λ_ _=>Ztd _ _) (Zb2 b7 rfl) (λh=>by cases h) hle7 Zo Zo ?_;intro p8 c8 W8 hown8 hg8 hn8)
    have hB8:=Below.appended hown7 hg8 hB7' (Yab _);go_roundw
    case rel=>
     refine⟨i+1,Zo,Zs,by rw[hws.out],hB8,p8,c8,rfl,?_,hn8⟩;rw[<-Zas (C:=ccat (wvC d) i (λ_=>(wvA (l+200*z+1000) (1+z%5)).toList))]
     ·exact hown8
     ·intro k hk
      unfold ccat;by_cases hki:k<i
      ·rw[if_pos hki]
      ·obtain rfl:k=i:=by omega
       rw[if_neg hki,hwc]
    case measure=>simp[intOf];omega
   ·obtain rfl:i=5:=by omega
    have hn0:n≠0:=Zo;clear hx huu hin';go_wp2
    go_ret
    have hN:d.nw=5:=by rw[hnw.out,if_neg hn0];omega
    exact⟨p',c',by first|rfl|(rw[hN];rfl),by
     (try rw[hN])
     exact Zaz (λ_=>rfl) (λk j hk hj=>by
      rcases(by omega:j=0∨j=1) with rfl|rfl
      ·rw[if_pos rfl,hL.out k hn0];rfl
      ·rw[if_neg Zd,hG.out k hn0];rfl) hown Zo,λb off e=>Yak hB.size (Zb9 hown b off e),Zaa hB hBr⟩
  ·obtain rfl:i=n:=by omega
   clear hx huu hin';by_cases hn0:i=0
   ·subst hn0
    have hN:d.nw=1:=by rw[hnw.out,if_pos rfl]
    have hB7:Below wr.heap.size wr (wr.alloc (.cells (wvA 550000 1) 138)):=(Yae _ _).alloc (Yab _) _;have b7:Box (wr.alloc (.cells (wvA 550000 1) 138)) wr.heap.size 138 (wvA 550000 1):=Box.new _ _ _;have hown7:=Zai hown hB7;have hB7':=Zaa hBr hB7;have hle7:=hB7'.size;have hlen0:=hL0.out 0 rfl;have hw0:=hG0.out 0 rfl;go_wp2_with (refine Zan rfl (.tmp 43) (.tmp 45) (ts:=33) (te:=138) rfl htf hfi hfz hfs hfb rfl Zd rfl rfl hown7 (H:=λ_=>(wvA 550000 1).toList) (λ_=>rfl) (λ_ _=>Ztd _ _) (Zb2 b7 rfl) (λh=>by cases h) hle7 Zo Zo ?_;intro p8 c8 W8 hown8 hg8 hn8)
    go_ret
    have hB8:=Below.appended hown7 hg8 hB7' (Yab _);exact⟨p8,c8,by first|rfl|(rw[hN];rfl),by
     (try rw[hN])
     exact Zaz (C:=ccat (wvC d) 0 (λ_=>(wvA 550000 1).toList)) (λk=>by unfold ccat;rw[if_neg Zo];rfl) (λk j hk hj=>by
      obtain rfl:k=0:=Zo;rcases(by omega:j=0∨j=1) with rfl|rfl
      ·rw[if_pos rfl,hlen0];rfl
      ·rw[if_neg Zd,hw0];rfl) hown8 Zo,λb off e=>Yak hB.size (Zb9 hown8 b off e),Zaa hB hB8⟩
   ·have hn1:¬((i:Int)=0):=by omega
    go_wp2
    go_ret
    have hN:d.nw=i:=by rw[hnw.out,if_neg hn0];omega
    exact⟨p',c',by first|rfl|(rw[hN];rfl),by
     (try rw[hN])
     exact Zaz (λ_=>rfl) (λk j hk hj=>by
      rcases(by omega:j=0∨j=1) with rfl|rfl
      ·rw[if_pos rfl,hL.out k hn0];rfl
      ·rw[if_neg Zd,hG.out k hn0];rfl) hown Zo,λb off e=>Yak hB.size (Zb9 hown b off e),Zaa hB hBr⟩
end Go.Proofs.W
