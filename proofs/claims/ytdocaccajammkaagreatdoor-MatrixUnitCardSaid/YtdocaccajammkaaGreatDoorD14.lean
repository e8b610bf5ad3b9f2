/- The drafted optics of chapter 13: what it is and that it is valid. Part 14 of 18. No condition beside the row. -/
import Derived.Test.YtdocaccajammkaaGreatDoorA16
import Derived.Test.YtdocaccajammkaaGreatDoorD02
import Derived.Test.YtdocaccajammkaaGreatDoorD13
set_option linter.unusedVariables false
set_option linter.unusedSimpArgs false
set_option maxRecDepth 100000
set_option maxHeartbeats 4000000
namespace Go.Proofs.W
open Go.RowKit Go.Mono
section
open Go.Ex
def kQ:Nat->Value:=λ_=>.bool false
theorem kQ1 (i:Nat):(kQ i).oneCell'=true:=rfl
def catU:List U:=catC.toList.map U.val
theorem Zj7 {D:Den} {ρ:Nm} {w:World}:∀l:List Value,(∀v∈l,v.oneCell'=true)->denL D ρ w (l.map U.val) l
 | [],_=>rfl
 | v::r,h=>⟨[v],r,rfl,⟨rfl,h v (Ycl ..)⟩,Zj7 r λu hu=>h u (Ybs _ hu)⟩
theorem Zvc {D:Den} {ρ:Nm} {w:World}:denL D ρ w catU catC.toList:=Zj7 _ (by decide +kernel)
theorem Zj8 (f:FuncId) (d:Nat) (xs:List SA) (vs:List Value) (V:SV) (B:Nat) (c:Nat) (w:World) (hB:Box w B 200 catC) (hc:3<=c)
  (hev:∀w0:World,(evF Tryz.prog (w0:=w0) (X:=λ_=>False) (D:=qDen kQ kQ1) [] [] d [] f (.one (.sli 0 0 3)::xs) [(0,⟨200,catU,true,false,false⟩)] 1 1 []).map (λr=>(r.v,r.obl,r.pan))=some (V,[],none))
  (hx:denAs (qDen kQ kQ1) (nmV [⟨200,catU,B,0,catC.toList⟩]) w xs vs) :
  Calls Tryz.prog f (Value.slice (some ⟨B,0,none⟩) 3 c::vs).toArray w λe' w'=>∃v ρ',e'=.returned v∧denV (qDen kQ kQ1) ρ' w' V v∧Below w.heap.size w w':=by
 obtain⟨r,hr,he⟩:=Yad.1 (hev w);simp only[Yco]at he;obtain⟨e1,e2,e5⟩:=he;refine(Zky (D:=qDen kQ kQ1) (d:=d) (vs:=[⟨200,catU,B,0,catC.toList⟩]) (orc:=[]) (args:=.one (.sli 0 0 3)::xs) (vals:=Value.slice (some ⟨B,0,none⟩) 3 c::vs) Zdt [] [] [(0,⟨200,catU,true,false,false⟩)] rfl rfl V [] r.wr (Eq.trans (congrArg (Option.map λr=>(r.v,r.obl,r.wr,r.pan)) hr) (by rw[Yfx,e1,e2,e5])) trivial ?_ ?_).mono ?_
 ·intro v hv
  obtain rfl:v=_:=by simpa using hv
  exact⟨hB.lt,hB.range,Zvc⟩
 ·exact⟨_,vs,rfl,⟨⟨B,0,true,0,0⟩,c,rfl,hc,rfl⟩,hx⟩
 ·rintro e' w' ⟨v,ρ',rfl,h1,h2,_⟩
  exact⟨v,ρ',rfl,h1,h2⟩
theorem Zp8 (B:Nat) (c:Nat) (w:World) (hB:Box w B 200 catC) (hc:3<=c) :
  Calls Tryz.prog 133 #[.slice (some ⟨B,0,none⟩) 3 c] w λe' w'=>e'=.returned (.int .i64 0)∧Below w.heap.size w w':=by
 refine(Zj8 133 6 [] [] (.a (.one (.val (.int .i64 0)))) B c w hB hc (λw0=>Zk) rfl).mono ?_;rintro e' w' ⟨v,ρ',rfl,h1,h2⟩;obtain⟨h3,_⟩:=h1;cases h3;exact⟨rfl,h2⟩
theorem Zp9 (B:Nat) (c:Nat) (w:World) (hB:Box w B 200 catC) (hc:3<=c) :
  Calls Tryz.prog 198 #[.slice (some ⟨B,0,none⟩) 3 c,.string nmBK7] w λe' w'=>e'=.returned (.tuple #[.int .i64 0,.int .i64 0])∧Below w.heap.size w w':=by
 refine(Zj8 198 6 [.one (.val (.string nmBK7))] [.string nmBK7] (.tup [.one (.val (.int .i64 0)),.one (.val (.int .i64 0))]) B c w hB hc (λw0=>Zk) ⟨_,[],rfl,⟨rfl,rfl⟩,rfl⟩).mono ?_;rintro e' w' ⟨v,ρ',rfl,h1,h2⟩;obtain⟨vs,rfl,v1,r1,rfl,⟨h3,_⟩,v2,r2,rfl,⟨h4,_⟩,h5⟩:=h1;cases h3;cases h4;obtain rfl:r2=[]:=h5;exact⟨rfl,h2⟩
theorem Zqa (B:Nat) (c:Nat) (w:World) (hB:Box w B 200 catC) (hc:3<=c) :
  Calls Tryz.prog 198 #[.slice (some ⟨B,0,none⟩) 3 c,.string nmSF1] w λe' w'=>e'=.returned (.tuple #[.int .i64 1,.int .i64 0])∧Below w.heap.size w w':=by
 refine(Zj8 198 6 [.one (.val (.string nmSF1))] [.string nmSF1] (.tup [.one (.val (.int .i64 1)),.one (.val (.int .i64 0))]) B c w hB hc (λw0=>Zk) ⟨_,[],rfl,⟨rfl,rfl⟩,rfl⟩).mono ?_;rintro e' w' ⟨v,ρ',rfl,h1,h2⟩;obtain⟨vs,rfl,v1,r1,rfl,⟨h3,_⟩,v2,r2,rfl,⟨h4,_⟩,h5⟩:=h1;cases h3;cases h4;obtain rfl:r2=[]:=h5;exact⟨rfl,h2⟩
theorem Zs6 (B:Nat) (c:Nat) (w:World) (hB:Box w B 200 catC) (hc:3<=c) :
  Calls Tryz.prog 198 #[.slice (some ⟨B,0,none⟩) 3 c,.string nmF2] w λe' w'=>e'=.returned (.tuple #[.int .i64 2,.int .i64 0])∧Below w.heap.size w w':=by
 refine(Zj8 198 6 [.one (.val (.string nmF2))] [.string nmF2] (.tup [.one (.val (.int .i64 2)),.one (.val (.int .i64 0))]) B c w hB hc (λw0=>Zk) ⟨_,[],rfl,⟨rfl,rfl⟩,rfl⟩).mono ?_;rintro e' w' ⟨v,ρ',rfl,h1,h2⟩;obtain⟨vs,rfl,v1,r1,rfl,⟨h3,_⟩,v2,r2,rfl,⟨h4,_⟩,h5⟩:=h1;cases h3;cases h4;obtain rfl:r2=[]:=h5;exact⟨rfl,h2⟩
end
end Go.Proofs.W
namespace Go.Mono
def nmDraft:ByteArray:={data:=#[100,114,97,102,116]}
def nmNear:ByteArray:={data:=#[110,101,97,114]}
def nmFar:ByteArray:={data:=#[102,97,114]}
noncomputable def LD.len (d:LD):Len where
 nm:=nmDraft
 di:=d.farM
 pu:=100000*(1+d.pupil)
 st:=d.st
 pr:=d.primary%(d.nw:Int)
 nf:=(d.fieldsM (min d.fields.length 4)).length
 X:=λi=>((d.fieldsM (min d.fields.length 4)).getD i (0,0)).1
 Y:=λi=>((d.fieldsM (min d.fields.length 4)).getD i (0,0)).2
 nw:=d.nw
 L:=d.lenW
 G:=d.wgtW
 l:=d.srfs
 nc:=min d.configs.length 2
 nms:=λi=>if i=0 then nmNear else nmFar
 css:=λi=>d.conf (d.configs.getD i [])
end Go.Mono
namespace Go.Proofs.W
open Go.RowKit Go.Mono
theorem Zhs {d:LD} (h:d.ok) {x:List (Int×Int×Int)} (hx:∀c∈x,U8 c.1∧U8 c.2.1∧R16 c.2.2) :
  (d.conf x).length<=4∧(∀k,k<(d.conf x).length->(cAt (d.conf x) k).1<d.srfs.length∧In 32768000 (cAt (d.conf x) k).2.2)∧madeS d.srfs (d.conf x)≠none:=by
 unfold LD.conf;refine⟨?_,λk hk=>?_,Zfv _ _ λe=>by cases e⟩
 ·have:=Zfb (l:=d.srfs) ((x.take 4).map d.chg) []
  simp only[Ydf,Ybt,Ycq]at this;omega
 ·have hm:cAt (dConf d.srfs [] ((x.take 4).map d.chg)) k∈dConf d.srfs [] ((x.take 4).map d.chg):=by
   unfold cAt;rw[Yac,Yao hk];exact Ybw hk
  rcases Zfc _ _ _ hm with hm|hm
  ·cases hm
  ·obtain⟨c,hc,he⟩:=Ydl.1 hm
   rw[<-he];obtain⟨_,_,h3⟩:=hx c (Yfu hc);obtain⟨h4,h5⟩:=h3;have hl:=(LD.srfs_ok h).2.1;unfold LD.chg;refine⟨?_,?_,?_⟩
   ·dsimp only
    have h2:=Ybu c.1 (show(0:Int)<d.srfs.length by omega);have h3:=Ycc c.1 (show(d.srfs.length:Int)≠0 by omega);omega
   ·dsimp only;omega
   ·dsimp only;omega
theorem Zlu {d:LD} (h:d.ok):LenOk d.len:=by
 have hraw:=LD.raw_ok h;have hsr:=LD.srfs_ok h;have hst:=LD.st_lt h;have hfl:=Zeh d (min d.fields.length 4);have hwl:=Zgo d h.waves;have hnw:d.nw=if d.waves.length=0 then 1 else min d.waves.length 5:=by unfold LD.nw;by_cases h0:d.waves=[]<;>simp[h0]
 have hnw1:1<=d.nw∧d.nw<=5:=by rw[hnw];split<;>omega
 obtain⟨pu0,pu1⟩:=h.pupil;obtain⟨f0,f1⟩:=h.far;have hlast:sAt d.srfs (d.srfs.length-1)=imgS (1000*d.image):=by
  unfold sAt;rw[Yac,show d.srfs.length-1=d.raw.length by omega,hsr.2.2.1];rfl
 have hx:∀i,∀c∈d.configs.getD i [],U8 c.1∧U8 c.2.1∧R16 c.2.2:=λi c hc=>by
  rw[Yac]at hc;cases he:d.configs[i]? with
  | none=>rw[he]at hc;cases hc
  | some x=>rw[he]at hc;exact h.configs x (Ych he) c hc
 have hfi:∀i,i<(d.fieldsM (min d.fields.length 4)).length->(d.fieldsM (min d.fields.length 4)).getD i (0,0)∈d.fieldsM (min d.fields.length 4):=λi hi=>by
  rw[Yac,Yao hi];exact Ybw hi
 refine {name:=(show NameOk nmDraft from⟨Zd,Zd,Zd⟩),di:=⟨?_,?_⟩,pu:=⟨?_,?_⟩,nf:=⟨hfl.1,?_⟩,fr:=λi hi=>?_,fd:=λi k hki hi=>?_,nw:=hnw1,pr:=⟨?_,?_⟩,wl:=λi hi=>?_,wg:=λi hi=>?_,ws:=λi hi=>?_,ns:=⟨?_,?_⟩,sok:=hsr.1,st:=?_,stop:=?_,image:=?_,confs:=?_}
 ·show 0<=d.farM
  unfold LD.farM;omega
 ·show d.farM<=1000000000
  unfold LD.farM;omega
 ·show 1<=100000*(1+d.pupil)
  omega
 ·show 100000*(1+d.pupil)<=1000000000
  omega
 ·have:=hfl.2
  show(d.fieldsM (min d.fields.length 4)).length<=5;omega
 ·exact LD.fieldsM_in h.fields _ Zo _ (hfi i hi)
 ·intro he
  have hnd:=LD.fieldsM_nodup (d:=d) (min d.fields.length 4);have hi':i<(d.fieldsM (min d.fields.length 4)).length:=hi;have hk':k<(d.fieldsM (min d.fields.length 4)).length:=Zo;have e:(d.fieldsM (min d.fields.length 4)).getD i (0,0)=(d.fieldsM (min d.fields.length 4)).getD k (0,0):=Prod.ext he.1 he.2;rw[Yac,Yac,Yao hi',Yao hk']at e;have:=(List.getElem_inj hnd).1 e;omega
 ·show 0<=d.primary%(d.nw:Int)
  exact Ycc _ Zo
 ·show d.primary%(d.nw:Int)<=d.nw-1
  have:=Ybu d.primary (show(0:Int)<d.nw by omega);omega
 ·show 300000<=d.lenW i∧d.lenW i<=2500000
  replace hi:i<d.nw:=hi;unfold LD.lenW;split
  ·decide
  ·rename_i h0
   have h0':d.waves.length≠0:=λe=>h0 (Ydj.1 e);rw[hnw,if_neg h0']at hi;have:=hwl (i+1) Zo;omega
 ·show 1<=d.wgtW i∧d.wgtW i<=100
  unfold LD.wgtW;split
  ·decide
  ·omega
 ·show d.lenW i<d.lenW (i+1)
  replace hi:i+1<d.nw:=hi;by_cases h0:d.waves.length=0
  ·rw[hnw,if_pos h0]at hi
   omega
  ·rw[hnw,if_neg h0]at hi
   have h0':¬d.waves=[]:=λe=>h0 (Ydj.2 e);unfold LD.lenW;rw[if_neg h0',if_neg h0'];have:=Zsu h.waves (show i+1<d.waves.length by omega);obtain⟨u0,u1⟩:=this;show d.waveL (i+1)<d.waveL (i+1)+200*d.waves.getD (i+1) 0+1000;omega
 ·show 2<=d.srfs.length
  omega
 ·show d.srfs.length<=16
  omega
 ·show d.st+2<=d.srfs.length
  omega
 ·show(sAt d.srfs d.st).kind≠3
  obtain⟨s,hs,hk⟩:=hsr.2.2.2;unfold sAt;rw[Yac,hs];exact hk
 ·show(sAt d.srfs (d.srfs.length-1)).kind=1∧(sAt d.srfs (d.srfs.length-1)).glass = {data:=#[]}∧(sAt d.srfs (d.srfs.length-1)).thick=0∧(sAt d.srfs (d.srfs.length-1)).order=0∧(sAt d.srfs (d.srfs.length-1)).co=[]
  rw[hlast];exact⟨rfl,rfl,rfl,rfl,rfl⟩
 ·exact {most:=by show min d.configs.length 2<=4;omega,name:=λi _=>by show NameOk (if i=0 then nmNear else nmFar);split<;>exact⟨Zd,Zd,Zd⟩,diff:=λi k hki hi=>(by replace hi:i<min d.configs.length 2:=hi;show(if k=0 then nmNear else nmFar)≠(if i=0 then nmNear else nmFar);rw[if_pos Zo,if_neg Zo];decide),len:=λi _=>Yak (Zhs h (hx i)).1 Zd,chg:=λi _=>(Zhs h (hx i)).2.1,made:=λi _=>(Zhs h (hx i)).2.2}
end Go.Proofs.W
