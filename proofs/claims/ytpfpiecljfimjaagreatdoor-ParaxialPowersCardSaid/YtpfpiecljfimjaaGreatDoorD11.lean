/- The drafted optics of chapter 13: what it is and that it is valid. Part 11 of 14. No condition beside the row. -/
import Derived.Test.YtpfpiecljfimjaaGreatDoorD01
import Derived.Test.YtpfpiecljfimjaaGreatDoorD04
import Derived.Test.YtpfpiecljfimjaaGreatDoorD09
set_option linter.unusedVariables false
set_option linter.unusedSimpArgs false
set_option maxRecDepth 100000
set_option maxHeartbeats 4000000
namespace Go.Mono
def nmDraft:ByteArray:={data:=#[100,114,97,102,116]}
def nmNear:ByteArray:={data:=#[110,101,97,114]}
def nmFar:ByteArray:={data:=#[102,97,114]}
noncomputable def LD.len (d:LD):Len where
 nm:=nmDraft
 di:=d.farM
 pu:=100000*(1+d.pupil)
 st:=d.st
 pr:=d.primary%(d.nw:Int)
 nf:=(d.fieldsM (min d.fields.length 4)).length
 X:=λi=>((d.fieldsM (min d.fields.length 4)).getD i (0,0)).1
 Y:=λi=>((d.fieldsM (min d.fields.length 4)).getD i (0,0)).2
 nw:=d.nw
 L:=d.lenW
 G:=d.wgtW
 l:=d.srfs
 nc:=min d.configs.length 2
 nms:=λi=>if i=0 then nmNear else nmFar
 css:=λi=>d.conf (d.configs.getD i [])
end Go.Mono
namespace Go.Proofs.W
open Go.RowKit Go.Mono
theorem Zhe {d:LD} (h:d.ok) {x:List (Int×Int×Int)} (hx:∀c∈x,U8 c.1∧U8 c.2.1∧R16 c.2.2) :
  (d.conf x).length<=4∧(∀k,k<(d.conf x).length->(cAt (d.conf x) k).1<d.srfs.length∧In 32768000 (cAt (d.conf x) k).2.2)∧madeS d.srfs (d.conf x)≠none:=by
 unfold LD.conf;refine⟨?_,λk hk=>?_,Zfr _ _ λe=>by cases e⟩
 ·have:=Ze7 (l:=d.srfs) ((x.take 4).map d.chg) []
  simp only[Ydf,Ybt,Ycq]at this;omega
 ·have hm:cAt (dConf d.srfs [] ((x.take 4).map d.chg)) k∈dConf d.srfs [] ((x.take 4).map d.chg):=by
   unfold cAt;rw[Yac,Yao hk];exact Ybw hk
  rcases Ze8 _ _ _ hm with hm|hm
  ·cases hm
  ·obtain⟨c,hc,he⟩:=Ydl.1 hm
   rw[<-he];obtain⟨_,_,h3⟩:=hx c (Yfu hc);obtain⟨h4,h5⟩:=h3;have hl:=(LD.srfs_ok h).2.1;unfold LD.chg;refine⟨?_,?_,?_⟩
   ·dsimp only
    have h2:=Ybu c.1 (show(0:Int)<d.srfs.length by omega);have h3:=Ycc c.1 (show(d.srfs.length:Int)≠0 by omega);omega
   ·dsimp only;omega
   ·dsimp only;omega
theorem Zle {d:LD} (h:d.ok):LenOk d.len:=by
 have hraw:=LD.raw_ok h;have hsr:=LD.srfs_ok h;have hst:=LD.st_lt h;have hfl:=Zed d (min d.fields.length 4);have hwl:=Zgk d h.waves;have hnw:d.nw=if d.waves.length=0 then 1 else min d.waves.length 5:=by unfold LD.nw;by_cases h0:d.waves=[]<;>simp[h0]
 have hnw1:1<=d.nw∧d.nw<=5:=by rw[hnw];split<;>omega
 obtain⟨pu0,pu1⟩:=h.pupil;obtain⟨f0,f1⟩:=h.far;have hlast:sAt d.srfs (d.srfs.length-1)=imgS (1000*d.image):=by
  unfold sAt;rw[Yac,show d.srfs.length-1=d.raw.length by omega,hsr.2.2.1];rfl
 have hx:∀i,∀c∈d.configs.getD i [],U8 c.1∧U8 c.2.1∧R16 c.2.2:=λi c hc=>by
  rw[Yac]at hc;cases he:d.configs[i]? with
  | none=>rw[he]at hc;cases hc
  | some x=>rw[he]at hc;exact h.configs x (Ych he) c hc
 have hfi:∀i,i<(d.fieldsM (min d.fields.length 4)).length->(d.fieldsM (min d.fields.length 4)).getD i (0,0)∈d.fieldsM (min d.fields.length 4):=λi hi=>by
  rw[Yac,Yao hi];exact Ybw hi
 refine {name:=(show NameOk nmDraft from⟨Zd,Zd,Zd⟩),di:=⟨?_,?_⟩,pu:=⟨?_,?_⟩,nf:=⟨hfl.1,?_⟩,fr:=λi hi=>?_,fd:=λi k hki hi=>?_,nw:=hnw1,pr:=⟨?_,?_⟩,wl:=λi hi=>?_,wg:=λi hi=>?_,ws:=λi hi=>?_,ns:=⟨?_,?_⟩,sok:=hsr.1,st:=?_,stop:=?_,image:=?_,confs:=?_}
 ·show 0<=d.farM
  unfold LD.farM;omega
 ·show d.farM<=1000000000
  unfold LD.farM;omega
 ·show 1<=100000*(1+d.pupil)
  omega
 ·show 100000*(1+d.pupil)<=1000000000
  omega
 ·have:=hfl.2
  show(d.fieldsM (min d.fields.length 4)).length<=5;omega
 ·exact LD.fieldsM_in h.fields _ Zo _ (hfi i hi)
 ·intro he
  have hnd:=LD.fieldsM_nodup (d:=d) (min d.fields.length 4);have hi':i<(d.fieldsM (min d.fields.length 4)).length:=hi;have hk':k<(d.fieldsM (min d.fields.length 4)).length:=Zo;have e:(d.fieldsM (min d.fields.length 4)).getD i (0,0)=(d.fieldsM (min d.fields.length 4)).getD k (0,0):=Prod.ext he.1 he.2;rw[Yac,Yac,Yao hi',Yao hk']at e;have:=(List.getElem_inj hnd).1 e;omega
 ·show 0<=d.primary%(d.nw:Int)
  exact Ycc _ Zo
 ·show d.primary%(d.nw:Int)<=d.nw-1
  have:=Ybu d.primary (show(0:Int)<d.nw by omega);omega
 ·show 300000<=d.lenW i∧d.lenW i<=2500000
  replace hi:i<d.nw:=hi;unfold LD.lenW;split
  ·decide
  ·rename_i h0
   have h0':d.waves.length≠0:=λe=>h0 (Ydj.1 e);rw[hnw,if_neg h0']at hi;have:=hwl (i+1) Zo;omega
 ·show 1<=d.wgtW i∧d.wgtW i<=100
  unfold LD.wgtW;split
  ·decide
  ·omega
 ·show d.lenW i<d.lenW (i+1)
  replace hi:i+1<d.nw:=hi;by_cases h0:d.waves.length=0
  ·rw[hnw,if_pos h0]at hi
   omega
  ·rw[hnw,if_neg h0]at hi
   have h0':¬d.waves=[]:=λe=>h0 (Ydj.2 e);unfold LD.lenW;rw[if_neg h0',if_neg h0'];have:=Zsf h.waves (show i+1<d.waves.length by omega);obtain⟨u0,u1⟩:=this;show d.waveL (i+1)<d.waveL (i+1)+200*d.waves.getD (i+1) 0+1000;omega
 ·show 2<=d.srfs.length
  omega
 ·show d.srfs.length<=16
  omega
 ·show d.st+2<=d.srfs.length
  omega
 ·show(sAt d.srfs d.st).kind≠3
  obtain⟨s,hs,hk⟩:=hsr.2.2.2;unfold sAt;rw[Yac,hs];exact hk
 ·show(sAt d.srfs (d.srfs.length-1)).kind=1∧(sAt d.srfs (d.srfs.length-1)).glass = {data:=#[]}∧(sAt d.srfs (d.srfs.length-1)).thick=0∧(sAt d.srfs (d.srfs.length-1)).order=0∧(sAt d.srfs (d.srfs.length-1)).co=[]
  rw[hlast];exact⟨rfl,rfl,rfl,rfl,rfl⟩
 ·exact {most:=by show min d.configs.length 2<=4;omega,name:=λi _=>by show NameOk (if i=0 then nmNear else nmFar);split<;>exact⟨Zd,Zd,Zd⟩,diff:=λi k hki hi=>(by replace hi:i<min d.configs.length 2:=hi;show(if k=0 then nmNear else nmFar)≠(if i=0 then nmNear else nmFar);rw[if_pos Zo,if_neg Zo];decide),len:=λi _=>Yak (Zhe h (hx i)).1 Zd,chg:=λi _=>(Zhe h (hx i)).2.1,made:=λi _=>(Zhe h (hx i)).2.2}
end Go.Proofs.W
namespace Go.Mono
open Go.RowKit
theorem Zhg {H:Type} {P:Program} {e:TypeId}:∀{l:List (DataW H)} {d:DataW H},d∈l->∀n∈d.weights P e,n∈DataW.weightsAll P e l
 | d0 :: r, d, hd, n, hn => by
   simp only[DataW.weightsAll,Ycn];rcases Ycp.1 hd with rfl|hd
   ·exact .inl hn
   ·exact .inr (Zhg hd n hn)
theorem Zhh {α:Type} {Ψ:Nat->α->Prop}:∀(n:Nat),(∀i,i<n->∃a,Ψ i a)->∃l:List α,l.length=n∧∀i,i<n->∃a,l[i]? = some a∧Ψ i a
 | 0,_=>⟨[],rfl,λi hi=>absurd hi (Nat.not_lt_zero _)⟩
 | n + 1, h => by
   obtain⟨l,hl,hx⟩:=Zhh n λi hi=>h i Zo;obtain⟨a,ha⟩:=h n (Yca n);refine⟨l++[a],by simp[hl],λi hi=>?_⟩;by_cases e:i<n
   ·obtain⟨b,hb,hp⟩:=hx i e
    exact⟨b,by rw[Ybb Zo];exact hb,hp⟩
   ·obtain rfl:i=n:=by omega
    exact⟨a,by rw[Ybc Zo,hl,Ydt];rfl,ha⟩
theorem Zdh {H:Type} {enc:TypeId×Value->H} {P:Program} {W:World} {t e:TypeId} {sz:Nat} (ht:P.underlying t=some (.slice e)) (hc:P.cellsOf e=sz) (hb1:1<=P.bytesOf e) (hsz0:0<sz) {fuel:Nat} {cs:List Value} {x:DataW H×List MemPlace} (Φ:List Value->Prop)
  (hel:∀(fuel:Nat) (cs:List Value) (x:DataW H×List MemPlace),DataW.trod enc P W 0 (λ_=>true) true fuel e cs=some x->(∀n∈x.1.weights P e,n<=reachBytes)->Φ cs)
  (h:DataW.trod enc P W 0 (λ_=>true) true fuel t cs=some x) (hw:∀n∈x.1.weights P t,n<=reachBytes) :
  ∃(q:Option Addr) (n c:Nat) (G:Nat->List Value),cs=[.slice q n c]∧(∀i,i<n->Φ (G i))∧RdC W q n c sz (λi j=>(G i).getD j undef):=by
 rcases Go.Deep.open_slice ht h with ⟨hcs,hx⟩|⟨a,len,cap,m,n,D,Pl,hcs,_,hl,hmx,hm,hx,hel'⟩
 ·exact⟨none,0,0,λ_=>[],hcs,λi hi=>absurd hi (Nat.not_lt_zero _),Yab _,Zo,λh=>absurd h (Nat.not_lt_zero _)⟩
 ·simp only[if_true]at hm
  subst hx;have hw0:=hw _ (by rw[DataW.weights,ht];exact Ycl ..);rw[Ybt,Ybt,List.length_range,List.length_range]at hw0;have hr:reachBytes=140737488351232:=rfl;have hcap:len+(m-len)<=reachBytes:=Yak (Yfd _ hb1) hw0;have he:∀i,i<len->∃g,Φ g∧W.cells? 0 (a.add (i*sz)) sz=some g:=λi hi=>by
   obtain⟨cs',h1,h2⟩:=hel' i Zo;rw[hc]at h1;refine⟨cs',hel _ _ _ h2 λk hk=>hw k ?_,h1⟩;rw[DataW.weights,ht];refine Ybs _ (Ycy _ (Zhg (d:=D i) (Ydl.2 ⟨i,Yeu.2 hi,rfl⟩) k hk))
  obtain⟨G,hG⟩:=Go.Deep.choose_lt he;refine⟨some a,len,cap,G,hcs,λi hi=>(hG i hi).1,hl,Zo,λh0=>?_⟩;obtain⟨b,off,spot⟩:=a;have hcell:∀i j,i<len->j<sz->W.cell? ((Addr.mk b off spot).add (i*sz+j))=some ((G i).getD j undef):=λi j hi hj=>by
   obtain⟨_,hlen,h3⟩:=World.cells?_some (hG i hi).2;rw[<-Go.Deep.add_add,h3 j hj,Yac,Yao Zo];rfl
  have hspot:spot=none:=by simpa[Addr.add]using World.cell?_spot (hcell 0 0 h0 hsz0)
  subst hspot;refine⟨b,off,rfl,by simpa[Addr.add]using Go.Proofs.W.cell_lt18 (hcell 0 0 h0 hsz0),λi j hi hj=>?_⟩;rw[<-hcell i j hi hj,Addr.add_lit,Ybj]
theorem Ze9 {w:World} {p:Option Addr} {n c sz:Nat} {f g:Nat->Nat->Value} (h:RdC w p n c sz f) (e:∀i j,i<n->j<sz->f i j=g i j):RdC w p n c sz g:=by
 obtain⟨h1,h2,h3⟩:=h;refine⟨h1,h2,λhn=>?_⟩;obtain⟨b,off,hp,hb,hc⟩:=h3 hn;exact⟨b,off,hp,hb,λi j hi hj=>by rw[hc i j hi hj,e i j hi hj]⟩
def putC (c:Int×Int×Int):Array Value:=#[.int .u8 c.1,.int .u8 c.2.1,.int .i16 c.2.2]
def PutsAt (w:World) (p:Option Addr) (c:Nat) (l:List (Int×Int×Int)):Prop:=RdC w p l.length c 3 (λi j=>(putC (l.getD i (0,0,0))).getD j undef)
theorem PutsAt.below {w w':World} {p:Option Addr} {c:Nat} {l:List (Int×Int×Int)} (h:PutsAt w p c l) (hB:Below w.heap.size w w'):PutsAt w' p c l:=RdC.below h hB
structure LDP where
 ps:Option Addr
 cs:Nat
 pf:Nat->Option Addr
 cf:Nat->Nat
 qf:Option Addr
 kf:Nat
 qw:Option Addr
 kw:Nat
 qc:Option Addr
 kc:Nat
 pp:Nat->Option Addr
 cp:Nat->Nat
end Go.Mono
namespace Go.Proofs.W
open Go.RowKit Go.Mono
section
open Go Go.ChangeShapes Go.WideShapes Go.ChangeAt
def sd0:SD:=⟨0,0,0,0,0,0,0,0,0,0,0,0,0,0,0,0,0,0,0,0,0,[]⟩
def ldC (d:LD) (q:LDP):Array Value:=
 #[.slice q.ps d.surfs.length q.cs,.int .u8 d.stop,.int .u16 d.far,.int .u8 d.pupil,.slice q.qf d.fields.length q.kf,.slice q.qw d.waves.length q.kw,.int .u8 d.primary,.int .i16 d.image,.slice q.qc d.configs.length q.kc]
structure LDAt (w:World) (d:LD) (q:LDP):Prop where
 surfs:RdC w q.ps d.surfs.length q.cs 22 (λi j=>(sdC (d.surfs.getD i sd0) (q.pf i) (q.cf i)).getD j undef)
 films:∀i,i<d.surfs.length->BytesAt w (q.pf i) (q.cf i) (d.surfs.getD i sd0).films
 fields:BytesAt w q.qf q.kf d.fields
 waves:BytesAt w q.qw q.kw d.waves
 configs:RdC w q.qc d.configs.length q.kc 1 (λi _=>.slice (q.pp i) (d.configs.getD i []).length (q.cp i))
 puts:∀i,i<d.configs.length->PutsAt w (q.pp i) (q.cp i) (d.configs.getD i [])
theorem LDAt.below {w w':World} {d:LD} {q:LDP} (h:LDAt w d q) (hB:Below w.heap.size w w'):LDAt w' d q:=
 ⟨h.surfs.below hB,λi hi=>(h.films i hi).below hB,h.fields.below hB,h.waves.below hB,h.configs.below hB,λi hi=>(h.puts i hi).below hB⟩
section
variable {H:Type} {enc:TypeId×Value->H} {W:World} {base:Nat} {r:Reach} {v:Value} {d:DataW H} {p:List MemPlace} {fuel:Nat} {cs:List Value} {x:DataW H×List MemPlace}
theorem Zcn (h:DataW.trod enc Tryz.prog W 0 (λ_=>true) true fuel 5 cs=some x):∃z:Int,U8 z∧cs=[.int .u8 z]:=by
 obtain⟨s0,k0,_,w0⟩:=Ybh Tryz.underlying5 h;exact⟨s0,bounds_u8 w0,k0⟩
theorem Zee (h:DataW.trod enc Tryz.prog W 0 (λ_=>true) true fuel 24 cs=some x) (hw:∀n∈x.1.weights Tryz.prog 24,n<=reachBytes):∃(q:Option Addr) (c:Nat) (l:List Int),cs=[.slice q l.length c]∧(∀z∈l,U8 z)∧BytesAt W q c l:=by
 obtain⟨q,n,c,G,rfl,hG,hr⟩:=Zdh Tryz.underlying24 (sz:=1) Zk (by decide +kernel) Zd (λcs=>∃z:Int,U8 z∧cs=[.int .u8 z]) (λ_ _ _ h _=>Zcn h) h hw;obtain⟨l,rfl,hl⟩:=Zhh n hG;refine⟨q,c,l,rfl,λz hz=>?_,Ze9 hr λi j hi hj=>?_⟩
 ·obtain⟨i,hi,rfl⟩:=Yfz hz
  obtain⟨a,ha,hu,_⟩:=hl i hi;rw[Yao hi]at ha;cases ha;exact hu
 ·obtain⟨a,ha,_,e⟩:=hl i hi
  rw[e,Yac (l:=l),ha];obtain rfl:j=0:=Zo;rfl
theorem Zsk (h:DataW.trod enc Tryz.prog W 0 (λ_=>true) true fuel 186 cs=some x):∃c:Int×Int×Int,(U8 c.1∧U8 c.2.1∧R16 c.2.2)∧cs=(putC c).toList:=by
 have hc:Tryz.prog.cellsOf 186=3:=Zk;have h1:Tryz.prog.cellsOf 25=1:=Zk;have h2:Tryz.prog.cellsOf 5=1:=Zk;obtain⟨xs,m,rfl,_,hl,hx,hel⟩:=Yfn Tryz.underlying186 h;rw[hc]at hl;match cs,hl,xs,hx with
 | [c0, c1, c2], _, [x0, x1, x2], _ =>
   have e0:=hel 0 _ rfl;have e1:=hel 1 _ rfl;have e2:=hel 2 _ rfl;simp[h1,h2]at e0 e1 e2;obtain⟨s0,k0,_,w0⟩:=Ybh Tryz.underlying5 e0;obtain⟨s1,k1,_,w1⟩:=Ybh Tryz.underlying5 e1;obtain⟨s2,k2,_,w2⟩:=Ybh Tryz.underlying25 e2;cases k0;cases k1;cases k2;exact⟨(s0,s1,s2),⟨bounds_u8 w0,bounds_u8 w1,bounds_i16 w2⟩,rfl⟩
theorem Zpn (h:DataW.trod enc Tryz.prog W 0 (λ_=>true) true fuel 184 cs=some x) (hw:∀n∈x.1.weights Tryz.prog 184,n<=reachBytes):∃(q:Option Addr) (c:Nat) (l:List (Int×Int×Int)),cs=[.slice q l.length c]∧(∀z∈l,U8 z.1∧U8 z.2.1∧R16 z.2.2)∧PutsAt W q c l:=by
 obtain⟨q,n,c,G,rfl,hG,hr⟩:=Zdh Tryz.underlying184 (sz:=3) Zk (by decide +kernel) Zd (λcs=>∃c:Int×Int×Int,(U8 c.1∧U8 c.2.1∧R16 c.2.2)∧cs=(putC c).toList) (λ_ _ _ h _=>Zsk h) h hw;obtain⟨l,rfl,hl⟩:=Zhh n hG;refine⟨q,c,l,rfl,λz hz=>?_,Ze9 hr λi j hi hj=>?_⟩
 ·obtain⟨i,hi,rfl⟩:=Yfz hz
  obtain⟨a,ha,hu,_⟩:=hl i hi;rw[Yao hi]at ha;cases ha;exact hu
 ·obtain⟨a,ha,_,e⟩:=hl i hi
  rw[e,Yac (l:=l),ha];rw[Yac,Yaq,Yax];rfl
theorem Zmu (h:DataW.trod enc Tryz.prog W 0 (λ_=>true) true fuel 26 cs=some x) (hw:∀n∈x.1.weights Tryz.prog 26,n<=reachBytes):∃(q:Option Addr) (c:Nat) (l:List (List (Int×Int×Int))) (pp:Nat->Option Addr) (cp:Nat->Nat),cs=[.slice q l.length c]∧(∀y∈l,∀z∈y,U8 z.1∧U8 z.2.1∧R16 z.2.2)∧RdC W q l.length c 1 (λi _=>.slice (pp i) (l.getD i []).length (cp i))∧∀i,i<l.length->PutsAt W (pp i) (cp i) (l.getD i []):=by
 obtain⟨q,n,c,G,rfl,hG,hr⟩:=Zdh Tryz.underlying26 (sz:=1) Zk (by decide +kernel) Zd (λcs=>∃(q:Option Addr) (c:Nat) (l:List (Int×Int×Int)),cs=[.slice q l.length c]∧(∀z∈l,U8 z.1∧U8 z.2.1∧R16 z.2.2)∧PutsAt W q c l) (λ_ _ _ h hw=>Zpn h hw) h hw;have hG':∀i,i<n->∃a:Option Addr×Nat×List (Int×Int×Int),G i=[.slice a.1 a.2.2.length a.2.1]∧(∀z∈a.2.2,U8 z.1∧U8 z.2.1∧R16 z.2.2)∧PutsAt W a.1 a.2.1 a.2.2:=λi hi=>by
  obtain⟨q,c,l,h1,h2,h3⟩:=hG i hi;exact⟨(q,c,l),h1,h2,h3⟩
 obtain⟨L,rfl,hL⟩:=Zhh n hG';have hget:∀i,(L.map λa=>a.2.2).getD i []=(L.getD i (none,0,[])).2.2:=λi=>by
  rw[Yac,Yac,Ycj];cases L[i]?<;>rfl
 refine⟨q,c,L.map λa=>a.2.2,λi=>(L.getD i (none,0,[])).1,λi=>(L.getD i (none,0,[])).2.1,by rw[Ybt],λy hy=>?_,?_,λi hi=>?_⟩
 ·obtain⟨a,ha,rfl⟩:=Ydl.1 hy
  obtain⟨i,hi,rfl⟩:=Yfz ha;obtain⟨b,hb,_,hu,_⟩:=hL i hi;rw[Yao hi]at hb;cases hb;exact hu
 ·rw[Ybt]
  refine Ze9 hr λi j hi hj=>?_;obtain⟨b,hb,e,_⟩:=hL i hi;obtain rfl:j=0:=Zo;have hgb:L.getD i (none,0,[])=b:=by rw[Yac,hb];rfl
  rw[e,hget];simp only[hgb];rfl
 ·rw[Ybt]at hi
  obtain⟨b,hb,e,_,hp⟩:=hL i hi;have hgb:L.getD i (none,0,[])=b:=by rw[Yac,hb];rfl
  rw[hget];simp only[hgb];exact hp
theorem Zhi (h:DataW.trod enc Tryz.prog W 0 (λ_=>true) true fuel 132 cs=some x):∃z0 z1:Int,(R16 z0∧R16 z1)∧cs=[.int .i16 z0,.int .i16 z1]:=by
 have hc:Tryz.prog.cellsOf 132=2:=Zk;have h1:Tryz.prog.cellsOf 25=1:=Zk;obtain⟨xs,m,rfl,_,hl,hx,hel⟩:=DataW.trod_array Tryz.underlying132 h;rw[hc]at hl;match cs,hl,xs,hx with
 | [c0, c1], _, [x0, x1], _ =>
   have e0:=hel 0 Zo;have e1:=hel 1 Zo;simp[h1]at e0 e1;obtain⟨s0,k0,_,w0⟩:=Ybh Tryz.underlying25 e0;obtain⟨s1,k1,_,w1⟩:=Ybh Tryz.underlying25 e1;cases k0;cases k1;exact⟨s0,s1,⟨bounds_i16 w0,bounds_i16 w1⟩,rfl⟩
theorem Zpo (h:DataW.trod enc Tryz.prog W 0 (λ_=>true) true fuel 134 cs=some x):∃z0 z1 z2 z3:Int,(R8 z0∧R8 z1∧R8 z2∧R8 z3)∧cs=[.int .i8 z0,.int .i8 z1,.int .i8 z2,.int .i8 z3]:=by
 have hc:Tryz.prog.cellsOf 134=4:=Zk;have h1:Tryz.prog.cellsOf 133=1:=Zk;obtain⟨xs,m,rfl,_,hl,hx,hel⟩:=DataW.trod_array Tryz.underlying134 h;rw[hc]at hl;match cs,hl,xs,hx with
 | [c0, c1, c2, c3], _, [x0, x1, x2, x3], _ =>
   have e0:=hel 0 Zo;have e1:=hel 1 Zo;have e2:=hel 2 Zo;have e3:=hel 3 Zo;simp[h1]at e0 e1 e2 e3;obtain⟨s0,k0,_,w0⟩:=Ybh Tryz.underlying133 e0;obtain⟨s1,k1,_,w1⟩:=Ybh Tryz.underlying133 e1;obtain⟨s2,k2,_,w2⟩:=Ybh Tryz.underlying133 e2;obtain⟨s3,k3,_,w3⟩:=Ybh Tryz.underlying133 e3;cases k0;cases k1;cases k2;cases k3;exact⟨s0,s1,s2,s3,⟨bounds_i8 w0,bounds_i8 w1,bounds_i8 w2,bounds_i8 w3⟩,rfl⟩
theorem Zpp (h:DataW.trod enc Tryz.prog W 0 (λ_=>true) true fuel 135 cs=some x):∃z0 z1:Int,(R8 z0∧R8 z1)∧cs=[.int .i8 z0,.int .i8 z1]:=by
 have hc:Tryz.prog.cellsOf 135=2:=Zk;have h1:Tryz.prog.cellsOf 133=1:=Zk;obtain⟨xs,m,rfl,_,hl,hx,hel⟩:=DataW.trod_array Tryz.underlying135 h;rw[hc]at hl;match cs,hl,xs,hx with
 | [c0, c1], _, [x0, x1], _ =>
   have e0:=hel 0 Zo;have e1:=hel 1 Zo;simp[h1]at e0 e1;obtain⟨s0,k0,_,w0⟩:=Ybh Tryz.underlying133 e0;obtain⟨s1,k1,_,w1⟩:=Ybh Tryz.underlying133 e1;cases k0;cases k1;exact⟨s0,s1,⟨bounds_i8 w0,bounds_i8 w1⟩,rfl⟩
theorem Zpq (h:DataW.trod enc Tryz.prog W 0 (λ_=>true) true fuel 136 cs=some x):∃z0 z1 z2 z3 z4:Int,(R8 z0∧R8 z1∧R8 z2∧R8 z3∧R8 z4)∧cs=[.int .i8 z0,.int .i8 z1,.int .i8 z2,.int .i8 z3,.int .i8 z4]:=by
 have hc:Tryz.prog.cellsOf 136=5:=Zk;have h1:Tryz.prog.cellsOf 133=1:=Zk;obtain⟨xs,m,rfl,_,hl,hx,hel⟩:=DataW.trod_array Tryz.underlying136 h;rw[hc]at hl;match cs,hl,xs,hx with
 | [c0, c1, c2, c3, c4], _, [x0, x1, x2, x3, x4], _ =>
   have e0:=hel 0 Zo;have e1:=hel 1 Zo;have e2:=hel 2 Zo;have e3:=hel 3 Zo;have e4:=hel 4 Zo;simp[h1]at e0 e1 e2 e3 e4;obtain⟨s0,k0,_,w0⟩:=Ybh Tryz.underlying133 e0;obtain⟨s1,k1,_,w1⟩:=Ybh Tryz.underlying133 e1;obtain⟨s2,k2,_,w2⟩:=Ybh Tryz.underlying133 e2;obtain⟨s3,k3,_,w3⟩:=Ybh Tryz.underlying133 e3;obtain⟨s4,k4,_,w4⟩:=Ybh Tryz.underlying133 e4;cases k0;cases k1;cases k2;cases k3;cases k4;exact⟨s0,s1,s2,s3,s4,⟨bounds_i8 w0,bounds_i8 w1,bounds_i8 w2,bounds_i8 w3,bounds_i8 w4⟩,rfl⟩
theorem Zux (h:DataW.trod enc Tryz.prog W 0 (λ_=>true) true fuel 138 cs=some x) (hw:∀n∈x.1.weights Tryz.prog 138,n<=reachBytes):∃(d:SD) (q:Option Addr) (c:Nat),d.ok∧cs=(sdC d q c).toList∧BytesAt W q c d.films:=by
 have hc:Tryz.prog.cellsOf 138=22:=Zk;have h1:Tryz.prog.cellsOf 5=1:=Zk;have h2:Tryz.prog.cellsOf 132=2:=Zk;have h3:Tryz.prog.cellsOf 134=4:=Zk;have h4:Tryz.prog.cellsOf 135=2:=Zk;have h5:Tryz.prog.cellsOf 136=5:=Zk;have h6:Tryz.prog.cellsOf 133=1:=Zk;have h7:Tryz.prog.cellsOf 25=1:=Zk;have h8:Tryz.prog.cellsOf 24=1:=Zk;obtain⟨xs,m,rfl,hx0,hl,hx,hel⟩:=Yfn Tryz.underlying138 h;subst hx0;rw[hc]at hl;match cs,hl,xs,hx with
 | [c0, c1, c2, c3, c4, c5, c6, c7, c8, c9, c10, c11, c12, c13, c14, c15, c16, c17, c18, c19, c20, c21], _, [x0, x1, x2, x3, x4, x5, x6, x7, x8, x9, x10, x11], _ =>
   have e0:=hel 0 _ rfl;have e1:=hel 1 _ rfl;have e2:=hel 2 _ rfl;have e3:=hel 3 _ rfl;have e4:=hel 4 _ rfl;have e5:=hel 5 _ rfl;have e6:=hel 6 _ rfl;have e7:=hel 7 _ rfl;have e8:=hel 8 _ rfl;have e9:=hel 9 _ rfl;have e10:=hel 10 _ rfl;have e11:=hel 11 _ rfl;simp[h1,h2,h3,h4,h5,h6,h7,h8]at e0 e1 e2 e3 e4 e5 e6 e7 e8 e9 e10 e11;obtain⟨y0,g0,k0⟩:=Zcn e0;obtain⟨y1,y2,⟨g1,g2⟩,k1⟩:=Zhi e1;obtain⟨y3,y4,⟨g3,g4⟩,k2⟩:=Zhi e2;obtain⟨y5,y6,y7,y8,⟨g5,g6,g7,g8⟩,k3⟩:=Zpo e3;obtain⟨y9,y10,⟨g9,g10⟩,k4⟩:=Zpp e4;obtain⟨y11,k5,_,w11⟩:=Ybh Tryz.underlying133 e5;obtain⟨y12,k6,_,w12⟩:=Ybh Tryz.underlying25 e6;obtain⟨y13,g13,k7⟩:=Zcn e7;obtain⟨y14,g14,k8⟩:=Zcn e8;obtain⟨y15,g15,k9⟩:=Zcn e9;obtain⟨y16,y17,y18,y19,y20,⟨g16,g17,g18,g19,g20⟩,k10⟩:=Zpq e10;obtain⟨q,c,l,k11,hl8,hb⟩:=Zee e11 λn hn=>hw n (by rw[DataW.weights,Tryz.underlying138];exact Ydb (j:=11) (t:=24) rfl rfl n hn);cases k0;cases k1;cases k2;cases k3;cases k4;cases k5;cases k6;cases k7;cases k8;cases k9;cases k10;cases k11;exact⟨⟨y0,y1,y2,y3,y4,y5,y6,y7,y8,y9,y10,y11,y12,y13,y14,y15,y16,y17,y18,y19,y20,l⟩,q,c,⟨g0,g1,g2,g3,g4,g5,g6,g7,g8,g9,g10,bounds_i8 w11,bounds_i16 w12,g13,g14,g15,g16,g17,g18,g19,g20,hl8⟩,rfl,hb⟩
theorem Zsl (h:DataW.trod enc Tryz.prog W 0 (λ_=>true) true fuel 22 cs=some x) (hw:∀n∈x.1.weights Tryz.prog 22,n<=reachBytes):∃(q:Option Addr) (c:Nat) (l:List SD) (pp:Nat->Option Addr) (cp:Nat->Nat),cs=[.slice q l.length c]∧(∀y∈l,y.ok)∧RdC W q l.length c 22 (λi j=>(sdC (l.getD i sd0) (pp i) (cp i)).getD j undef)∧∀i,i<l.length->BytesAt W (pp i) (cp i) (l.getD i sd0).films:=by
 obtain⟨q,n,c,G,rfl,hG,hr⟩:=Zdh Tryz.underlying22 (sz:=22) Zk (by decide +kernel) Zd (λcs=>∃(d:SD) (q:Option Addr) (c:Nat),d.ok∧cs=(sdC d q c).toList∧BytesAt W q c d.films) (λ_ _ _ h hw=>Zux h hw) h hw;have hG':∀i,i<n->∃a:Option Addr×Nat×SD,a.2.2.ok∧G i=(sdC a.2.2 a.1 a.2.1).toList∧BytesAt W a.1 a.2.1 a.2.2.films:=λi hi=>by
  obtain⟨d,q,c,h1,h2,h3⟩:=hG i hi;exact⟨(q,c,d),h1,h2,h3⟩
 obtain⟨L,rfl,hL⟩:=Zhh n hG';have hget:∀i,i<L.length->(L.map λa=>a.2.2).getD i sd0=(L.getD i (none,0,sd0)).2.2:=λi hi=>by
  rw[Yac,Yac,Ycj,Yao hi];rfl
 refine⟨q,c,L.map λa=>a.2.2,λi=>(L.getD i (none,0,sd0)).1,λi=>(L.getD i (none,0,sd0)).2.1,by rw[Ybt],λy hy=>?_,?_,λi hi=>?_⟩
 ·obtain⟨a,ha,rfl⟩:=Ydl.1 hy
  obtain⟨i,hi,rfl⟩:=Yfz ha;obtain⟨b,hb,hu,_⟩:=hL i hi;rw[Yao hi]at hb;cases hb;exact hu
 ·rw[Ybt]
  refine Ze9 hr λi j hi hj=>?_;obtain⟨b,hb,_,e,_⟩:=hL i hi;have hgb:L.getD i (none,0,sd0)=b:=by rw[Yac,hb];rfl
  rw[e,hget i hi];simp only[hgb];rw[Yac,Yaq,Yax]
 ·rw[Ybt]at hi
  obtain⟨b,hb,_,e,hp⟩:=hL i hi;have hgb:L.getD i (none,0,sd0)=b:=by rw[Yac,hb];rfl
  rw[hget i hi];simp only[hgb];exact hp
theorem Zuy (h:DataW.trod enc Tryz.prog W 0 (λ_=>true) true fuel 28 cs=some x) (hw:∀n∈x.1.weights Tryz.prog 28,n<=reachBytes):∃(d:LD) (q:LDP),d.ok∧cs=(ldC d q).toList∧LDAt W d q:=by
 have hc:Tryz.prog.cellsOf 28=9:=Zk;have h1:Tryz.prog.cellsOf 5=1:=Zk;have h2:Tryz.prog.cellsOf 22=1:=Zk;have h3:Tryz.prog.cellsOf 23=1:=Zk;have h7:Tryz.prog.cellsOf 25=1:=Zk;have h8:Tryz.prog.cellsOf 24=1:=Zk;have h9:Tryz.prog.cellsOf 26=1:=Zk;obtain⟨xs,m,rfl,hx0,hl,hx,hel⟩:=Yfn Tryz.underlying28 h;subst hx0;rw[hc]at hl;match cs,hl,xs,hx with
 | [c0, c1, c2, c3, c4, c5, c6, c7, c8], _, [x0, x1, x2, x3, x4, x5, x6, x7, x8], _ =>
   have e0:=hel 0 _ rfl;have e1:=hel 1 _ rfl;have e2:=hel 2 _ rfl;have e3:=hel 3 _ rfl;have e4:=hel 4 _ rfl;have e5:=hel 5 _ rfl;have e6:=hel 6 _ rfl;have e7:=hel 7 _ rfl;have e8:=hel 8 _ rfl;simp[h1,h2,h3,h7,h8,h9]at e0 e1 e2 e3 e4 e5 e6 e7 e8;obtain⟨ps,cs,ls,pf,cf,k0,hs1,hs2,hs3⟩:=Zsl e0 λn hn=>hw n (by rw[DataW.weights,Tryz.underlying28];exact Ydb (j:=0) (t:=22) rfl rfl n hn);obtain⟨y1,g1,k1⟩:=Zcn e1;obtain⟨y2,k2,_,w2⟩:=Ybh Tryz.underlying23 e2;obtain⟨y3,g3,k3⟩:=Zcn e3;obtain⟨qf,kf,lf,k4,hf1,hf2⟩:=Zee e4 λn hn=>hw n (by rw[DataW.weights,Tryz.underlying28];exact Ydb (j:=4) (t:=24) rfl rfl n hn);obtain⟨qw,kw,lw,k5,hv1,hv2⟩:=Zee e5 λn hn=>hw n (by rw[DataW.weights,Tryz.underlying28];exact Ydb (j:=5) (t:=24) rfl rfl n hn);obtain⟨y6,g6,k6⟩:=Zcn e6;obtain⟨y7,k7,_,w7⟩:=Ybh Tryz.underlying25 e7;obtain⟨qc,kc,lc,pp,cp,k8,hc1,hc2,hc3⟩:=Zmu e8 λn hn=>hw n (by rw[DataW.weights,Tryz.underlying28];exact Ydb (j:=8) (t:=26) rfl rfl n hn);cases k0;cases k1;cases k2;cases k3;cases k4;cases k5;cases k6;cases k7;cases k8;exact⟨⟨ls,y1,y2,y3,lf,lw,y6,y7,lc⟩,⟨ps,cs,pf,cf,qf,kf,qw,kw,qc,kc,pp,cp⟩,⟨hs1,g1,bounds_u16 w2,g3,hf1,hv1,g6,bounds_i16 w7,hc1⟩,rfl,⟨hs2,hs3,hf2,hv2,hc2,hc3⟩⟩
theorem Zpr (hv:Value.okWide Tryz.prog W r base 30 v) (h:DataW.Trod enc Tryz.prog W 0 (λ_=>true) true 30 v d p) (hsz:∀n∈d.weights Tryz.prog 30,n<=reachBytes):∃(a:LD) (q:LDP) (k:Int),a.ok∧U8 k∧v=.agg ((ldC a q).push (.int .u8 k))∧LDAt W a q:=by
 have hc:Tryz.prog.cellsOf 30=10:=Zk;have h1:Tryz.prog.cellsOf 5=1:=Zk;have h2:Tryz.prog.cellsOf 28=9:=Zk;obtain⟨cs,rfl,_⟩:=okWide_struct Tryz.underlying30 hv;obtain⟨fuel,hf⟩:=h;obtain⟨xs,m,rfl,hx0,hl,hx,hel⟩:=Yfn Tryz.underlying30 hf;rw[hc]at hl;match xs,hx with
 | [x0, x1], _ =>
   have e0:=hel 0 _ rfl;have e1:=hel 1 _ rfl;simp[h1,h2]at e0 e1;obtain rfl:d=.agg [x0.1,x1.1]:=by
    have:=congrArg (λ(y:DataW H×List MemPlace)=>y.1) hx0;simpa using this
   obtain⟨a,q,ha,k0,hat⟩:=Zuy e0 λn hn=>hsz n (by rw[DataW.weights,Tryz.underlying30];exact Ydb (j:=0) (t:=28) rfl rfl n hn);obtain⟨z,gz,k1⟩:=Zcn e1;refine⟨a,q,z,ha,gz,congrArg Value.agg (Yfo ?_),hat⟩;have hc0:(Value.agg cs).cells=cs:=rfl;rw[hc0]at hl e0 e1 k0 k1;have hd:cs.toList.drop 9=[.int .u8 z]:=by
    rw[<-k1,Ycm (by rw[Yfs,hl];decide)]
   rw[Array.toList_push,<-k0,<-hd,List.take_append_drop]
end
end
end Go.Proofs.W
