/- The law PupilExit: the chief ray meets the center of the exit pupil,the marginal ray its edge;its contracts,its walk and its card. Part 4 of 11. No condition beside the row. -/
import Derived.Test.YtgkmjekkefmejaaGreatDoorA17
import Derived.Test.YtgkmjekkefmejaaGreatDoorA25
import Derived.Test.YtgkmjekkefmejaaGreatDoorE02
set_option linter.unusedVariables false
set_option linter.unusedSimpArgs false
set_option maxRecDepth 100000
set_option maxHeartbeats 4000000
namespace Go.Proofs.W
open Go.RowKit Go.Mono
section
open Go.Ex
def pK (m:Nat):Nat->Value
 | 0=>.map (some m)
 | _=>.bool false
theorem pK1 (m:Nat):∀i,(pK m i).oneCell'=true
 | 0=>rfl
 | _+1=>rfl
def powRun (o:Oper) (get:Operand->Option SV):Option SV:=
 match o.op with
 | .load t x => if Nat.beq t 180 then match get x with
   | some (.a (.one (.val (.pointer (some ⟨0,0,none⟩)))))=>some (.a (.one (.tok 0)))
   | _=>none
   else none
 | .lookup t x k false => if Nat.beq t 180 then match get x, get k with
   | some (.a (.one (.tok 0))),some (.a (.one (.val (.int .i64 (.ofNat 1)))))=>some (.a (.one (.clo 320 [])))
   | some (.a (.one (.tok 0))),some (.a (.one (.val (.int .i64 (.ofNat 2)))))=>some (.a (.one (.clo 320 [])))
   | some (.a (.one (.tok 0))),some (.a (.one (.val (.int .i64 (.ofNat 3)))))=>some (.a (.one (.clo 321 [])))
   | some (.a (.one (.tok 0))),some (.a (.one (.val (.int .i64 (.ofNat 4)))))=>some (.a (.one (.clo 322 [])))
   | _,_=>none
   else none
 | _=>none
def powF {K:Nat->Value} {hK:∀i,(K i).oneCell'=true} {w0:World} {m:Nat} (h:PowsAt w0 m) (h0:K 0=.map (some m):=by rfl):Fct (qDen K hK) Tryz.prog w0 (λ_=>False) where
 run:=powRun
 sound:=by
  intro o get x hr ρ wc w ev hfr hg;unfold powRun at hr;split at hr
  ·rename_i t x' ho
   split at hr
   ·rename_i ht
    obtain rfl:=Ybe ht;split at hr
    ·rename_i hx
     cases hr;have e1:ev x'=.pointer (some ⟨0,0,none⟩):=by simpa using(hg _ _ hx).1
     have hc:w.cell? ⟨0,0,none⟩=some (.map (some m)):=(Zep (hfr.block 0 h.pos id) 0).trans h.cell;refine⟨.map (some m),?_,(show[Value.map (some m)]=[K 0] by rw[h0])⟩;unfold execOp;rw[ho];simp only[e1,Instr.loadAt,loadVar,Yar,Instr.sureAddr,Yau,Yag,Zf7 (P:=Tryz.prog) (t:=180) (b:=false) Zk,Ybq,if_false];rw[run_load,hc];rfl
    ·cases hr
   ·cases hr
  ·rename_i t y k ho
   split at hr
   ·rename_i ht
    obtain rfl:=Ybe ht;have hb:w.heap[m]? = w0.heap[m]?:=hfr.block m h.lt id;obtain⟨l1,l2,l3,l4⟩:=h.look w hb
    have go:∀{z:Int} {g:Nat},get y=some (.a (.one (.tok 0)))->get k=some (.a (.one (.val (.int .i64 z))))->(Instr.lookup 180 (.map (some m)) (.int .i64 z) false).run Tryz.prog w=.ok (.func (.func g) #[] #[]) w->
      ∃v,(execOp ev o).run Tryz.prog w=.ok (.value v) w∧denV (qDen K hK) ρ wc (.a (.one (.clo g []))) v:=by
     intro z g hy hk hl;have e1:ev y=.map (some m):=by
      have:[ev y]=[K 0]:=hg _ _ hy;rw[h0]at this;simpa using this
     have e2:ev k=.int .i64 z:=by simpa using(hg _ _ hk).1
     refine⟨_,?_,[],rfl,rfl⟩;unfold execOp;simp only[ho,e1,e2,Yar,hl,Yag,Yau]
    split at hr
    ·rename_i hy hk;cases hr;exact go hy hk l1
    ·rename_i hy hk;cases hr;exact go hy hk l2
    ·rename_i hy hk;cases hr;exact go hy hk l3
    ·rename_i hy hk;cases hr;exact go hy hk l4
    ·cases hr
   ·cases hr
  ·cases hr
end
section
open Go.Ex
variable {K:Nat->Value} {hK:∀i,(K i).oneCell'=true}
def viewRun (val:Lns->Nat->Nat->Option Rat) (args:List SA) (bk:List (Nat×Blk)) (orc:List (Option Bool)):Option (SV×List Prop×List (Option Bool)):=
 match args with
 | [.agg [x0, x1, x2, x3, x4, x5, x6, x7, x8, x9, .val (.int .i64 (.ofNat k))], .one (.val (.int .i64 (.ofNat s)))] => match parseO bk [x0, x1, x2, x3, x4, x5, x6, x7, x8, x9] with
   | some a=>if a.optB&&Nat.blt k a.nw&&Nat.blt s a.ns then(val a k s).bind λq=>qcase q λq=>some (.a (.agg [.quo q]),[],orc) else none
   | none=>none
 | _=>none
def viewSpec (w0:World) (X:Nat->Prop) (f:FuncId) (val:Lns->Nat->Nat->Option Rat)
    (h:∀(a:Lns) (k s:Nat) (q:Rat),val a k s=some q->a.opt->∀(pl:Plc) (w:World),Frm w0 X w->Chk a pl->OptAt w a pl->s<a.ns->k<a.nw->Calls Tryz.prog f #[.agg (a.vvals pl k),.int .i64 (s:Int)] w λe w'=>∃C,e=.returned (.agg C)∧QV w' (.agg C) q∧Below w.heap.size w w') :
    Ctr (qDen K hK) Tryz.prog w0 X:=.plain f (viewRun val)<|by
    intro args bk orc v obl orc' hr hobl ρ w vals hfr hb hargs;unfold viewRun at hr;split at hr
    ·rename_i x0 x1 x2 x3 x4 x5 x6 x7 x8 x9 k s
     split at hr
     ·rename_i a ha
      split at hr
      ·rename_i hok
       rw[Yam,Yam]at hok;obtain⟨⟨o1,o3⟩,o4⟩:=hok;obtain⟨q,hq,e⟩:=Ybg.1 hr;rw[Zcx]at e;cases e;rw[Nat.blt_eq]at o3 o4;obtain⟨v1,r1,rfl,⟨cs,rfl,h1⟩,v2,r2,rfl,h2,h3⟩:=hargs;obtain rfl:r2=[]:=h3;obtain rfl:v2=.int .i64 (s:Int):=by simpa using h2.1
       obtain⟨cs1,rfl,h9⟩:∃cs1,cs=cs1++[Value.int .i64 (k:Int)]∧denL (qDen K hK) ρ w [x0,x1,x2,x3,x4,x5,x6,x7,x8,x9] cs1:=by
        obtain⟨b0,_,rfl,g0,b1,_,rfl,g1,b2,_,rfl,g2,b3,_,rfl,g3,b4,_,rfl,g4,b5,_,rfl,g5,b6,_,rfl,g6,b7,_,rfl,g7,b8,_,rfl,g8,b9,_,rfl,g9,b10,r10,rfl,⟨rfl,_⟩,g11⟩:=h1;obtain rfl:r10=[]:=g11;exact⟨b0++(b1++(b2++(b3++(b4++(b5++(b6++(b7++(b8++(b9++[]))))))))),by simp[Ybx],⟨_,_,rfl,g0,_,_,rfl,g1,_,_,rfl,g2,_,_,rfl,g3,_,_,rfl,g4,_,_,rfl,g5,_,_,rfl,g6,_,_,rfl,g7,_,_,rfl,g8,_,_,rfl,g9,rfl⟩⟩
       obtain⟨pl,q5,q6⟩:=Zh5 hb ha h9;have hopt:=Lns.optB_ok o1;have e9:(cs1++[Value.int .i64 (k:Int)]).toArray=a.vvals pl k:=by
        have:(cs1++[Value.int .i64 (k:Int)]).toArray=cs1.toArray.push (Value.int .i64 (k:Int)):=Zs;rw[this,q5];rfl
       rw[e9];refine(h a k s q hq hopt pl w hfr (λW hW=>Zjq a hopt pl W hW) q6 o4 o3).mono ?_;rintro e w' ⟨C,rfl,hC,hbl⟩;exact⟨_,rfl,den_quo.2 hC,hbl⟩
      ·cases hr
     ·cases hr
    ·cases hr
def cVIndex (w0:World) (X:Nat->Prop):Ctr (qDen K hK) Tryz.prog w0 X:=viewSpec w0 X 55 (λa k s=>some (a.nI k s)) λa k s q hq ha pl w _ hc ho s1 k1=>by
 cases hq;exact Zge a ha pl hc s k w ho s1 k1
def powB (a:Lns) (k s:Nat):Option Rat:=
 match fitC (a.step k s),fitC (a.cv s*a.step k s),fitC (a.gr k s),fitC (a.cv s*a.step k s-a.gr k s) with
 | some _,some _,some _,some _=>some (a.pow k s)
 | _,_,_,_=>none
theorem Zko {q:Rat} {L:List Prop} (h:fitC q=some L):Fits q:=by
 have hL:L=[]:=by
  unfold fitC at h;split at h
  ·cases h;rfl
  ·cases h
 subst hL;exact sideC.hfit q [] h Zs
def cVPower {w0:World} {m:Nat} (hp:PowsAt w0 m):Ctr (qDen K hK) Tryz.prog w0 (λ_=>False):=viewSpec w0 _ 73 powB λa k s q hq ha pl w hfr hc ho s1 k1=>by
 unfold powB at hq;split at hq
 ·rename_i h1 h2 h3 h4
  cases hq;exact Zoi a ha pl hc s k w ho s1 k1 ⟨Zko h1,Zko h2,Zko h3,Zko h4⟩ m (hp.below hfr.below)
 ·cases hq
end
section
open Go.Ex
def spM {w:World} {m:Nat} (h:PowsAt w m):List (Ctr (qDen (pK m) (pK1 m)) Tryz.prog w (λ_=>False)):=cOCheck w _::cLCheck w _::cVIndex w _::cVPower h::cProduct w _::spC w (λ_=>False)
theorem Zyp {w:World} {m:Nat} (sp:List (Ctr (qDen (pK m) (pK1 m)) Tryz.prog w (λ_=>False))) (fx:List (Fct (qDen (pK m) (pK1 m)) Tryz.prog w (λ_=>False))) {f:FuncId} {d:Nat}
  (hev:(evF Tryz.prog sp fx d [] f [] [] 0 0 []).map (λr=>(r.v,r.obl,r.pan))=some (.a (.one (.val (.bool true))),[],none)) :
  Calls Tryz.prog f #[] w λe w'=>e=.returned (.bool true)∧Below w.heap.size w w':=by
 refine(Zip (D:=qDen (pK m) (pK1 m)) (d:=d) (orc:=[]) (args:=[]) Zde sp fx (.a (.one (.val (.bool true)))) [] hev trivial (vals:=[]) rfl).mono ?_;rintro e w' ⟨v,ρ',rfl,hv,hb⟩;obtain rfl:v=.bool true:=by simpa using hv.1
 exact⟨rfl,hb⟩
end
section
open Go.Ex
section
variable {K:Nat->Value} {hK:∀i,(K i).oneCell'=true}
def uptoL {α:Type} (f:Nat->List α):Nat->Nat->List α
 | _,0=>[]
 | k,n+1=>f k++uptoL f (k+1) n
def upto {α:Type} (f:Nat->α):Nat->Nat->List α
 | _,0=>[]
 | k,n+1=>f k::upto f (k+1) n
theorem Zo1 {α:Type} (f:Nat->α):∀(n k i:Nat),i<n->(upto f k n)[i]? = some (f (k+i))
 | 0,k,i,h=>Zo
 | n+1,k,0,h=>rfl
 | n + 1, k, i + 1, h => by
   unfold upto;rw[List.getElem?_cons_succ,Zo1 f n (k+1) i Zo,show k+1+i=k+(i+1) by omega]
theorem Zo2 {α:Type} (f:Nat->α):∀(n k:Nat),(upto f k n).length=n
 | 0,k=>rfl
 | n+1,k=>by unfold upto;rw[Ybm,Zo2 f n]
theorem Zo3 {α:Type} (f:Nat->α) {x:α}:∀(n k:Nat),x∈upto f k n->∃i,k<=i∧i<k+n∧x=f i
 | 0,k,h=>by cases h
 | n + 1, k, h => by
   unfold upto at h;rcases Ycp.1 h with rfl|h
   ·exact⟨k,Yab _,Zo,rfl⟩
   ·obtain⟨i,h1,h2,h3⟩:=Zo3 f n (k+1) h
    exact⟨i,Zo,Zo,h3⟩
theorem Zda {ρ:Nm} {w:World} {f:Nat->List U} {g:Nat->List Value}:∀(n k:Nat),(∀i,k<=i->i<k+n->denL (qDen K hK) ρ w (f i) (g i))->denL (qDen K hK) ρ w (uptoL f k n) (uptoL g k n)
 | 0,k,h=>rfl
 | n+1,k,h=>(h k (Yab _) Zo).append (Zda n (k+1) λi h1 h2=>h i Zo Zo)
theorem Zcd {w:World} {b off sz:Nat} {g:Nat->List Value}:∀(n k:Nat),(∀i,k<=i->i<k+n->(g i).length=sz∧∀j v,(g i)[j]? = some v->w.cell? ⟨b,off+i*sz+j,none⟩=some v)->w.rangeAt b (off+k*sz) (uptoL g k n)
 | 0,k,h=>λj v hj=>by simp[uptoL]at hj
 | n + 1, k, h => λj v hj => by
   obtain⟨h1,h2⟩:=h k (Yab _) Zo;unfold uptoL at hj;by_cases hjs:j<sz
   ·rw[Ybb Zo]at hj
    exact h2 j v hj
   ·rw[Ybc Zo,h1]at hj
    have:=Zcd n (k+1) (λi h1 h2=>h i Zo Zo) (j-sz) v hj;rw[Yeb,show off+(k*sz+sz)+(j-sz)=off+k*sz+j by omega]at this;exact this
def iU (z:Int):U:=.val (.int .i64 z)
def srfUs (s:Srf) (p:Option Addr) (c:Nat):List U:=
 [iU s.kind,iU s.curv,iU s.conic,iU s.curvx,iU s.conicx,iU s.a0,iU s.a1,iU s.a2,iU s.a3,iU s.p0,iU s.p1,iU s.order,iU s.thick,.val (.string s.glass),iU s.semi,iU s.hole,iU s.dx,iU s.dy,iU s.ax,iU s.ay,iU s.az,.raw 1 [.slice p s.co.length c]]
theorem Zbd {ρ:Nm} {w:World} (z:Int):denU (qDen K hK) ρ w (iU z) [.int .i64 z]:=⟨rfl,rfl⟩
theorem Zuc {ρ:Nm} {w:World} (s:Srf) (p:Option Addr) (c:Nat):denL (qDen K hK) ρ w (srfUs s p c) (s.cs p c).toList:=
 ⟨_,_,rfl,Zbd _,_,_,rfl,Zbd _,_,_,rfl,Zbd _,_,_,rfl,Zbd _,_,_,rfl,Zbd _,_,_,rfl,Zbd _,_,_,rfl,Zbd _,_,_,rfl,Zbd _,_,_,rfl,Zbd _,_,_,rfl,Zbd _,_,_,rfl,Zbd _,_,_,rfl,Zbd _,_,_,rfl,Zbd _,_,_,rfl,⟨rfl,rfl⟩,
  _,_,rfl,Zbd _,_,_,rfl,Zbd _,_,_,rfl,Zbd _,_,_,rfl,Zbd _,_,_,rfl,Zbd _,_,_,rfl,Zbd _,_,_,rfl,Zbd _,[_],[],rfl,⟨rfl,rfl,by simp[Value.oneCell']⟩,rfl⟩
def bkU (a:Lns) (q:Plc):List (Nat×Blk):=
 (0,⟨0,uptoL (λi=>[iU (a.X i),iU (a.Y i)]) 0 a.nf,true,false,false⟩)::
 (1,⟨0,uptoL (λi=>[iU (a.L i),iU (a.W i)]) 0 a.nw,true,false,false⟩)::
 (2,⟨0,uptoL (λi=>srfUs (a.S i) (q.cp i) (q.cl i)) 0 a.ns,true,false,false⟩)::
 (3,⟨0,uptoL (λi=>[.sli (4+i) 0 a.nw]) 0 a.ns,true,false,false⟩)::
 upto (λi=>(4+i,⟨0,uptoL (λj=>[iU (a.ix i j)]) 0 a.nw,true,false,false⟩)) 0 a.ns
def usU (a:Lns) (q:Plc):List U:=[.val (.string a.nm),iU a.di,iU a.pu,iU a.st,iU a.pr,.sli 0 0 a.nf,.sli 1 0 a.nw,.sli 2 0 a.ns,.raw 1 [.slice q.pc 0 q.cc],.sli 3 0 a.ns]
theorem Zo4 (f:Nat->Vw):∀(n k i:Nat),bkV (i+k) (upto f k n)=upto (λj=>(i+j,⟨(f j).T,(f j).l,true,false,false⟩)) k n
 | 0,k,i=>rfl
 | n + 1, k, i => by
   unfold upto bkV;rw[show i+k+1=i+(k+1) by omega,Zo4 f n (k+1) i]
theorem Zzv {a:Lns} (h1:0<a.nf) (h2:0<a.nw) (h3:0<a.ns) {w:World} {q:Plc} (ha:OptAt w a q) :
  ∃vs:List Vw,bkU a q=bkV 0 vs∧vs.length=4+a.ns∧(∀v∈vs,VwOk (qDen K hK) w vs v)∧denA (qDen K hK) (nmV vs) w (.agg (usU a q)) (.agg (a.ovals q)):=by
 obtain⟨⟨⟨cf,_,hf⟩,⟨cw,_,hw⟩,⟨cs,_,hs⟩,_⟩,⟨ci,_,hi⟩,hrow⟩:=ha;obtain⟨bf,of,ef,lf,gf⟩:=hf h1;obtain⟨bw,ow,ew,lw,gw⟩:=hw h2;obtain⟨bs,os,es,ls,gs⟩:=hs h3;obtain⟨bi,oi,ei,li,gi⟩:=hi h3;have hr:∀i,∃b o,i<a.ns->q.pI i=some ⟨b,o,none⟩∧b<w.heap.size∧a.nw<=q.cI i∧∀j,j<a.nw->w.cell? ⟨b,o+j,none⟩=some (.int .i64 (a.ix i j)):=by
  intro i;by_cases hin:i<a.ns
  ·obtain⟨c1,_,g⟩:=hrow i hin
   obtain⟨b,o,e,l,g⟩:=g h2;exact⟨b,o,λ_=>⟨e,l,c1,g⟩⟩
  ·exact⟨0,0,λh=>absurd h hin⟩
 let br:=λi=>Classical.choose (hr i)
 let ot:=λi=>Classical.choose (Classical.choose_spec (hr i))
 have hr':∀i,i<a.ns->q.pI i=some ⟨br i,ot i,none⟩∧br i<w.heap.size∧a.nw<=q.cI i∧∀j,j<a.nw->w.cell? ⟨br i,ot i+j,none⟩=some (.int .i64 (a.ix i j)):=λi=>Classical.choose_spec (Classical.choose_spec (hr i));generalize br=br at hr';generalize ot=ot at hr';refine⟨⟨0,uptoL (λi=>[iU (a.X i),iU (a.Y i)]) 0 a.nf,bf,of,uptoL (λi=>[.int .i64 (a.X i),.int .i64 (a.Y i)]) 0 a.nf⟩::
  ⟨0,uptoL (λi=>[iU (a.L i),iU (a.W i)]) 0 a.nw,bw,ow,uptoL (λi=>[.int .i64 (a.L i),.int .i64 (a.W i)]) 0 a.nw⟩::
  ⟨0,uptoL (λi=>srfUs (a.S i) (q.cp i) (q.cl i)) 0 a.ns,bs,os,uptoL (λi=>((a.S i).cs (q.cp i) (q.cl i)).toList) 0 a.ns⟩::
  ⟨0,uptoL (λi=>[.sli (4+i) 0 a.nw]) 0 a.ns,bi,oi,uptoL (λi=>[.slice (q.pI i) a.nw (q.cI i)]) 0 a.ns⟩::
  upto (λi=>⟨0,uptoL (λj=>[iU (a.ix i j)]) 0 a.nw,br i,ot i,uptoL (λj=>[.int .i64 (a.ix i j)]) 0 a.nw⟩) 0 a.ns,?_,?_,?_,?_⟩
 ·unfold bkU bkV
  have:=Zo4 (λi=>⟨0,uptoL (λj=>[iU (a.ix i j)]) 0 a.nw,br i,ot i,uptoL (λj=>[.int .i64 (a.ix i j)]) 0 a.nw⟩) a.ns 0 4;simp only[bkV];rw[this]
 ·simp[Zo2]
  omega
 ·generalize hvs:(_::_::_::_::upto _ 0 a.ns:List Vw)=vs
  have hnm:∀i,i<a.ns->nmV vs (4+i)=some ⟨br i,ot i,true,0,0⟩:=by
   intro i hin;unfold nmV;rw[<-hvs,show 4+i=i+1+1+1+1 by omega];simp only[List.getElem?_cons_succ];rw[Zo1 _ _ _ _ hin];simp
  intro v hv;rw[<-hvs]at hv;rcases Ycp.1 hv with rfl|hv
  ·refine⟨lf,?_,Zda _ _ λi _ _=>⟨[_],_,rfl,Zbd _,[_],[],rfl,Zbd _,rfl⟩⟩
   have:=Zcd (w:=w) (b:=bf) (off:=of) (sz:=2) (g:=λi=>[.int .i64 (a.X i),.int .i64 (a.Y i)]) a.nf 0 λi _ hin=>⟨rfl,λj v hj=>?_⟩
   ·simpa using this
   ·have hj2:j<2:=(Yan.1 hj).1
    rw[gf i j Zo hj2];rcases(by omega:j=0∨j=1) with rfl|rfl
    ·simpa using hj
    ·simpa using hj
  rcases Ycp.1 hv with rfl|hv
  ·refine⟨lw,?_,Zda _ _ λi _ _=>⟨[_],_,rfl,Zbd _,[_],[],rfl,Zbd _,rfl⟩⟩
   have:=Zcd (w:=w) (b:=bw) (off:=ow) (sz:=2) (g:=λi=>[.int .i64 (a.L i),.int .i64 (a.W i)]) a.nw 0 λi _ hin=>⟨rfl,λj v hj=>?_⟩
   ·simpa using this
   ·have hj2:j<2:=(Yan.1 hj).1
    rw[gw i j Zo hj2];rcases(by omega:j=0∨j=1) with rfl|rfl
    ·simpa using hj
    ·simpa using hj
  rcases Ycp.1 hv with rfl|hv
  ·refine⟨ls,?_,Zda _ _ λi _ _=>Zuc _ _ _⟩
   have:=Zcd (w:=w) (b:=bs) (off:=os) (sz:=22) (g:=λi=>((a.S i).cs (q.cp i) (q.cl i)).toList) a.ns 0 λi _ hin=>⟨rfl,λj v hj=>?_⟩
   ·simpa using this
   ·have hj2:j<22:=(Yan.1 hj).1
    rw[gs i j Zo hj2];have e:=Zsc (A:=(a.S i).cs (q.cp i) (q.cl i)) (j:=j) hj2;rw[e]at hj;exact hj
  rcases Ycp.1 hv with rfl|hv
  ·refine⟨li,?_,Zda _ _ λi _ hin=>?_⟩
   ·have:=Zcd (w:=w) (b:=bi) (off:=oi) (sz:=1) (g:=λi=>[.slice (q.pI i) a.nw (q.cI i)]) a.ns 0 λi _ hin=>⟨rfl,λj v hj=>?_⟩
    ·simpa using this
    ·have hj2:j<1:=(Yan.1 hj).1
     obtain rfl:j=0:=Zo;rw[gi i 0 Zo Zo];simpa using hj
   ·obtain⟨e1,e2,e3,e4⟩:=hr' i Zo
    exact⟨[_],[],rfl,⟨_,q.cI i,hnm i Zo,e3,by rw[e1];rfl⟩,rfl⟩
  ·obtain⟨i,_,hin,rfl⟩:=Zo3 _ _ _ hv
   obtain⟨e1,e2,e3,e4⟩:=hr' i Zo;refine⟨e2,?_,Zda _ _ λj _ _=>⟨[_],[],rfl,Zbd _,rfl⟩⟩;have:=Zcd (w:=w) (b:=br i) (off:=ot i) (sz:=1) (g:=λj=>[.int .i64 (a.ix i j)]) a.nw 0 λj _ hjn=>⟨rfl,λk v hk=>?_⟩
   ·simpa using this
   ·have hk2:k<1:=(Yan.1 hk).1
    obtain rfl:k=0:=Zo;rw[Yfk,Yce,e4 j Zo];simpa using hk
 ·unfold usU
  refine⟨_,rfl,[_],_,rfl,⟨rfl,rfl⟩,[_],_,rfl,Zbd _,[_],_,rfl,Zbd _,[_],_,rfl,Zbd _,[_],_,rfl,Zbd _,[_],_,rfl,⟨⟨bf,of,true,0,0⟩,q.cf,rfl,cf,by rw[ef];rfl⟩,[_],_,rfl,⟨⟨bw,ow,true,0,0⟩,q.cw,rfl,cw,by rw[ew];rfl⟩,
   [_],_,rfl,⟨⟨bs,os,true,0,0⟩,q.cs,rfl,cs,by rw[es];rfl⟩,[_],_,rfl,⟨rfl,rfl,by simp[Value.oneCell']⟩,[_],[],rfl,⟨⟨bi,oi,true,0,0⟩,q.ci,rfl,ci,by rw[ei];rfl⟩,rfl⟩
end
end
section
open Go.Ex
section
variable {K:Nat->Value} {hK:∀i,(K i).oneCell'=true}
def eqL (x a:Lns):Bool:=
 decide (x.nm=a.nm)&&decide (x.di=a.di)&&decide (x.pu=a.pu)&&decide (x.st=a.st)&&decide (x.pr=a.pr)&&Nat.beq x.nf a.nf&&Nat.beq x.nw a.nw&&Nat.beq x.ns a.ns&&
 allB a.nf (λi=>decide (x.X i=a.X i)&&decide (x.Y i=a.Y i))&&allB a.nw (λi=>decide (x.L i=a.L i)&&decide (x.W i=a.W i))&&allB a.ns (λi=>(x.S i).eqv (a.S i))&&allB a.ns (λi=>allB a.nw λj=>decide (x.ix i j=a.ix i j))
theorem Zh6 {w:World} {p:Option Addr} {n c sz:Nat} {f g:Nat->Nat->Value} (h:RdC w p n c sz f) (e:∀i j,i<n->j<sz->f i j=g i j):RdC w p n c sz g:=by
 obtain⟨h1,h2,h3⟩:=h;refine⟨h1,h2,λhn=>?_⟩;obtain⟨b,off,hp,hb,hc⟩:=h3 hn;exact⟨b,off,hp,hb,λi j hi hj=>by rw[hc i j hi hj,e i j hi hj]⟩
theorem Zzw {x a:Lns} (h:eqL x a=true):(∀q,x.ovals q=a.ovals q)∧∀w q,OptAt w x q->OptAt w a q:=by
 unfold eqL at h;simp only[Yam,decide_eq_true_eq]at h;obtain⟨⟨⟨⟨⟨⟨⟨⟨⟨⟨⟨h1,h2⟩,h3⟩,h4⟩,h5⟩,h6⟩,h7⟩,h8⟩,h9⟩,h10⟩,h11⟩,h12⟩:=h;have h6:=Ybe h6;have h7:=Ybe h7;have h8:=Ybe h8;have g9:=λi hi=>by simpa using Zb1 h9 i hi
 have g10:=λi hi=>by simpa using Zb1 h10 i hi
 have g11:=λi hi=>Srf.eqv_ok (Zb1 h11 i hi);have g12:=λi hi j hj=>by simpa using Zb1 (Zb1 h12 i hi) j hj
 refine⟨λq=>by unfold Lns.ovals;rw[h1,h2,h3,h4,h5,h6,h7,h8],λw q ho=>?_⟩;obtain⟨⟨hf,hw,hs,hco⟩,hi,hr⟩:=ho;rw[h6]at hf;rw[h7]at hw;rw[h8]at hs hi hr hco;rw[h7]at hi hr;refine⟨⟨Zh6 hf λi j hin hj=>?_,Zh6 hw λi j hin hj=>?_,Zh6 hs λi j hin hj=>?_,λi hin=>by rw[<-g11 i hin];exact hco i hin⟩,hi,λi hin=>?_⟩
 ·obtain⟨e1,e2⟩:=g9 i hin
  rw[e1,e2]
 ·obtain⟨e1,e2⟩:=g10 i hin
  rw[e1,e2]
 ·rw[g11 i hin]
 ·obtain⟨k1,k2,k3⟩:=hr i hin
  refine⟨k1,k2,λhn=>?_⟩;obtain⟨b,off,hp,hb,hc⟩:=k3 hn;exact⟨b,off,hp,hb,λj hj=>by rw[hc j hj,g12 i hin j hj]⟩
def eqZ:List SA->List Int->Bool
 | [],[]=>true
 | .one (.val (.int .i64 z))::l,y::r=>decide (z=y)&&eqZ l r
 | _,_=>false
theorem Zwu {ρ:Nm} {w:World}:∀{l:List SA} {r:List Int} {vs:List Value},eqZ l r=true->denAs (qDen K hK) ρ w l vs->vs=r.map (Value.int .i64)
 | [],[],vs,_,h=>h
 | [],_::_,vs,h,_=>by simp[eqZ]at h
 | x :: l, r, vs, h, hd => by
   unfold eqZ at h;split at h
   ·rename_i e;cases e
   ·rename_i z l' y r' e
    cases e;rw[Yam,decide_eq_true_eq]at h;obtain⟨rfl,h⟩:=h;obtain⟨v,t,rfl,hv,ht⟩:=hd;obtain rfl:v=.int .i64 z:=by simpa using hv.1
    rw[Zwu h ht];rfl
   ·cases h
def memoRun (a:Lns) (zs:List Int) (args:List SA) (bk:List (Nat×Blk)):Bool:=
 match args with
 | .agg x :: l => match parseO bk x with
   | some y=>eqL y a&&eqZ l zs
   | none=>false
 | _=>false
theorem Zqq {a:Lns} {zs:List Int} {args:List SA} {bk:List (Nat×Blk)} (h:memoRun a zs args bk=true) {ρ:Nm} {w:World} (hb:BkOk (qDen K hK) ρ w w bk) {vals:List Value} (hv:denAs (qDen K hK) ρ w args vals) :
  ∃q,OptAt w a q∧vals=.agg (a.ovals q)::zs.map (Value.int .i64):=by
 unfold memoRun at h;split at h
 ·rename_i x l
  split at h
  ·rename_i y hy
   rw[Yam]at h;obtain⟨v,t,rfl,⟨cs,rfl,hcs⟩,ht⟩:=hv;obtain⟨q,e,ho⟩:=Zh5 hb hy hcs;obtain⟨g1,g2⟩:=Zzw h.1;exact⟨q,g2 w q ho,by rw[e,g1,Zwu h.2 ht]⟩
  ·cases h
 ·cases h
def Memo (m:Nat) (f:FuncId) (a:Lns) (zs:List Int) (V:SV):Prop:=
 ∀(w:World),PowsAt w m->∀q,OptAt w a q->∀ρ,Calls Tryz.prog f (.agg (a.ovals q)::zs.map (Value.int .i64)).toArray w λe w'=>∃v,e=.returned v∧denV (qDen (pK m) (pK1 m)) ρ w' V v∧Below w.heap.size w w'
def cMemo {m:Nat} {w0:World} (hp:PowsAt w0 m) {f:FuncId} {a:Lns} {zs:List Int} {V:SV} (h:Memo m f a zs V):Ctr (qDen (pK m) (pK1 m)) Tryz.prog w0 (λ_=>False):=.plain f (λargs bk orc=>if memoRun a zs args bk then some (V,[],orc) else none)<|by
 intro args bk orc v obl orc' hr hobl ρ w vals hfr hb hargs;split at hr
 ·rename_i hm
  cases hr;obtain⟨q,ho,rfl⟩:=Zqq hm hb hargs;exact h w (hp.below hfr.below) q ho ρ
 ·cases hr
def Ctr.or {D:Den} {P:Program} {w0:World} {X:Nat->Prop} (p q:Ctr D P w0 X) (h:p.f=q.f):Ctr D P w0 X where
 f:=p.f
 run:=λargs bk c orc=>match p.run args bk c orc with
  | some r=>some r
  | none=>q.run args bk c orc
 cc:=λargs bk c orc r hr=>by
  split at hr
  ·rename_i r' h'
   cases hr;exact p.cc _ _ _ _ _ h'
  ·exact q.cc _ _ _ _ _ hr
 sound:=λargs bk c orc r hr=>by
  split at hr
  ·rename_i r' h'
   cases hr;exact p.sound _ _ _ _ _ h'
  ·rw[h]
   exact q.sound _ _ _ _ _ hr
def plainU:U->Bool
 | .val _=>true
 | .quo _=>true
 | _=>false
theorem Zi2 {D:Den} {ρ ρ':Nm} {w:World}:∀{l:List U} {cs:List Value},l.all plainU=true->denL D ρ w l cs->denL D ρ' w l cs
 | [],_,_,h=>h
 | u :: l, _, hp, ⟨c, d, e, hc, hd⟩ => by
   rw[List.all_cons,Yam]at hp;refine⟨c,d,e,?_,Zi2 hp.2 hd⟩;cases u<;>first|exact hc|cases hp.1
def plainA:SA->Bool
 | .one u=>plainU u
 | .agg l=>l.all plainU
theorem Zi3 {D:Den} {ρ ρ':Nm} {w:World} {x:SA} {v:Value} (hp:plainA x=true) (h:denA D ρ w x v):denA D ρ' w x v:=by
 cases x with
 | one u =>
   show denU D ρ' w u [v];cases u<;>first|exact h|cases hp
 | agg l=>exact⟨h.choose,h.choose_spec.1,Zi2 hp h.choose_spec.2⟩
theorem Zh7 {D:Den} {ρ ρ':Nm} {w:World}:∀{l:List SA} {vs:List Value},l.all plainA=true->denAs D ρ w l vs->denAs D ρ' w l vs
 | [],_,_,h=>h
 | x :: l, _, hp, ⟨v, r, e, hv, hr⟩ => by
   rw[List.all_cons,Yam]at hp;exact⟨v,r,e,Zi3 hp.1 hv,Zh7 hp.2 hr⟩
def plainV:SV->Bool
 | .a x=>plainA x
 | .tup l=>l.all plainA
 | .no=>true
theorem Zqr {D:Den} {ρ ρ':Nm} {w:World} {x:SV} {v:Value} (hp:plainV x=true) (h:denV D ρ w x v):denV D ρ' w x v:=by
 cases x with
 | a x=>exact Zi3 hp h
 | tup l=>exact⟨h.choose,h.choose_spec.1,Zh7 hp h.choose_spec.2⟩
 | no=>trivial
def zsU (zs:List Int):List SA:=zs.map λz=>.one (iU z)
theorem Zud {ρ:Nm} {w:World}:∀zs:List Int,denAs (qDen K hK) ρ w (zsU zs) (zs.map (Value.int .i64))
 | []=>rfl
 | z::r=>⟨_,_,rfl,Zbd (K:=K) (hK:=hK) (ρ:=ρ) (w:=w) z,Zud r⟩
theorem Zfu {m:Nat} {f:FuncId} {a:Lns} {zs:List Int} {V:SV} (hV:plainV V=true) (h0:(Nat.blt 0 a.nf&&Nat.blt 0 a.nw&&Nat.blt 0 a.ns)=true) {d:Nat}
  (sp:∀w,PowsAt w m->List (Ctr (qDen (pK m) (pK1 m)) Tryz.prog w (λ_=>False)))
  (hev:∀w (h:PowsAt w m) (q:Plc),(evF Tryz.prog (sp w h) [powF h] d [] f (.agg (usU a q)::zsU zs) (bkU a q) (4+a.ns) (4+a.ns) []).map (λr=>(r.v,r.obl,r.pan))=some (V,[],none)):Memo m f a zs V:=by
 intro w hp q ho ρ;rw[Yam,Yam,Nat.blt_eq,Nat.blt_eq,Nat.blt_eq]at h0;obtain⟨vs,e1,e2,e3,e4⟩:=Zzv (K:=pK m) (hK:=pK1 m) h0.1.1 h0.1.2 h0.2 ho;obtain⟨r,hr,he⟩:=Yad.1 (hev w hp q);simp only[Yco]at he;obtain⟨hv,hobl,hpan⟩:=he;refine(Zfy (D:=qDen (pK m) (pK1 m)) (d:=d) (n:=4+a.ns) (orc:=[]) (args:=.agg (usU a q)::zsU zs) Zde (sp w hp) [powF hp] (bkU a q) e1 e2.symm V [] r.wr ?_ trivial (vals:=.agg (a.ovals q)::zs.map (Value.int .i64)) e3 ⟨_,_,rfl,e4,Zud zs⟩).mono ?_
 ·rw[hr,Yfx,hv,hobl,hpan]
 ·rintro e w' ⟨v,ρ',rfl,hv,hb,_⟩
  exact⟨v,rfl,Zqr hV hv,hb⟩
end
end
section
open Go.Ex
def gG:ByteArray:={data:=#[71]}
def nA:ByteArray:={data:=#[65]}
def sStd (curv thick:Int) (glass:ByteArray):Srf:=⟨1,curv,0,0,0,0,0,0,0,0,0,0,thick,glass,0,0,0,0,0,0,0,[]⟩
def sNo:ByteArray:={data:=#[]}
def g3 {α:Type} (a b c:α):Nat->α
 | 0=>a
 | 1=>b
 | _=>c
def puL (st:Int):Lns:=⟨nA,0,4000000,st,0,1,λ_=>0,λ_=>100000,1,λ_=>587562,λ_=>1,3,g3 (sStd 20000000 3000000 gG) (sStd (-20000000) 10000000 sNo) (sStd 0 0 sNo),λi _=>g3 15000000 10000000 10000000 i⟩
def puFlat:Lns:=⟨nA,0,4000000,0,0,1,λ_=>0,λ_=>100000,1,λ_=>587562,λ_=>1,3,g3 (sStd 0 3000000 gG) (sStd 0 10000000 sNo) (sStd 0 0 sNo),λi _=>g3 15000000 10000000 10000000 i⟩
def g2 {α:Type} (a b:α):Nat->α
 | 0=>a
 | _=>b
end
end Go.Proofs.W
namespace Go.Ex
open Go.RowKit Go.Mono
def Ctr.plainP {D:Den} {P:Program} {w0:World} {X:Nat->Prop} (f:FuncId) (run:List SA->List (Nat×Blk)->List (Option Bool)->Option (SV×List Prop×List (Option Bool)×Option Value))
    (sound:∀args bk orc v obl orc' pan,run args bk orc=some (v,obl,orc',pan)->(∀p∈obl,p)->∀ρ w vals,Frm w0 X w->BkOk D ρ w w bk->denAs D ρ w args vals->
     Calls P f vals.toArray w λe w'=>(match (pan:Option Value) with
      | none=>∃u,e=.returned u∧denV D ρ w' v u
      | some p=>v=.no∧e=.panicked [{v:=p,recovered:=false}])∧Below w.heap.size w w'):Ctr D P w0 X where
 f:=f
 run:=λargs bk c orc=>match run args bk orc with
  | some (v,obl,orc',none)=>some ⟨v,[],obl,orc',c,c,none⟩
  | some (v,obl,orc',some p)=>some ⟨v,bk,obl,orc',c,c,some p⟩
  | none=>none
 cc:=by
  intro args bk c orc r h;split at h<;>cases h<;>exact Yab _
 sound:=by
  intro args bk c orc r h hobl th ρ wc w vals hS hlt hn hargs;have hb:BkOk D ρ w w bk:=λk b hk hd=>by
   obtain⟨B,cs,h1,h2,h3,h4⟩:=hS.bkOk k b hk hd;exact⟨B,cs,h1,h2,h3.mono (Nm.le.refl _) hS.ext,h4⟩
  split at h
  ·rename_i v obl orc' hr
   cases h;refine(sound _ _ _ _ _ _ _ hr hobl ρ w vals hS.fr hb (hargs.mono (Nm.le.refl _) hS.ext)).mono ?_;rintro e w' ⟨⟨u,rfl,hu⟩,hbl⟩;obtain⟨k1,k2⟩:=hS.call hbl c c (λk b hk=>Nat.not_le.2 (hlt k b hk));exact⟨u,ρ,w',rfl,hu,k1,k2⟩
  ·rename_i v obl orc' p hr
   cases h;refine(sound _ _ _ _ _ _ _ hr hobl ρ w vals hS.fr hb (hargs.mono (Nm.le.refl _) hS.ext)).mono ?_;rintro e w' ⟨⟨rfl,rfl⟩,hbl⟩;obtain⟨k1,k2⟩:=hS.call hbl c c (λk b hk=>Nat.not_le.2 (hlt k b hk));exact⟨undef,ρ,w',rfl,trivial,k1,k2⟩
  ·cases h
theorem Zyn {D:Den} {P:Program} (hm:P.follows .mixedOrders=true) {w:World} (sp:List (Ctr D P w (λ_=>False))) (fx:List (Fct D P w (λ_=>False))) {f:FuncId} {d n:Nat} {args:List SA} {orc:List (Option Bool)} {vs:List Vw} (bk:List (Nat×Blk)) (hbk:bk=bkV 0 vs) (hn:n=vs.length) (L:List Prop) (p:Value)
  (hev:(evF P sp fx d [] f args bk n n orc).map (λr=>(r.obl,r.pan))=some (L,some p)) (hL:AllP L) {vals:List Value} (hv:∀v∈vs,VwOk D w vs v) (hargs:denAs D (nmV vs) w args vals) :
  Calls P f vals.toArray w λe w'=>e=.panicked [{v:=p,recovered:=false}]∧Below w.heap.size w w':=by
 obtain⟨r,hr,he⟩:=Yad.1 hev;simp only[Yco]at he;obtain⟨rfl,hpan⟩:=he;subst hbk;subst hn;have hlt:∀k b,(bkV 0 vs).look k=some b->k<vs.length:=λk b hk=>by
  obtain⟨v,_,h2,_⟩:=Zdd hk;have:=(Yan.1 h2).1;omega
 refine(Zlb hm sp fx d [] f args _ _ _ orc _ hr hL.all 0 (nmV vs) w w vals (Zgy hv) trivial hlt (Yab _) (λk h1 _=>by simp[nmV];omega) hargs).mono ?_;rintro e w' ⟨u,ρ',wc',hend,hu,k1,k2⟩;unfold OpR.ends at hend;rw[hpan]at hend;refine⟨hend,k2.os,k2.tape,k2.output,k2.size,λi hi=>k2.loc i hi λk b B hk hB hro=>?_⟩;obtain⟨v,_,h2,rfl⟩:=Zdd hk.1;obtain⟨v',_,rfl⟩:=Yad.1 hB;cases hro
def fldsU (a:Lns):Nat->Nat->List U
 | _,0=>[]
 | s,n+1=>.sym (a.X s)::.sym (a.Y s)::fldsU a (s+1) n
def fldsC (a:Lns):Nat->Nat->List Value
 | _,0=>[]
 | s,n+1=>.int .i64 (a.X s)::.int .i64 (a.Y s)::fldsC a (s+1) n
theorem Zfa {D:Den} {ρ:Nm} {w:World} {a:Lns}:∀(n s:Nat) {cs:List Value},denL D ρ w (fldsU a s n) cs↔cs=fldsC a s n
 | 0,s,cs=>Iff.rfl
 | n + 1, s, cs => by
   constructor
   ·rintro⟨c0,d0,rfl,h0,c1,d1,rfl,h1,h⟩
    cases h0;cases h1;rw[(Zfa n (s+1)).1 h];rfl
   ·rintro rfl
    exact⟨[_],_,rfl,rfl,[_],_,rfl,rfl,(Zfa n (s+1)).2 rfl⟩
theorem Zmf (a:Lns):∀(n s:Nat),(fldsC a s n).length=n*2
 | 0,_=>rfl
 | n+1,s=>by unfold fldsC;rw[Ybm,Ybm,Zmf a n (s+1)];omega
theorem Zh1 (a:Lns):∀(n s i j:Nat),i<n->j<2->(fldsC a s n)[i*2+j]? = some (if j=0 then .int .i64 (a.X (s+i)) else .int .i64 (a.Y (s+i)))
 | 0,_,_,_,h,_=>absurd h Zo
 | n+1,s,0,0,_,_=>rfl
 | n+1,s,0,1,_,_=>rfl
 | n+1,s,0,j+2,_,h=>absurd h Zo
 | n + 1, s, i + 1, j, hi, hj => by
   rw[show(i+1)*2+j=(i*2+j)+1+1 by omega];unfold fldsC;rw[List.getElem?_cons_succ,List.getElem?_cons_succ,Zh1 a n (s+1) i j Zo hj,show s+1+i=s+(i+1) by omega]
def optF (a:Lns) (q:Plc) (nf k:Nat):List U:=[.val (.string a.nm),.sym a.di,.sym a.pu,.sym a.st,.sym a.pr,.slc k 0 nf q.cf,.raw 1 [.slice q.pw a.nw q.cw],.raw 1 [.slice q.ps a.ns q.cs],.val (.slice q.pc 0 q.cc),.val (.slice q.pi a.ns q.ci)]
theorem Zow {D:Den} {ρ:Nm} {w:World} {a:Lns} {q:Plc} {nf k:Nat} (hnf:a.nf=nf) {cs:List Value}:denL D ρ w (optF a q nf k) cs↔∃B,ρ k=some B∧cs=(a.ovals {q with pf:=some ⟨B.blk,B.base,none⟩}).toList:=by
 subst hnf;constructor
 ·rintro⟨_,d0,rfl,⟨h0,_⟩,_,d1,rfl,h1,_,d2,rfl,h2,_,d3,rfl,h3,_,d4,rfl,h4,_,d5,rfl,⟨B,hB,h5⟩,_,d6,rfl,⟨h6,_⟩,_,d7,rfl,⟨h7,_⟩,_,d8,rfl,⟨h8,_⟩,_,d9,rfl,⟨h9,_⟩,h⟩
  refine⟨B,hB,?_⟩;cases h0;cases h1;cases h2;cases h3;cases h4;cases h5;cases h6;cases h7;cases h8;cases h9;obtain rfl:d9=[]:=h;rfl
 ·rintro⟨B,hB,rfl⟩
  exact⟨[_],_,rfl,⟨rfl,rfl⟩,[_],_,rfl,rfl,[_],_,rfl,rfl,[_],_,rfl,rfl,[_],_,rfl,rfl,[_],_,rfl,⟨B,hB,rfl⟩,[_],_,rfl,⟨rfl,rfl,by simp[Value.oneCell']⟩,[_],_,rfl,⟨rfl,rfl,by simp[Value.oneCell']⟩,[_],_,rfl,⟨rfl,rfl⟩,[_],_,rfl,⟨rfl,rfl⟩,rfl⟩
end Go.Ex
namespace Go.Proofs.W
open Go.RowKit Go.Mono
section
open Go.Ex
def fldB (a:Lns) (nf:Nat):Blk:=⟨69,fldsU a 0 nf,true,false,false⟩
def seesF {a:Lns} (ha:a.opt) (q:Plc) {nf:Nat} (hnf:a.nf=nf) {w0:World} (ho:OptAt w0 a q):Sees a w0 where
 run:=λl bk=>match l with
  | [_,_,_,_,_,.slc k _ _ _,_,_,_,_]=>(bk.look k).map λb=>[l=optF a q nf k,b=fldB a nf]
  | _=>none
 ok:=λ{w l bk L ρ cs} hf h hL hb hd=>by
  have ho:=ho.below hf.below;split at h
  ·rename_i k _ _ _ _ _ _ _
   obtain⟨b,hk,e⟩:=Yad.1 h;subst e;have e1:=hL _ (Ycl ..);have e2:b=fldB a nf:=hL _ Zs;subst e2;rw[e1]at hd;obtain⟨B,hB,rfl⟩:=(Zow hnf).1 hd;obtain⟨B',cs',hB',hH,hC,_⟩:=hb _ _ hk rfl;rw[hB]at hB';cases hB';obtain rfl:=(Zfa nf 0).1 hC;refine⟨_,rfl,⟨⟨?_,ho.waves,ho.surfs,ho.coat⟩,ho.index,ho.row⟩⟩;obtain⟨h1,h2,_⟩:=ho.fields;have hc:=λi j (hi:i<a.nf) (hj:j<2)=>hH.cell (Zh1 a nf 0 i j Zo hj);have h0:=ha.base.nf.1;refine⟨h1,h2,λ_=>⟨B.blk,B.base,rfl,Zg6 (hc 0 0 Zo Zd),λi j hi hj=>?_⟩⟩;have:=hc i j hi hj;rw[Yba]at this;rw[Ybj];exact this
  ·cases h
theorem Zt5 {a:Lns} (ha:a.opt) {q:Plc} {nf:Nat} (hnf:a.nf=nf) {w:World} (ho:OptAt w a q):∃b off,q.pf=some ⟨b,off,none⟩∧∀D vs,VwOk D w vs ⟨69,fldsU a 0 nf,b,off,fldsC a 0 nf⟩:=by
 have hn:=ha.base.nf.1;obtain⟨_,_,h⟩:=ho.fields;obtain⟨b,off,hp,hb,hc⟩:=h Zo;refine⟨b,off,hp,λD vs=>⟨hb,λj v hj=>?_,(Zfa nf 0).2 rfl⟩⟩;have hjl:j<nf*2:=by rw[<-Zmf a nf 0];exact(Yan.1 hj).1
 have hg:=Zh1 a nf 0 (j/2) (j%2) Zo Zo;rw[show j/2*2+j%2=j by omega,hj]at hg;cases hg;have:=hc (j/2) (j%2) Zo Zo;rw[show off+j/2*2+j%2=off+j by omega]at this;rw[Yba];exact this
end
section
open Go.Ex
theorem pm1 (m:Nat):Memo m 23 (puL 1) [] (.tup [.agg [.quo (mkRat (100) 49)],.agg [.quo (mkRat (2) 1)],.one (.val (.int .i64 0))]):=Zfu rfl rfl (d:=40) (λw h=>spM h) λw h q=>Zk
theorem pm2 (m:Nat):Memo m 13 (puL 1) [0] (.tup [.agg [.quo (mkRat (-10) 1)],.agg [.quo (mkRat (49) 25)],.one (.val (.int .i64 0))]):=Zfu rfl rfl (d:=40) (λw h=>spM h) λw h q=>Zk
theorem pm3 (m:Nat):Memo m 30 puFlat [0] (.tup [.agg [.val (.bool false),.val (.slice none 0 0),.val (.bool false),.val (.slice none 0 0)],.one (.val (.int .i64 4))]):=Zfu rfl rfl (d:=40) (λw h=>spM h) λw h q=>Zk
theorem pm4 (m:Nat):Memo m 30 (puL 0) [0] (.tup [.agg [.quo (mkRat (1250) 99)],.one (.val (.int .i64 0))]):=Zfu rfl rfl (d:=40) (λw h=>spM h) λw h q=>Zk
theorem pm5 (m:Nat):Memo m 21 (puL 0) [0,0] (.tup [.agg [.quo (mkRat (500) 99)],.one (.val (.int .i64 0))]):=Zfu rfl rfl (d:=40) (λw h=>spM h) λw h q=>Zk
theorem pm6 (m:Nat):Memo m 9 (puL 0) [0] (.tup [.agg [.quo (mkRat (1) 5)],.one (.val (.int .i64 0))]):=Zfu rfl rfl (d:=40) (λw h=>spM h) λw h q=>Zk
end
end Go.Proofs.W
