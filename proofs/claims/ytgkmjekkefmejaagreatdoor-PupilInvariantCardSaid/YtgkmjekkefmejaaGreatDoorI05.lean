/- The law PupilInvariant: the marginal and the chief ray have the Lagrange invariant at every surface;its contracts,its walk and its card. Part 5 of 11. No condition beside the row. -/
import Derived.Test.YtgkmjekkefmejaaGreatDoorI03
import Derived.Test.YtgkmjekkefmejaaGreatDoorI04
set_option linter.unusedVariables false
set_option linter.unusedSimpArgs false
set_option maxRecDepth 100000
set_option maxHeartbeats 4000000
namespace Go.Proofs.W
open Go.RowKit Go.Mono
section
open Go.Ex
def gG:ByteArray:={data:=#[71]}
def nA:ByteArray:={data:=#[65]}
def sStd (curv thick:Int) (glass:ByteArray):Srf:=⟨1,curv,0,0,0,0,0,0,0,0,0,0,thick,glass,0,0,0,0,0,0,0,[]⟩
def sNo:ByteArray:={data:=#[]}
def g3 {α:Type} (a b c:α):Nat->α
 | 0=>a
 | 1=>b
 | _=>c
def puL (st:Int):Lns:=⟨nA,0,4000000,st,0,1,λ_=>0,λ_=>100000,1,λ_=>587562,λ_=>1,3,g3 (sStd 20000000 3000000 gG) (sStd (-20000000) 10000000 sNo) (sStd 0 0 sNo),λi _=>g3 15000000 10000000 10000000 i⟩
def puFlat:Lns:=⟨nA,0,4000000,0,0,1,λ_=>0,λ_=>100000,1,λ_=>587562,λ_=>1,3,g3 (sStd 0 3000000 gG) (sStd 0 10000000 sNo) (sStd 0 0 sNo),λi _=>g3 15000000 10000000 10000000 i⟩
def g2 {α:Type} (a b:α):Nat->α
 | 0=>a
 | _=>b
end
end Go.Proofs.W
namespace Go.Ex
open Go.RowKit Go.Mono
def Ctr.plainP {D:Den} {P:Program} {w0:World} {X:Nat->Prop} (f:FuncId) (run:List SA->List (Nat×Blk)->List (Option Bool)->Option (SV×List Prop×List (Option Bool)×Option Value))
    (sound:∀args bk orc v obl orc' pan,run args bk orc=some (v,obl,orc',pan)->(∀p∈obl,p)->∀ρ w vals,Frm w0 X w->BkOk D ρ w w bk->denAs D ρ w args vals->
     Calls P f vals.toArray w λe w'=>(match (pan:Option Value) with
      | none=>∃u,e=.returned u∧denV D ρ w' v u
      | some p=>v=.no∧e=.panicked [{v:=p,recovered:=false}])∧Below w.heap.size w w'):Ctr D P w0 X where
 f:=f
 run:=λargs bk c orc=>match run args bk orc with
  | some (v,obl,orc',none)=>some ⟨v,[],obl,orc',c,c,none⟩
  | some (v,obl,orc',some p)=>some ⟨v,bk,obl,orc',c,c,some p⟩
  | none=>none
 cc:=by
  intro args bk c orc r h;split at h<;>cases h<;>exact Yab _
 sound:=by
  intro args bk c orc r h hobl th ρ wc w vals hS hlt hn hargs;have hb:BkOk D ρ w w bk:=λk b hk hd=>by
   obtain⟨B,cs,h1,h2,h3,h4⟩:=hS.bkOk k b hk hd;exact⟨B,cs,h1,h2,h3.mono (Nm.le.refl _) hS.ext,h4⟩
  split at h
  ·rename_i v obl orc' hr
   cases h;refine(sound _ _ _ _ _ _ _ hr hobl ρ w vals hS.fr hb (hargs.mono (Nm.le.refl _) hS.ext)).mono ?_;rintro e w' ⟨⟨u,rfl,hu⟩,hbl⟩;obtain⟨k1,k2⟩:=hS.call hbl c c (λk b hk=>Nat.not_le.2 (hlt k b hk));exact⟨u,ρ,w',rfl,hu,k1,k2⟩
  ·rename_i v obl orc' p hr
   cases h;refine(sound _ _ _ _ _ _ _ hr hobl ρ w vals hS.fr hb (hargs.mono (Nm.le.refl _) hS.ext)).mono ?_;rintro e w' ⟨⟨rfl,rfl⟩,hbl⟩;obtain⟨k1,k2⟩:=hS.call hbl c c (λk b hk=>Nat.not_le.2 (hlt k b hk));exact⟨undef,ρ,w',rfl,trivial,k1,k2⟩
  ·cases h
theorem Zyn {D:Den} {P:Program} (hm:P.follows .mixedOrders=true) {w:World} (sp:List (Ctr D P w (λ_=>False))) (fx:List (Fct D P w (λ_=>False))) {f:FuncId} {d n:Nat} {args:List SA} {orc:List (Option Bool)} {vs:List Vw} (bk:List (Nat×Blk)) (hbk:bk=bkV 0 vs) (hn:n=vs.length) (L:List Prop) (p:Value)
  (hev:(evF P sp fx d [] f args bk n n orc).map (λr=>(r.obl,r.pan))=some (L,some p)) (hL:AllP L) {vals:List Value} (hv:∀v∈vs,VwOk D w vs v) (hargs:denAs D (nmV vs) w args vals) :
  Calls P f vals.toArray w λe w'=>e=.panicked [{v:=p,recovered:=false}]∧Below w.heap.size w w':=by
 obtain⟨r,hr,he⟩:=Yad.1 hev;simp only[Yco]at he;obtain⟨rfl,hpan⟩:=he;subst hbk;subst hn;have hlt:∀k b,(bkV 0 vs).look k=some b->k<vs.length:=λk b hk=>by
  obtain⟨v,_,h2,_⟩:=Zdd hk;have:=(Yan.1 h2).1;omega
 refine(Zlb hm sp fx d [] f args _ _ _ orc _ hr hL.all 0 (nmV vs) w w vals (Zgy hv) trivial hlt (Yab _) (λk h1 _=>by simp[nmV];omega) hargs).mono ?_;rintro e w' ⟨u,ρ',wc',hend,hu,k1,k2⟩;unfold OpR.ends at hend;rw[hpan]at hend;refine⟨hend,k2.os,k2.tape,k2.output,k2.size,λi hi=>k2.loc i hi λk b B hk hB hro=>?_⟩;obtain⟨v,_,h2,rfl⟩:=Zdd hk.1;obtain⟨v',_,rfl⟩:=Yad.1 hB;cases hro
def fldsU (a:Lns):Nat->Nat->List U
 | _,0=>[]
 | s,n+1=>.sym (a.X s)::.sym (a.Y s)::fldsU a (s+1) n
def fldsC (a:Lns):Nat->Nat->List Value
 | _,0=>[]
 | s,n+1=>.int .i64 (a.X s)::.int .i64 (a.Y s)::fldsC a (s+1) n
theorem Zfa {D:Den} {ρ:Nm} {w:World} {a:Lns}:∀(n s:Nat) {cs:List Value},denL D ρ w (fldsU a s n) cs↔cs=fldsC a s n
 | 0,s,cs=>Iff.rfl
 | n + 1, s, cs => by
   constructor
   ·rintro⟨c0,d0,rfl,h0,c1,d1,rfl,h1,h⟩
    cases h0;cases h1;rw[(Zfa n (s+1)).1 h];rfl
   ·rintro rfl
    exact⟨[_],_,rfl,rfl,[_],_,rfl,rfl,(Zfa n (s+1)).2 rfl⟩
theorem Zmf (a:Lns):∀(n s:Nat),(fldsC a s n).length=n*2
 | 0,_=>rfl
 | n+1,s=>by unfold fldsC;rw[Ybm,Ybm,Zmf a n (s+1)];omega
theorem Zh1 (a:Lns):∀(n s i j:Nat),i<n->j<2->(fldsC a s n)[i*2+j]? = some (if j=0 then .int .i64 (a.X (s+i)) else .int .i64 (a.Y (s+i)))
 | 0,_,_,_,h,_=>absurd h Zo
 | n+1,s,0,0,_,_=>rfl
 | n+1,s,0,1,_,_=>rfl
 | n+1,s,0,j+2,_,h=>absurd h Zo
 | n + 1, s, i + 1, j, hi, hj => by
   rw[show(i+1)*2+j=(i*2+j)+1+1 by omega];unfold fldsC;rw[List.getElem?_cons_succ,List.getElem?_cons_succ,Zh1 a n (s+1) i j Zo hj,show s+1+i=s+(i+1) by omega]
def optF (a:Lns) (q:Plc) (nf k:Nat):List U:=[.val (.string a.nm),.sym a.di,.sym a.pu,.sym a.st,.sym a.pr,.slc k 0 nf q.cf,.raw 1 [.slice q.pw a.nw q.cw],.raw 1 [.slice q.ps a.ns q.cs],.val (.slice q.pc 0 q.cc),.val (.slice q.pi a.ns q.ci)]
theorem Zow {D:Den} {ρ:Nm} {w:World} {a:Lns} {q:Plc} {nf k:Nat} (hnf:a.nf=nf) {cs:List Value}:denL D ρ w (optF a q nf k) cs↔∃B,ρ k=some B∧cs=(a.ovals {q with pf:=some ⟨B.blk,B.base,none⟩}).toList:=by
 subst hnf;constructor
 ·rintro⟨_,d0,rfl,⟨h0,_⟩,_,d1,rfl,h1,_,d2,rfl,h2,_,d3,rfl,h3,_,d4,rfl,h4,_,d5,rfl,⟨B,hB,h5⟩,_,d6,rfl,⟨h6,_⟩,_,d7,rfl,⟨h7,_⟩,_,d8,rfl,⟨h8,_⟩,_,d9,rfl,⟨h9,_⟩,h⟩
  refine⟨B,hB,?_⟩;cases h0;cases h1;cases h2;cases h3;cases h4;cases h5;cases h6;cases h7;cases h8;cases h9;obtain rfl:d9=[]:=h;rfl
 ·rintro⟨B,hB,rfl⟩
  exact⟨[_],_,rfl,⟨rfl,rfl⟩,[_],_,rfl,rfl,[_],_,rfl,rfl,[_],_,rfl,rfl,[_],_,rfl,rfl,[_],_,rfl,⟨B,hB,rfl⟩,[_],_,rfl,⟨rfl,rfl,by simp[Value.oneCell']⟩,[_],_,rfl,⟨rfl,rfl,by simp[Value.oneCell']⟩,[_],_,rfl,⟨rfl,rfl⟩,[_],_,rfl,⟨rfl,rfl⟩,rfl⟩
end Go.Ex
namespace Go.Proofs.W
open Go.RowKit Go.Mono
section
open Go.Ex
def fldB (a:Lns) (nf:Nat):Blk:=⟨69,fldsU a 0 nf,true,false,false⟩
def seesF {a:Lns} (ha:a.opt) (q:Plc) {nf:Nat} (hnf:a.nf=nf) {w0:World} (ho:OptAt w0 a q):Sees a w0 where
 run:=λl bk=>match l with
  | [_,_,_,_,_,.slc k _ _ _,_,_,_,_]=>(bk.look k).map λb=>[l=optF a q nf k,b=fldB a nf]
  | _=>none
 ok:=λ{w l bk L ρ cs} hf h hL hb hd=>by
  have ho:=ho.below hf.below;split at h
  ·rename_i k _ _ _ _ _ _ _
   obtain⟨b,hk,e⟩:=Yad.1 h;subst e;have e1:=hL _ (Ycl ..);have e2:b=fldB a nf:=hL _ Zs;subst e2;rw[e1]at hd;obtain⟨B,hB,rfl⟩:=(Zow hnf).1 hd;obtain⟨B',cs',hB',hH,hC,_⟩:=hb _ _ hk rfl;rw[hB]at hB';cases hB';obtain rfl:=(Zfa nf 0).1 hC;refine⟨_,rfl,⟨⟨?_,ho.waves,ho.surfs,ho.coat⟩,ho.index,ho.row⟩⟩;obtain⟨h1,h2,_⟩:=ho.fields;have hc:=λi j (hi:i<a.nf) (hj:j<2)=>hH.cell (Zh1 a nf 0 i j Zo hj);have h0:=ha.base.nf.1;refine⟨h1,h2,λ_=>⟨B.blk,B.base,rfl,Zg6 (hc 0 0 Zo Zd),λi j hi hj=>?_⟩⟩;have:=hc i j hi hj;rw[Yba]at this;rw[Ybj];exact this
  ·cases h
theorem Zt5 {a:Lns} (ha:a.opt) {q:Plc} {nf:Nat} (hnf:a.nf=nf) {w:World} (ho:OptAt w a q):∃b off,q.pf=some ⟨b,off,none⟩∧∀D vs,VwOk D w vs ⟨69,fldsU a 0 nf,b,off,fldsC a 0 nf⟩:=by
 have hn:=ha.base.nf.1;obtain⟨_,_,h⟩:=ho.fields;obtain⟨b,off,hp,hb,hc⟩:=h Zo;refine⟨b,off,hp,λD vs=>⟨hb,λj v hj=>?_,(Zfa nf 0).2 rfl⟩⟩;have hjl:j<nf*2:=by rw[<-Zmf a nf 0];exact(Yan.1 hj).1
 have hg:=Zh1 a nf 0 (j/2) (j%2) Zo Zo;rw[show j/2*2+j%2=j by omega,hj]at hg;cases hg;have:=hc (j/2) (j%2) Zo Zo;rw[show off+j/2*2+j%2=off+j by omega]at this;rw[Yba];exact this
end
end Go.Proofs.W
