/- Contracts of package paraxial,and a verified evaluator. Part 16 of 26. No condition beside the row. -/
import Derived.Scope
import Derived.Test.YtpfpiecljfimjaaGreatDoorA03
import Derived.Test.YtpfpiecljfimjaaGreatDoorA12
import Derived.Test.YtpfpiecljfimjaaGreatDoorA15
set_option linter.unusedVariables false
set_option linter.unusedSimpArgs false
set_option maxRecDepth 100000
set_option maxHeartbeats 4000000
namespace Go.Ex
open Go.RowKit Go.Mono
section
inductive DF where
 | clo (f:FuncId) (caps:List (Nat×Nat))
 | col (k:Nat)
structure Stt where
 tm:List (Nat×SV)
 bk:List (Nat×Blk)
 c:Nat
 th:Nat
 orc:List (Option Bool)
 df:List DF
def DfOk (P:Program) (m:Nat) (ρ:Nm) (w:World):List DF->List Deferred->Prop
 | [],ds=>ds=[]
 | .clo f caps::r,ds=>∃(vs:List Value) (d:List Deferred),ds = {target:=.fn (.func f) vs.toArray,args:=#[]}::d∧adrs ρ caps vs∧entersB P f=true∧DfOk P m ρ w r d
 | .col k::r,ds=>∃(B:Pl) (d:List Deferred),ds = {target:=.collected B.blk,args:=#[]}::d∧ρ k=some B∧m<=B.blk∧(∀x∈d,∀b,x.target=.collected b->b<B.blk)∧w.heap[B.blk]? = some (Obj.deferred (some []))∧DfOk P m ρ w r d
theorem DfOk.step {P:Program} {m:Nat} {ρ ρ':Nm} {w w':World} (hr:ρ.le ρ') :
  ∀{df:List DF} {ds:List Deferred},(∀l:Nat,(∃x∈ds,x.target=.collected l)->w.heap[l]? = some (Obj.deferred (some []))->w'.heap[l]? = some (Obj.deferred (some [])))->DfOk P m ρ w df ds->DfOk P m ρ' w' df ds
 | [],ds,hl,h=>h
 | .clo f caps :: r, ds, hl, ⟨vs, d, h1, h2, h3, h4⟩ => by
   subst h1;exact⟨vs,d,rfl,h2.mono hr,h3,h4.step hr λl ⟨x,hx,e⟩=>hl l ⟨x,Ybs _ hx,e⟩⟩
 | .col k :: r, ds, hl, ⟨B, d, h1, h2, hm, hb, h3, h4⟩ => by
   subst h1;exact⟨B,d,rfl,hr k B h2,hm,hb,hl _ ⟨_,Ycl ..,rfl⟩ h3,h4.step hr λl ⟨x,hx,e⟩=>hl l ⟨x,Ybs _ hx,e⟩⟩
theorem DfOk.low {P:Program} {m N:Nat} {ρ:Nm} {w:World} (hN:∀k B,ρ k=some B->B.blk<N):∀{df:List DF} {ds:List Deferred},DfOk P m ρ w df ds->∀x∈ds,∀b,x.target=.collected b->b<N
 | [],ds,h,x,hx,b,e=>by rw[show ds=[] from h]at hx;cases hx
 | .clo f caps :: r, ds, ⟨vs, d, h1, h2, h3, h4⟩, x, hx, b, e => by
   rw[h1]at hx;rcases Ycp.1 hx with rfl|hx
   ·cases e
   ·exact h4.low hN x hx b e
 | .col k :: r, ds, ⟨B, d, h1, h2, hm, hb, h3, h4⟩, x, hx, b, e => by
   rw[h1]at hx;rcases Ycp.1 hx with rfl|hx
   ·cases e;exact hN k B h2
   ·exact h4.low hN x hx b e
theorem DfOk.evo {D:Den} {P:Program} {w0:World} {X:Nat->Prop} {th:Nat} {ρ ρ':Nm} {wc w wc' w':World} {bk bk':List (Nat×Blk)} {c c':Nat} {df:List DF} {ds:List Deferred} {m:Nat} (h:DfOk P m ρ w df ds)
  (hS:Sat D w0 X th ρ wc w bk) (e:Evo ρ wc w bk c c' ρ' wc' w' bk'):DfOk P m ρ' w' df ds:=
 h.step e.rho λl _ hl=>hS.stays e hl rfl
def deferOf (P:Program) (o:Oper) (get:Operand->Option SV):Option DF:=
 match o.op with
 | .defer c => match c.callee, c.args.toList with
   | .value fv, [] => match get fv with
     | some (.a (.one (.clo f caps)))=>if entersB P f then some (.clo f caps) else none
     | _=>none
   | _,_=>none
 | _=>none
def exP:Option Value->Exit
 | none=>.normal
 | some p=>.panic [{v:=p,recovered:=false}]
def seqS (P:Program) (cs:CallS) (ys:YEnv) (rd:Bool) (ops:Array Oper) (n:Nat):List Oper->Stt->Option (Stt×List Prop×Option Value)
 | [],s=>some (s,[],none)
 | o :: rest, s => match wantS ops o s.tm s.orc with
   | some (true, ps, orc) => if dstOk n o.dst then (match deferOf P o (getS s.tm) with
     | some d => if rd then none else (match seqS P cs ys rd ops n rest ⟨putT s.tm o.dst (.tup []), s.bk, s.c, s.th, orc, d :: s.df⟩ with
       | some (s',q,p)=>some (s',ps++q,p)
       | none=>none)
     | none => (match opS P cs ys o (getS s.tm) s.bk s.th s.c orc with
       | some (r, _) => (match r.pan with
         | some p=>some (⟨s.tm,r.wr,r.c,r.th,r.orc,s.df⟩,ps++r.obl,some p)
         | none => (match seqS P cs ys rd ops n rest ⟨putT s.tm o.dst r.v, r.wr ++ s.bk, r.c, r.th, r.orc, s.df⟩ with
           | some (s',q,p)=>some (s',ps++(r.obl++q),p)
           | none=>none))
       | none=>none)) else none
   | some (false, ps, orc) => if dstOk n o.dst then (match seqS P cs ys rd ops n rest ⟨putT s.tm o.dst (.tup []), s.bk, s.c, s.th, orc, s.df⟩ with
     | some (s',q,p)=>some (s',ps++q,p)
     | none=>none) else none
   | none=>none
def Goes (D:Den) (P:Program) (w0:World) (X:Nat->Prop) (mm n:Nat) (ρ:Nm) (wc w:World) (s s':Stt) (Q:Act->World->Prop):Prop:=
 ∀ρ' wc' w' a',Sat D w0 X s'.th ρ' wc' w' s'.bk->TSat D ρ' wc' n s'.tm a'->DfOk P mm ρ' w' s'.df a'.defers->Evo ρ wc w s.bk s.c s'.c ρ' wc' w' s'.bk->Q a' w'
section
variable {D:Den} {P:Program} {w0:World} {X:Nat->Prop} {cs:CallS} {ys:YEnv}
theorem Zgu {rd:Bool} {ops:Array Oper} {n:Nat}:∀{l:List Oper} {s s':Stt} {q:List Prop} {p:Option Value},seqS P cs ys rd ops n l s=some (s',q,p)->s.c<=s'.c
 | [],s,s',q,p,h=>by cases h;exact Yab _
 | o :: rest, s, s', q, p, h => by
   unfold seqS at h;split at h
   ·split at h
    ·split at h
     ·split at h
      ·cases h
      ·split at h
       ·rename_i s2 q2 p2 h2
        cases h;have k:=Zgu h2;exact k
       ·cases h
     ·split at h
      ·rename_i r cl hr
       split at h
       ·cases h
        exact Zke hr
       ·split at h
        ·rename_i s2 q2 p2 h2
         cases h;exact Yak (Zke hr) (Zgu h2)
        ·cases h
      ·cases h
    ·cases h
   ·split at h
    ·split at h
     ·rename_i s2 q2 p2 h2
      cases h;have k:=Zgu h2;exact k
     ·cases h
    ·cases h
   ·cases h
theorem Zgv {ρ:Nm} {w:World}:denV D ρ w (.tup []) undef:=⟨[],rfl,rfl⟩
theorem Zi0 (hcs : CallOk D P w0 X cs) {bd mm : Nat} {rd : Bool} {ro : Option Nat} (hrd : rd = false -> ro = none) {m : Nat} {ops : Array Oper} {n : Nat} {Q : Exit -> Act -> World -> Prop} : ∀ {l : List Oper} {s s' : Stt} {q : List Prop} {pn : Option Value} {ρ : Nm} {wc w : World} {a : Act},
  seqS P cs ys rd ops n l s=some (s',q,pn)->(∀p∈q,p)->
  Sat D w0 X s.th ρ wc w s.bk->YOk D P w0 X bd ys ρ wc w->TSat D ρ wc n s.tm a->DfOk P mm ρ w s.df a.defers->(∀k,s.c<=k->k<s'.c->ρ k=none)->
  Goes D P w0 X mm n ρ wc w s s' (Q (exP pn))->wpListIn (WF ro) m P ops Q l a w
 | [], s, s', q, pn, ρ, wc, w, a, h, hq, hS, hY, hT, hD, hn, hK => by
   cases h;exact hK ρ wc w a hS hT hD (Evo.refl _ _ _ _ _)
 | o :: rest, s, s', q, pn, ρ, wc, w, a, h, hq, hS, hY, hT, hD, hn, hK => by
   unfold seqS at h;unfold wpListIn;split at h
   ·rename_i ps orc hw
    split at h
    ·rename_i hd
     split at h
     ·rename_i df hdf
      split at h
      ·cases h
      ·rename_i hrd'
       have hro:ro=none:=hrd (by simpa using hrd');subst hro;split at h
       ·rename_i s2 q2 p2 h2
        cases h;rw[if_pos (Zem hT hw λp hp=>hq p (by simp[hp]))];refine⟨λ_ _=>trivial,?_⟩;unfold deferOf at hdf;split at hdf
        ·rename_i cc ho
         split at hdf
         ·rename_i fv hcal hargs
          split at hdf
          ·rename_i f caps hfv
           split at hdf
           ·rename_i hen
            cases hdf;obtain⟨vs,hvs,e1⟩:=hT.get hfv;have e2:a.eval fv=.func (.func f) #[] vs.toArray:=by simpa using e1
            have hx:(o.semAt none a.eval).run P w=.ok (.defer {target:=.fn (.func f) vs.toArray,args:=#[]}) w:=by
             rw[Oper.semAt_none];unfold execOp;have ha:cc.args = #[]:=by apply Yee.1;rw[hargs]
             simp only[ho,resolve,hcal,Deferred.ofValue,e2,ha,Yar,Yau,Yag];simp
            show Oper.uponIn _ _ _ _ _ _ _ ((o.semAt (WF none).round a.eval).run P w);rw[show(WF none).round=none from rfl,hx,Oper.uponIn_defer];refine Zi0 (mm:=mm) hcs hrd h2 (λp hp=>hq p (by simp[hp])) hS hY (TSat.put (a:={a with defers:=_::a.defers}) ⟨hT.size,hT.at_⟩ hd Zgv) ?_ hn ?_
            ·have e3:(({a with defers:={target:=.fn (.func f) vs.toArray,args:=#[]}::a.defers}:Act).put o.dst undef).defers = {target:=.fn (.func f) vs.toArray,args:=#[]}::a.defers:=by
              cases o.dst<;>rfl
             rw[e3];exact⟨vs,a.defers,rfl,hvs,hen,hD⟩
            ·intro ρ2 wc2 w2 a2 k1 k2 k3 k4
             exact hK ρ2 wc2 w2 a2 k1 k2 k3 k4
           ·cases hdf
          ·cases hdf
         ·cases hdf
        ·cases hdf
       ·cases h
     ·split at h
      ·rename_i r cl hr
       have hrc:=Zke hr;split at h
       ·rename_i p hp
        cases h;rw[if_pos (Zem hT hw λp hp=>hq p (by simp[hp]))];refine Znj (G:=r.fin s.bk) (th':=r.th) hcs hY hS (λk b hk=>hk) (λx z hz=>hT.get hz) hr (λp hp=>hq p (by simp[hp])) hn (λ_ _ _ _ _ h1 h2=>⟨h1,h2⟩) (λ_ ht=>⟨ht,?_⟩) (λhnn=>?_) ?_
        ·refine .inr ⟨by rw[hp];simp,λhw=>?_⟩
         unfold OpR.fin;rw[hp];dsimp only;rw[hw];exact λk b hk=>hk
        ·rw[hp]at hnn;cases hnn
        ·intro p' hp' ρ' wc' w' k1 k2
         rw[hp]at hp';cases hp';have ef:r.fin s.bk=r.wr:=by unfold OpR.fin;rw[hp]
         rw[ef]at k1 k2;exact hK ρ' wc' w' a k1 (hT.mono k2.rho k2.ext) (hD.evo hS k2) k2
       ·rename_i hp
        split at h
        ·rename_i s2 q2 p2 h2
         cases h;have hcc:=Zgu h2;have ef:r.fin s.bk=r.wr++s.bk:=by unfold OpR.fin;rw[hp]
         rw[if_pos (Zem hT hw λp hp=>hq p (by simp[hp]))];refine Znj (G:=r.fin s.bk) (th':=r.th) hcs hY hS (λk b hk=>hk) (λx z hz=>hT.get hz) hr (λp hp=>hq p (by simp[hp])) (λk h1 h2=>hn k h1 (by dsimp only at hcc;omega)) (λ_ _ _ _ _ h1 h2=>⟨h1,h2⟩) (λ_ ht=>⟨ht,.inl ⟨hp,ef⟩⟩) ?_ (λp' hp'=>?_)
         ·intro _ ρ' wc' w' v hv hS' hE
          rw[ef]at hS' hE;refine Zi0 (mm:=mm) hcs hrd h2 (λp hp=>hq p (by simp[hp])) hS' (hY.evo hS hE) ((hT.mono hE.rho hE.ext).put hd hv) ?_ (λk h1 h2=>?_) ?_
          ·have e3:(a.put o.dst v).defers=a.defers:=by cases o.dst<;>rfl
           rw[e3];exact hD.evo hS hE
          ·dsimp only at h1
           rw[hE.dom k (.inr h1)];exact hn k Zo h2
          ·intro ρ2 wc2 w2 a2 k1 k2 k3 k4
           exact hK ρ2 wc2 w2 a2 k1 k2 k3 (hE.trans k4 hS.named)
         ·rw[hp]at hp';cases hp'
        ·cases h
      ·cases h
    ·cases h
   ·rename_i ps orc hw
    split at h
    ·rename_i hd
     split at h
     ·rename_i s2 q2 p2 h2
      cases h;rw[if_neg (by rw[Zem hT hw λp hp=>hq p (by simp[hp])];simp)];refine⟨λ_ _=>trivial,?_⟩;refine Zi0 (mm:=mm) hcs hrd h2 (λp hp=>hq p (by simp[hp])) hS hY (hT.put hd Zgv) ?_ hn ?_
      ·have e3:(a.put o.dst undef).defers=a.defers:=by cases o.dst<;>rfl
       rw[e3];exact hD
      ·intro ρ2 wc2 w2 a2 k1 k2 k3 k4
       exact hK ρ2 wc2 w2 a2 k1 k2 k3 k4
     ·cases h
    ·cases h
   ·cases h
end
/-! ### any order: lists of what was written,by those that came up -/
def accAt {α:Type} (ws:List (List (Nat×α))) (L:Nat->Bool) (l0:List (Nat×α)):Nat->List (Nat×α)
 | 0=>l0
 | m+1=>(if L m then ws.getD m [] else[])++accAt ws L l0 m
section
variable {α:Type} {ws:List (List (Nat×α))} {l0:List (Nat×α)}
abbrev wrote (ws:List (List (Nat×α))) (j k:Nat):Prop:=((ws.getD j []).look k).isSome=true
theorem Zh9 (x:List (Nat×α)) (L:Nat->Bool):∀m,accAt (x::ws) L l0 (m+1)=accAt ws (λj=>L (j+1)) ((if L 0 then x else[])++l0) m
 | 0=>rfl
 | m + 1 => by
   have ih:=Zh9 x L m;show(if L (m+1) then(x::ws).getD (m+1) [] else[])++accAt (x::ws) L l0 (m+1)=_;rw[ih];rfl
theorem Zb3 (L:Nat->Bool) (m k:Nat):(accAt ws L l0 (m+1)).look k=if L m=true∧wrote ws m k then(ws.getD m []).look k else(accAt ws L l0 m).look k:=by
 show((if L m then ws.getD m [] else[])++accAt ws L l0 m).look k=_;rw[Zba];unfold wrote;cases hL:L m with
 | false=>simp
 | true =>
   rw[if_pos rfl];generalize ws.getD m []=x;cases hw:x.look k with
   | none=>rw[if_neg Zs];rfl
   | some b=>rw[if_pos ⟨rfl,rfl⟩];rfl
theorem Znk {L:Nat->Bool} {i k:Nat} (hi:L i=false) (hlo:∀j,j<i->wrote ws j k->L j=true) (hhi:∀j,i<j->wrote ws j k->L j=false) :
  ∀N,i<=N->(accAt ws L l0 N).look k=(accAt ws (λ_=>true) l0 i).look k:=by
 have lo:∀m,m<=i->(accAt ws L l0 m).look k=(accAt ws (λ_=>true) l0 m).look k:=by
  intro m;induction m with
  | zero=>intro _;rfl
  | succ m ih =>
    intro hm;rw[Zb3,Zb3,ih Zo];by_cases hw:wrote ws m k
    ·rw[if_pos ⟨hlo m Zo hw,hw⟩,if_pos ⟨rfl,hw⟩]
    ·rw[if_neg (λh=>hw h.2),if_neg (λh=>hw h.2)]
 intro N;induction N with
 | zero => intro hN; obtain rfl : i = 0 := by omega
           exact lo 0 Zo
 | succ N ih =>
   intro hN;by_cases he:i=N+1
   ·subst he;exact lo _ (Yab _)
   ·rw[Zb3,if_neg,ih Zo]
    rintro⟨h1,h2⟩;by_cases h3:i=N
    ·subst h3;rw[hi]at h1;cases h1
    ·rw[hhi N Zo h2]at h1;cases h1
theorem Zqz {L:Nat->Bool} {i k:Nat} (hi:L i=false) (hhi:∀j,i<j->wrote ws i k->wrote ws j k->L j=false) :
  ∀N,i<N->(accAt ws (λj=>j==i || L j) l0 N).look k=((ws.getD i []).look k).or ((accAt ws L l0 N).look k):=by
 have lo:∀m,m<=i->(accAt ws (λj=>j==i || L j) l0 m).look k=(accAt ws L l0 m).look k:=by
  intro m;induction m with
  | zero=>intro _;rfl
  | succ m ih =>
    intro hm;have e:(m==i)=false:=by simp;omega
    rw[Zb3,Zb3,ih Zo];simp only[e,Yeo]
 intro N;induction N with
 | zero=>intro h;omega
 | succ N ih =>
   intro hN;by_cases he:i=N
   ·subst he
    rw[Zb3,Zb3,lo i (Yab _),if_neg (show ¬(L i=true∧wrote ws i k) from λh=>by rw[hi]at h;cases h.1)];by_cases hw:wrote ws i k
    ·rw[if_pos ⟨Zs,hw⟩]
     obtain⟨b,hb⟩:=Yct.1 hw;rw[hb];rfl
    ·rw[if_neg (λh=>hw h.2)]
     have:(ws.getD i []).look k=none:=by
      unfold wrote at hw;cases h:(ws.getD i []).look k with
      | none=>rfl
      | some b=>rw[h]at hw;simp at hw
     rw[this];rfl
   ·have e:(N==i)=false:=by simp;omega
    rw[Zb3,Zb3,ih Zo];simp only[e,Yeo];by_cases hw:L N=true∧wrote ws N k
    ·rw[if_pos hw,if_pos hw]
     have:(ws.getD i []).look k=none:=by
      cases h:(ws.getD i []).look k with
      | none=>rfl
      | some b =>
        have:=hhi N Zo (by unfold wrote;rw[h];rfl) hw.2;rw[this]at hw;cases hw.1
     rw[this,Ydd]
    ·rw[if_neg hw,if_neg hw]
end
end
end Go.Ex
namespace Go.Mono
open Go.RowKit
instance (m z:Int):Decidable (In m z):=inferInstanceAs (Decidable (_∧_))
instance (z:Int):Decidable (isLetter z):=inferInstanceAs (Decidable (_∨_))
instance (s:ByteArray):Decidable (NameOk s):=inferInstanceAs (Decidable (_∧_∧_))
structure Lns where
 nm:ByteArray
 di:Int
 pu:Int
 st:Int
 pr:Int
 nf:Nat
 X:Nat->Int
 Y:Nat->Int
 nw:Nat
 L:Nat->Int
 W:Nat->Int
 ns:Nat
 S:Nat->Srf
 ix:Nat->Nat->Int
structure Plc where
 pf:Option Addr
 cf:Nat
 pw:Option Addr
 cw:Nat
 ps:Option Addr
 cs:Nat
 pc:Option Addr
 cc:Nat
 cp:Nat->Option Addr
 cl:Nat->Nat
 pi:Option Addr
 ci:Nat
 pI:Nat->Option Addr
 cI:Nat->Nat
def Lns.lvals (a:Lns) (q:Plc):Array Value:=
 #[.string a.nm,.int .i64 a.di,.int .i64 a.pu,.int .i64 a.st,.int .i64 a.pr,.slice q.pf a.nf q.cf,.slice q.pw a.nw q.cw,.slice q.ps a.ns q.cs,.slice q.pc 0 q.cc]
def Lns.ovals (a:Lns) (q:Plc):Array Value:=
 #[.string a.nm,.int .i64 a.di,.int .i64 a.pu,.int .i64 a.st,.int .i64 a.pr,.slice q.pf a.nf q.cf,.slice q.pw a.nw q.cw,.slice q.ps a.ns q.cs,.slice q.pc 0 q.cc,.slice q.pi a.ns q.ci]
structure LnsAt (w:World) (a:Lns) (q:Plc):Prop where
 fields:RdC w q.pf a.nf q.cf 2 (λi j=>if j=0 then .int .i64 (a.X i) else .int .i64 (a.Y i))
 waves:RdC w q.pw a.nw q.cw 2 (λi j=>if j=0 then .int .i64 (a.L i) else .int .i64 (a.W i))
 surfs:RdC w q.ps a.ns q.cs 22 (λi j=>((a.S i).cs (q.cp i) (q.cl i)).getD j undef)
 coat:∀i,i<a.ns->CoatAt w (q.cp i) (q.cl i) (a.S i).co
theorem LnsAt.below {w w':World} {a:Lns} {q:Plc} (h:LnsAt w a q) (hB:Below w.heap.size w w'):LnsAt w' a q:=⟨h.fields.below hB,h.waves.below hB,h.surfs.below hB,λi hi=>(h.coat i hi).below hB⟩
structure OptAt (w:World) (a:Lns) (q:Plc):Prop extends LnsAt w a q where
 index:RdC w q.pi a.ns q.ci 1 (λi _=>.slice (q.pI i) a.nw (q.cI i))
 row:∀i,i<a.ns->RdF w (q.pI i) a.nw (q.cI i) (a.ix i)
theorem OptAt.below {w w':World} {a:Lns} {q:Plc} (h:OptAt w a q) (hB:Below w.heap.size w w'):OptAt w' a q:=⟨h.toLnsAt.below hB,h.index.below hB,λi hi=>(h.row i hi).below hB⟩
structure Lns.ok (a:Lns):Prop where
 name:NameOk a.nm
 di:0<=a.di∧a.di<=1000000000
 pu:1<=a.pu∧a.pu<=1000000000
 nf:1<=a.nf∧a.nf<=5
 fr:∀i,i<a.nf->In (if a.di=0 then 1000000 else 1000000000) (a.X i)∧In (if a.di=0 then 1000000 else 1000000000) (a.Y i)
 fd:∀i k,k<i->i<a.nf->¬(a.X i=a.X k∧a.Y i=a.Y k)
 nw:1<=a.nw∧a.nw<=5
 pr:0<=a.pr∧a.pr<=a.nw-1
 wl:∀i,i<a.nw->300000<=a.L i∧a.L i<=2500000
 wm:∀i,i+1<a.nw->a.L i<a.L (i+1)
 ww:∀i,i<a.nw->1<=a.W i∧a.W i<=100
 ns:2<=a.ns∧a.ns<=16
 st:0<=a.st∧a.st<=a.ns-2
 sok:∀i,i<a.ns->(a.S i).ok
 image:(a.S (a.ns-1)).kind=1∧(a.S (a.ns-1)).glass = {data:=#[]}∧(a.S (a.ns-1)).thick=0∧(a.S (a.ns-1)).order=0∧(a.S (a.ns-1)).co=[]
 stop:(a.S a.st.toNat).kind≠3
def Lns.through (a:Lns) (i:Nat):Prop:=(a.S i).glass=mirror∨(a.S i).kind=3∨(a.S i).kind=4∨i+1=a.ns
def Lns.ahead (a:Lns) (i j:Nat):Int:=if i=0 then 10000000 else a.ix (i-1) j
structure Lns.opt (a:Lns):Prop where
 base:Lns.ok a
 ir:∀i j,i<a.ns->j<a.nw->10000000<=a.ix i j∧a.ix i j<=40000000
 it:∀i j,i<a.ns->a.through i->j<a.nw->a.ix i j=a.ahead i j
 ia:∀i j,i<a.ns->¬a.through i->(a.S i).glass = {data:=#[]}->j<a.nw->a.ix i j=10000000
end Go.Mono
namespace Go.Ex
open Go.RowKit Go.Mono
inductive Kd where
 | go
 | pan (p:Value) (pw:List (Nat×Blk))
 | never
structure Rec where
 dst:Option Tmp
 v:SV
 wr:List (Nat×Blk)
 tR:List Nat
 bR:List Nat
 c0:Nat
 c1:Nat
 kd:Kd
def idsU0:U->List Nat
 | .ptr k _=>[k]
 | .slc k _ _ _=>[k]
 | .sli k _ _=>[k]
 | .slx k _ _ _=>[k]
 | .own k _ _=>[k]
 | .clo _ caps=>caps.map (·.1)
 | _=>[]
def idsU:U->List Nat
 | .bnd _ _ l=>l.flatMap idsU0
 | .ptr k _=>[k]
 | .slc k _ _ _=>[k]
 | .sli k _ _=>[k]
 | .slx k _ _ _=>[k]
 | .own k _ _=>[k]
 | .clo _ caps=>caps.map (·.1)
 | _=>[]
def idsA (x:SA):List Nat:=(unitsA x).flatMap idsU
def idsV (x:Option SV):List Nat:=
 match x with
 | some (.a s)=>idsA s
 | _=>[]
def mem (l:List Nat) (k:Nat):Bool:=l.any (Nat.beq k)
theorem mem_iff {l:List Nat} {k:Nat}:mem l k=true↔k∈l:=by
 unfold mem;rw[Yft];constructor
 ·rintro⟨x,hx,he⟩
  rw[Ybe he];exact hx
 ·intro h
  exact⟨k,h,Zs⟩
def reach (bk:List (Nat×Blk)):Nat->List Nat->List Nat->List Nat
 | 0,_,seen=>seen
 | _+1,[],seen=>seen
 | n + 1, k :: r, seen => if mem seen k then reach bk n r seen else
   match bk.look k with
   | some b=>reach bk n (b.cells.flatMap idsU++r) (k::seen)
   | none=>reach bk n r seen
def blocksOf (P:Program) (ys:YEnv) (o:Oper) (get:Operand->Option SV) (bk:List (Nat×Blk)):List Nat:=
 match o.op with
 | .load _ x => match get x with
   | some (.a (.one (.ptr k _)))=>[k]
   | _=>[]
 | .store _ x _ => match get x with
   | some (.a (.one (.ptr k _)))=>[k]
   | _=>[]
 | .call c => match callOf P o get with
   | some (_,args)=>if ys.isEmpty then reach bk 1000 (args.flatMap idsA) [] else bk.map (·.1)
   | none => match yldOf o get with
     | some _=>bk.map (·.1)
     | none=>c.args.toList.flatMap λx=>idsV (get x)
 | _=>[]
def tmpsOf (ops:Array Oper) (o:Oper):List Nat:=
 (o.op.operands.toList.filterMap λ| .tmp t=>some t|_=>none)++(match o.guard with
  | some (j,_)=>((ops[j]?).bind (·.dst)).toList
  | none=>[])
def predsOf (o:Oper):List Nat:=(o.after.toList.filter (Region.binds .any)).map (·.on)
def wT (r:Rec):List (Nat×SV):=
 match r.dst with
 | some d=>[(d,r.v)]
 | none=>[]
def some_ {α:Type} (ks:List Nat) (l:List (Nat×α)):List (Nat×α):=l.filter λp=>mem ks p.1
theorem Zdd {α:Type} (ks:List Nat) (k:Nat):∀l:List (Nat×α),(some_ ks l).look k=if mem ks k then l.look k else none
 | []=>by simp[some_]
 | (k', x) :: r => by
   have ih:=Zdd ks k r;unfold some_ at ih ⊢;rw[List.filter_cons];dsimp only;by_cases h:mem ks k'
   ·rw[if_pos h,Zat,Zat,ih]
    by_cases e:k=k'
    ·subst e;rw[if_pos rfl,if_pos rfl,if_pos h]
    ·rw[if_neg e,if_neg e]
   ·rw[if_neg h,ih,Zat]
    by_cases e:k=k'
    ·subst e;rw[if_neg h,if_neg h]
    ·rw[if_neg e]
def recS (P:Program) (cs:CallS) (ys:YEnv) (ops:Array Oper) (n:Nat):List Oper->Nat->List Nat->Stt->Option (List Rec×Stt×List Prop×Option Value)
 | [],_,_,s=>some ([],s,[],none)
 | o :: rest, i, dead, s =>
   if(predsOf o).any (mem dead) then(match recS P cs ys ops n rest (i+1) (i::dead) s with
    | some (rs,s',q,p)=>some (⟨none,.no,[],[],[],s.c,s.c,.never⟩::rs,s',q,p)
    | none=>none)
   else
   let tR:=tmpsOf ops o
   let tmr:=some_ tR s.tm
   let bR:=blocksOf P ys o (getS tmr) s.bk
   match wantS ops o tmr s.orc with
   | some (true, ps, orc) => if dstOk n o.dst then (match opS P cs ys o (getS tmr) (some_ bR s.bk) s.th s.c orc with
     | some (r, _) => (match r.pan with
       | some p => (match dead with
         | [] => (match recS P cs ys ops n rest (i + 1) [i] ⟨s.tm, s.bk, r.c, s.th, r.orc, s.df⟩ with
           | some (rs,s',q,none)=>some (⟨none,.no,[],tR,bR,s.c,r.c,.pan p r.wr⟩::rs,s',ps++(r.obl++q),some p)
           | _=>none)
         | _::_=>none)
       | none => (match recS P cs ys ops n rest (i + 1) dead ⟨putT s.tm o.dst r.v, r.wr ++ s.bk, r.c, s.th, r.orc, s.df⟩ with
         | some (rs,s',q,p)=>some (⟨o.dst,r.v,r.wr,tR,bR,s.c,r.c,.go⟩::rs,s',ps++(r.obl++q),p)
         | none=>none))
     | none=>none) else none
   | some (false, ps, orc) => if dstOk n o.dst then (match recS P cs ys ops n rest (i + 1) dead ⟨putT s.tm o.dst (.tup []), s.bk, s.c, s.th, orc, s.df⟩ with
     | some (rs,s',q,p)=>some (⟨o.dst,.tup [],[],tR,[],s.c,s.c,.go⟩::rs,s',ps++q,p)
     | none=>none) else none
   | none=>none
def StepR (P:Program) (cs:CallS) (ys:YEnv) (ops:Array Oper) (n th:Nat) (obl:List Prop) (tm:List (Nat×SV)) (bk:List (Nat×Blk)) (o:Oper) (r:Rec):Prop:=
 dstOk n o.dst=true∧∃orc orc' ps b,wantS ops o (some_ r.tR tm) orc=some (b,ps,orc')∧(∀p∈ps,p∈obl)∧
  ((r.kd=.go∧r.dst=o.dst∧b=true∧∃(x:OpR) (cl:Bool),opS P cs ys o (getS (some_ r.tR tm)) (some_ r.bR bk) th r.c0 orc'=some (x,cl)∧x.pan=none∧x.v=r.v∧x.wr=r.wr∧x.c=r.c1∧∀p∈x.obl,p∈obl)∨
   (r.kd=.go∧r.dst=o.dst∧b=false∧r.v=.tup []∧r.wr=[]∧r.c1=r.c0)∨
   (∃pv pw,r.kd=.pan pv pw∧r.dst=none∧r.wr=[]∧b=true∧∃(x:OpR) (cl:Bool),opS P cs ys o (getS (some_ r.tR tm)) (some_ r.bR bk) th r.c0 orc'=some (x,cl)∧x.pan=some pv∧x.wr=pw∧x.c=r.c1∧∀p∈x.obl,p∈obl))
theorem StepR.more {P:Program} {cs:CallS} {ys:YEnv} {ops:Array Oper} {n th:Nat} {obl obl':List Prop} {tm:List (Nat×SV)} {bk:List (Nat×Blk)} {o:Oper} {r:Rec} (h:StepR P cs ys ops n th obl tm bk o r) (hs:∀p∈obl,p∈obl') :
  StepR P cs ys ops n th obl' tm bk o r:=by
 obtain⟨h1,orc,orc',ps,b,h3,h4,h5⟩:=h;refine⟨h1,orc,orc',ps,b,h3,λp hp=>hs p (h4 p hp),?_⟩;rcases h5 with ⟨e,e2,e3,x,cl,k1,k2,k3,k4,k5,k6⟩|h5|⟨pv,pw,e,e2,e3,e4,x,cl,k1,k2,k3,k4,k6⟩
 ·exact .inl ⟨e,e2,e3,x,cl,k1,k2,k3,k4,k5,λp hp=>hs p (k6 p hp)⟩
 ·exact .inr (.inl h5)
 ·exact .inr (.inr ⟨pv,pw,e,e2,e3,e4,x,cl,k1,k2,k3,k4,λp hp=>hs p (k6 p hp)⟩)
def panRec:List Rec->Option (Value×List (Nat×Blk)×List Nat)
 | []=>none
 | r :: l => match r.kd with
   | .pan p pw=>some (p,pw,r.bR)
   | _=>panRec l
theorem Zl3 (tm:List (Nat×SV)) (r:Rec):putT tm r.dst r.v=wT r++tm:=by
 unfold putT wT;cases r.dst<;>rfl
def tt:Nat->Bool:=λ_=>true
theorem Zdx {α:Type} (x:List (Nat×α)) (ws:List (List (Nat×α))) (l0:List (Nat×α)) (m:Nat):accAt (x::ws) tt l0 (m+1)=accAt ws tt (x++l0) m:=Zh9 x tt m
structure RecOk (P:Program) (cs:CallS) (ys:YEnv) (ops:Array Oper) (n:Nat) (l:List Oper) (i0:Nat) (dead:List Nat) (s:Stt) (rs:List Rec) (s':Stt) (q:List Prop) (pn:Option Value):Prop where
 len:rs.length=l.length
 tm:s'.tm=accAt (rs.map wT) tt s.tm l.length
 bk:s'.bk=accAt (rs.map (·.wr)) tt s.bk l.length
 df:s'.df=s.df
 step:∀(i:Nat) (r:Rec),rs[i]? = some r->r.kd≠.never->∃o,l[i]? = some o∧StepR P cs ys ops n s.th q (accAt (rs.map wT) tt s.tm i) (accAt (rs.map (·.wr)) tt s.bk i) o r
 nev:∀(i:Nat) (r:Rec),rs[i]? = some r->r.kd=.never->r.dst=none∧r.wr=[]∧∃o p,l[i]? = some o∧p∈predsOf o∧(p∈dead∨∃j rj,p=i0+j∧rs[j]? = some rj∧rj.kd≠.go)
 rng:∀(i:Nat) (r:Rec),rs[i]? = some r->s.c<=r.c0∧r.c0<=r.c1∧r.c1<=s'.c
 ord:∀(i j:Nat) (ri rj:Rec),i<j->rs[i]? = some ri->rs[j]? = some rj->ri.c1<=rj.c0
 cc:s.c<=s'.c
 pn1:∀v,pn=some v->∃pw bR,panRec rs=some (v,pw,bR)
 pn0:pn=none->panRec rs=none
 uniq:∀(i:Nat) (r:Rec) p pw,rs[i]? = some r->r.kd=.pan p pw->panRec rs=some (p,pw,r.bR)
theorem Zfi {P:Program} {cs:CallS} {ys:YEnv} {ops:Array Oper} {n:Nat}:∀{l:List Oper} {i0:Nat} {dead:List Nat} {s s':Stt} {rs:List Rec} {q:List Prop} {pn:Option Value},recS P cs ys ops n l i0 dead s=some (rs,s',q,pn)->RecOk P cs ys ops n l i0 dead s rs s' q pn
 | [], i0, dead, s, s', rs, q, pn, h => by
   cases h;exact⟨rfl,rfl,rfl,rfl,(λi r hr=>by simp at hr),(λi r hr=>by simp at hr),(λi r hr=>by simp at hr),(λi j ri rj _ hr=>by simp at hr),Yab _,(λv hv=>by cases hv),λ_=>rfl,λi r p pw hr=>by simp at hr⟩
 | o :: rest, i0, dead, s, s', rs, q, pn, h => by
   have cons:∀(r:Rec) (rs2:List Rec) (q2 q:List Prop) (s1:Stt) (dead2:List Nat) (pn2 pn:Option Value),RecOk P cs ys ops n rest (i0+1) dead2 s1 rs2 s' q2 pn2->s1.tm=putT s.tm r.dst r.v->s1.bk=r.wr++s.bk->s1.df=s.df->s1.c=r.c1->s1.th=s.th->r.c0=s.c->r.c0<=r.c1->
     (r.kd≠.never->StepR P cs ys ops n s.th q s.tm s.bk o r)->(r.kd=.never->r.dst=none∧r.wr=[]∧∃p,p∈predsOf o∧p∈dead)->(∀p∈q2,p∈q)->(∀x∈dead2,x∈dead∨(x=i0∧r.kd≠.go))->
     ((∃p pw,r.kd=.pan p pw∧pn=some p∧pn2=none)∨((∀p pw,r.kd≠.pan p pw)∧pn=pn2))->RecOk P cs ys ops n (o::rest) i0 dead s (r::rs2) s' q pn:=by
    intro r rs2 q2 q s1 dead2 pn2 pn ih e1 e2 edf e3 e4 e5 e6 hst hnv hq hdd hpn;have hc1:=ih.cc;refine⟨by simp[ih.len],?_,?_,ih.df.trans edf,?_,?_,?_,?_,Zo,?_,?_,?_⟩
    ·rw[ih.tm,e1,Zl3,Ybz,Ybm,Zdx]
    ·rw[ih.bk,e2,Ybz,Ybm,Zdx]
    ·intro i r' hr' hk
     cases i with
     | zero =>
       simp at hr';subst hr';exact⟨o,Zs,hst hk⟩
     | succ i =>
       simp at hr';obtain⟨o',ho',hs'⟩:=ih.step i r' hr' hk;refine⟨o',by simpa using ho',?_⟩;rw[Ybz,Ybz,Zdx,Zdx,<-Zl3,<-e1,<-e2,<-e4];exact hs'.more hq
    ·intro i r' hr' hk
     cases i with
     | zero =>
       simp at hr';subst hr';obtain⟨h1,h2,p,h3,h4⟩:=hnv hk;exact⟨h1,h2,o,p,Zs,h3,.inl h4⟩
     | succ i =>
       simp at hr';obtain⟨h1,h2,o',p,h3,h4,h5⟩:=ih.nev i r' hr' hk;refine⟨h1,h2,o',p,by simpa using h3,h4,?_⟩;rcases h5 with h5|⟨j,rj,h6,h7,h8⟩
       ·rcases hdd p h5 with h5|⟨h5,h6⟩
        ·exact .inl h5
        ·exact .inr ⟨0,r,Zo,Zs,h6⟩
       ·exact .inr ⟨j+1,rj,Zo,by simpa using h7,h8⟩
    ·intro i r' hr'
     cases i with
     | zero =>
       simp at hr';subst hr';omega
     | succ i =>
       simp at hr';have:=ih.rng i r' hr';omega
    ·intro i j ri rj hij hi hj
     cases j with
     | zero=>omega
     | succ j =>
       simp at hj;cases i with
       | zero =>
         simp at hi;subst hi;have:=ih.rng j rj hj;omega
       | succ i =>
         simp at hi;exact ih.ord i j ri rj Zo hi hj
    ·intro v hv
     rcases hpn with ⟨p,pw,h1,h2,h3⟩|⟨h1,h2⟩
     ·rw[h2]at hv
      cases hv;exact⟨pw,r.bR,by unfold panRec;rw[h1]⟩
     ·obtain⟨pw,bR,hp⟩:=ih.pn1 v (h2▸hv)
      refine⟨pw,bR,?_⟩;unfold panRec;split
      ·rename_i hk;exact absurd hk (h1 _ _)
      ·exact hp
    ·intro hv
     rcases hpn with ⟨p,pw,h1,h2,h3⟩|⟨h1,h2⟩
     ·rw[h2]at hv;cases hv
     ·unfold panRec
      split
      ·rename_i hk;exact absurd hk (h1 _ _)
      ·exact ih.pn0 (h2▸hv)
    ·intro i r' p' pw' hr' hk
     cases i with
     | zero =>
       simp at hr';subst hr';unfold panRec;rw[hk]
     | succ i =>
       simp at hr';have hu:=ih.uniq i r' p' pw' hr' hk;rcases hpn with ⟨p,pw,h1,h2,h3⟩|⟨h1,h2⟩
       ·rw[ih.pn0 h3]at hu;cases hu
       ·unfold panRec
        split
        ·rename_i hk;exact absurd hk (h1 _ _)
        ·exact hu
   unfold recS at h;split at h
   ·rename_i hdead
    split at h
    ·rename_i rs2 s2 q2 p2 h2
     cases h;have ih:=Zfi h2;refine cons ⟨none,.no,[],[],[],s.c,s.c,.never⟩ rs2 q _ _ _ _ _ ih rfl rfl rfl rfl rfl rfl (Yab _) (λhk=>absurd rfl hk) (λ_=>⟨rfl,rfl,?_⟩) (λp hp=>hp) (λx hx=>?_) (.inr ⟨(λp pw hk=>by cases hk),rfl⟩)
     ·obtain⟨p,h1,h2⟩:=Yft.1 hdead
      exact⟨p,h1,mem_iff.1 h2⟩
     ·rcases Ycp.1 hx with rfl|hx
      ·exact .inr ⟨rfl,λhk=>by cases hk⟩
      ·exact .inl hx
    ·cases h
   ·dsimp only at h
    split at h
    ·rename_i ps orc hw
     split at h
     ·rename_i hd
      split at h
      ·rename_i r cl hr
       split at h
       ·rename_i p hp
        split at h
        ·split at h
         ·rename_i rs2 s2 q2 h2
          cases h;have ih:=Zfi h2;refine cons ⟨none,.no,[],_,_,s.c,r.c,.pan p r.wr⟩ rs2 q2 _ _ _ _ _ ih rfl rfl rfl rfl rfl rfl (Zke hr) (λ_=>?_) (λhk=>by cases hk) (λp hp=>by simp[hp]) (λx hx=>?_) (.inl ⟨p,r.wr,rfl,rfl,rfl⟩)
          ·exact⟨hd,_,_,_,_,hw,λp hp=>by simp[hp],.inr (.inr ⟨p,r.wr,rfl,rfl,rfl,rfl,r,cl,hr,hp,rfl,rfl,λp hp=>by simp[hp]⟩)⟩
          ·obtain rfl:x=i0:=by simpa using hx
           exact .inr ⟨rfl,λhk=>by cases hk⟩
         ·cases h
        ·cases h
       ·rename_i hp
        split at h
        ·rename_i rs2 s2 q2 p2 h2
         cases h;have ih:=Zfi h2;refine cons ⟨o.dst,r.v,r.wr,_,_,s.c,r.c,.go⟩ rs2 q2 _ _ _ _ _ ih rfl rfl rfl rfl rfl rfl (Zke hr) (λ_=>?_) (λhk=>by cases hk) (λp hp=>by simp[hp]) (λx hx=>.inl hx) (.inr ⟨(λp pw hk=>by cases hk),rfl⟩);exact⟨hd,_,_,_,_,hw,λp hp=>by simp[hp],.inl ⟨rfl,rfl,rfl,r,cl,hr,hp,rfl,rfl,rfl,λp hp=>by simp[hp]⟩⟩
        ·cases h
      ·cases h
     ·cases h
    ·rename_i ps orc hw
     split at h
     ·rename_i hd
      split at h
      ·rename_i rs2 s2 q2 p2 h2
       cases h;have ih:=Zfi h2;refine cons ⟨o.dst,.tup [],[],_,[],s.c,s.c,.go⟩ rs2 q2 _ _ _ _ _ ih rfl rfl rfl rfl rfl rfl (Yab _) (λ_=>?_) (λhk=>by cases hk) (λp hp=>by simp[hp]) (λx hx=>.inl hx) (.inr ⟨(λp pw hk=>by cases hk),rfl⟩);exact⟨hd,_,_,_,_,hw,λp hp=>by simp[hp],.inr (.inl ⟨rfl,rfl,rfl,rfl,rfl,rfl⟩)⟩
      ·cases h
     ·cases h
    ·cases h
/-! ### who must come before whom -/
def prOf (ops:Array Oper) (j:Nat):List Nat:=
 match ops[j]? with
 | some o=>predsOf o
 | none=>[]
def bfs (pr:Nat->List Nat):Nat->List Nat->List Nat->List Nat
 | 0,_,seen=>seen
 | _+1,[],seen=>seen
 | n+1,q::r,seen=>if mem seen q then bfs pr n r seen else bfs pr n (pr q++r) (q::seen)
theorem Zq0 {pr:Nat->List Nat} {L:Nat->Prop} (hc:∀j,L j->∀q∈pr j,L q):∀(n:Nat) (t s:List Nat),(∀q∈t,L q)->(∀q∈s,L q)->∀q∈bfs pr n t s,L q
 | 0,t,s,ht,hs=>hs
 | n+1,[],s,ht,hs=>hs
 | n + 1, x :: r, s, ht, hs => by
   unfold bfs;split
   ·exact Zq0 hc n r s (λq hq=>ht q (by simp[hq])) hs
   ·refine Zq0 hc n _ _ (λq hq=>?_) (λq hq=>?_)
    ·rcases Ycn.1 hq with h|h
     ·exact hc x (ht x Zs) q h
     ·exact ht q (by simp[h])
    ·rcases Ycp.1 hq with h|h
     ·rw[h];exact ht x Zs
     ·exact hs q h
def inD (d:Option Tmp) (l:List Nat):Bool:=
 match d with
 | some t=>mem l t
 | none=>false
def keys {α:Type} (l:List (Nat×α)):List Nat:=l.map (·.1)
def conf (r s:Rec):Bool:=
 inD r.dst s.tR || inD s.dst r.tR || inD r.dst s.dst.toList || (keys r.wr).any (λk=>mem s.bR k || mem (keys s.wr) k) || (keys s.wr).any (λk=>mem r.bR k)
def raceB (pr:Nat->List Nat) (rs:List Rec):Bool:=
 (List.range rs.length).all λj=>(List.range j).all λi=>
  match rs[i]?,rs[j]? with
  | some r,some s=>!conf r s || mem (pr j) i || mem (bfs pr 2000 (pr j) []) i
  | _,_=>true
theorem Znl {pr:Nat->List Nat} {rs:List Rec} (h:raceB pr rs=true) {i j:Nat} (hij:i<j) {r s:Rec} (hi:rs[i]? = some r) (hj:rs[j]? = some s) (hc:conf r s=true)
  {L:Nat->Prop} (hcl:∀j,L j->∀q∈pr j,L q) (hp:∀q∈pr j,L q):L i:=by
 have hjl:j<rs.length:=(Yan.1 hj).1;have h1:=Ybn.1 h j (Yeu.2 hjl);have h2:=Ybn.1 h1 i (Yeu.2 hij);rw[hi,hj]at h2;dsimp only at h2;rw[hc]at h2;simp only[Bool.not_true,Yeo,Ybo,mem_iff]at h2;rcases h2 with h2|h2
 ·exact hp i h2
 ·exact Zq0 hcl 2000 _ _ hp Zs i h2
theorem Znm {α:Type} {k:Nat} {b:α}:∀{l:List (Nat×α)},l.look k=some b->k∈keys l
 | [],h=>by simp at h
 | (k', x) :: r, h => by
   rw[Zat]at h;split at h
   ·rename_i e;subst e;simp[keys]
   ·have:=Znm h
    simp only[keys,Ybz,Ycp];exact .inr this
end Go.Ex
namespace Go.Mono
open Go.RowKit
section
section
variable {P:Program} {ops:Array Oper} {rest:List Oper} {o:Oper} {a:Act} {Q:Exit->Act->World->Prop}
end
end
end Go.Mono
namespace Go.Proofs.W
open Go.RowKit Go.Mono

theorem Zg0 (B:Nat) (nm:ByteArray) (di pu pr:Int) (st:Nat) (pf pw' pc:Option Addr) (nf cf nw cw m cs cc b off:Nat) (A:Nat->Array Value) (hA:∀i,(A i).size=22) (w:World)
  (b0:Box w B 236 #[.string nm,.int .i64 di,.int .i64 pu,.int .i64 (st:Int),.int .i64 pr,.slice pf nf cf,.slice pw' nw cw,.slice (some ⟨b,off,none⟩) (m+1) cs,.slice pc 0 cc])
  (hr:RdC w (some ⟨b,off,none⟩) (m+1) cs 22 (λi j=>(A i).getD j undef)) (m1:1<=m) (m2:m+1<=16) (s1:st+1<=m)
  (hc:∀i,i<m+1->∀W,Below w.heap.size w W->Calls Tryz.prog 216 #[.agg (A i)] W λe w'=>e=.returned (.int .i64 0)∧Below W.heap.size W w')
  (him:∀W,Calls Tryz.prog 218 #[.agg (A m)] W λe w'=>e=.returned (.bool true)∧Below W.heap.size W w')
  (kd:Int) (hkd:(A st)[0]? = some (.int .i64 kd)) (hk3:(kd != 3)=true) :
  Calls Tryz.prog 196 #[.pointer (some ⟨B,0,none⟩)] w λe w'=>e=.returned (.bool true)∧Below w.heap.size w w':=by
 have cb0:=b0.cell;have lb0:=b0.lt;have hsz:(Tryz.prog.info? 115).map (·.size)=some 22:=Zk;have e1:(2:Int)<=(m:Int)+1:=Zo;have e2:(m:Int)+1<=16:=Zo;have e3:IntKind.i64.wrap ((m:Int)+1-2)=(m:Int)-1:=by rw[Ybi];omega
 have e4:(0:Int)<=(st:Int):=Zo;have e5:(st:Int)<=(m:Int)-1:=Zo;go_enter Tryz.func196,Tryz.ntmps196
 go_wp2_with first|(go_at_call 193;(with_reducible refine(Zbf _ _ _ e1 e2 _).mono ?_);rintro e w' ⟨rfl,rfl⟩)|(go_at_call 193;(with_reducible refine(Zbf _ _ _ e4 e5 _).mono ?_);rintro e w' ⟨rfl,rfl⟩)
 have h5:=hr;obtain⟨_,_,hx⟩:=h5;obtain⟨b',off',hp,hbl,hcell⟩:=hx Zo;obtain⟨rfl,rfl⟩:b=b'∧off=off':=by simpa using hp
 clear hx hp;dsimp only at hcell;have hcs:=Zox (m+1) cs (some ⟨b,off,none⟩) A hA 215 Zf1;have hsA:∀i,(Tryz.prog.info? 115).map (·.size)=some (A i).size:=λi=>by rw[hsz,hA]
 have fk:w'.cell? ⟨b,off+st*22,none⟩=some (.int .i64 kd):=by
  have:=hcell st 0 Zo Zo;rw[Yax,hkd]at this;simpa using this
 have hrange:∀w2,Below w'.heap.size w' w2->w2.rangeAt b (off+m*22) (A m).toList:=λw2 hw2 j v hv=>by
  have hj:j<22:=by
   have:=(Yan.1 hv).1;simpa[hA]using this
  refine((hw2.cell (p:=⟨b,off+m*22+j,none⟩) hbl).trans (hcell m j Zo hj)).trans ?_;rw[Yaq]at hv;rw[Yax,hv];rfl
 have m3:(m:Int)<=15:=Zo;have m4:(0:Int)<=m:=Zo;have m6:(m:Int)<(m:Int)+1:=Zo;have m5:IntKind.i64.wrap (m:Int)=m:=by rw[Ybi];omega
 have s3:(st:Int)<(m:Int)+1:=Zo;clear hcell hsz hkd e1 e2 e3;refine wp_region_held_drew (S:=λw2=>(∀b o,b<w'.heap.size->w2.cell? ⟨b,o,none⟩=w'.cell? ⟨b,o,none⟩)∧Below w'.heap.size w' w2) Zk (Za1 (Yae _ _).drew) (λhHeld=>?_);refine tk 0 (some 25) ?_;refine tk 1 (some 26) ?_;refine tk 2 (some 27) ?_;refine tk 3 (some 28) ?_;refine tk 4 (some 29) ?_;refine tk 5 (some 30) ?_;refine Mono.st 6 ?_;intro K hK;go_simp
 (refine(hcs _ (hr.below hHeld.2) (λi hi W hW=>Zkm (A i) (hA i) W (λW2 h2=>hc i hi W2 (Zaa (Zaa hHeld.2 hW) h2)))).mono ?_;rintro e W1 ⟨rfl,hb⟩)
 refine kp hK (Za1 (Zaa hHeld.2 hb)) (λhHeld=>?_);clear hK K;clear hb;refine tk 7 (some 32) ?_;refine tk 8 (some 33) ?_;refine tk 9 (some 34) ?_;refine tk 10 (some 35) ?_;refine tk 11 (some 36) ?_;refine tk 12 (some 37) ?_;refine tk 13 (some 38) ?_;refine tk 14 (some 39) ?_;refine tk 15 (some 40) ?_;refine tk 16 (some 41) ?_;refine tl 17 (some 42) rfl (.agg (A m)) (Zai 115 _ rfl b (off+m*22) rfl (A m) (λw h=>hrange w h.2) _ Tryz.underlying115 rfl (hsA m)) ?_;refine Mono.st 18 ?_;intro K hK;go_simp
 (refine(him _).mono ?_;rintro e W2 ⟨rfl,hb⟩)
 refine kp hK (Za1 (Zaa hHeld.2 hb)) (λhHeld=>?_);clear hK K;clear hb;refine tk 19 (some 44) ?_;refine tk 20 (some 45) ?_;refine tk 21 (some 46) ?_;refine tk 22 (some 47) ?_;refine tk 23 (some 48) ?_;refine tk 24 (some 49) ?_;refine tk 25 (some 50) ?_;refine tk 26 (some 51) ?_;refine tk 27 (some 52) ?_;refine tk 28 (some 53) ?_;refine tk 29 (some 54) ?_;refine tk 30 (some 55) ?_;refine tk 31 (some 56) ?_;refine tk 32 (some 57) ?_;refine tk 33 (some 58) ?_;refine tk 34 (some 59) ?_;refine tk 35 (some 60) ?_;refine tk 36 (some 2) ?_;refine wpAnyH_done Zk ?_ _;go_wp2
 go_ret
 exact⟨rfl,hHeld.2⟩
end Go.Proofs.W
namespace Go.Ex
open Go.RowKit Go.Mono
theorem Sat.congr {D:Den} {w0:World} {X:Nat->Prop} {th:Nat} {ρ:Nm} {wc w:World} {bk bk':List (Nat×Blk)} (h:Sat D w0 X th ρ wc w bk) (he:∀k,bk'.look k=bk.look k):Sat D w0 X th ρ wc w bk':=
 h.sub λk b hk=>by rw[<-he];exact hk
theorem TSat.sub {D:Den} {ρ:Nm} {w:World} {n:Nat} {tm tm':List (Nat×SV)} {a:Act} (h:TSat D ρ w n tm a) (hs:Sub tm' tm):TSat D ρ w n tm' a:=⟨h.size,λt x hl=>h.at_ t x (hs t x hl)⟩
theorem Evo.congr {ρ ρ':Nm} {wc w wc' w':World} {bk b1 b2:List (Nat×Blk)} {c c':Nat} (h:Evo ρ wc w bk c c' ρ' wc' w' b1) (he:∀k,b2.look k=b1.look k):Evo ρ wc w bk c c' ρ' wc' w' b2:=
 h.sub λk b hk=>by rw[<-he];exact hk
theorem Evo.widen {ρ ρ':Nm} {wc w wc' w':World} {bk b1:List (Nat×Blk)} {c c' d d':Nat} (h:Evo ρ wc w bk c c' ρ' wc' w' b1) (h1:d<=c) (h2:c'<=d'):Evo ρ wc w bk d d' ρ' wc' w' b1:=
 ⟨h.rho,h.ext,h.size,h.os,h.tape,h.output,h.loc,λk b hk=>(h.ids k b hk).imp id λ⟨k1,k2,hh⟩=>⟨Zo,Zo,hh⟩,by have:=h.cc;omega,λk hk=>h.dom k Zo⟩
theorem Evo.join {ρ ρ1 ρ2:Nm} {wc w wc1 w1 wc2 w2:World} {bk bk1 bk2:List (Nat×Blk)} {c d:Nat}
  (h:Evo ρ wc w bk c d ρ1 wc1 w1 bk1) (g:Evo ρ1 wc1 w1 bk1 c d ρ2 wc2 w2 bk2) (hlt:∀k b,Liv bk k b->∃B,ρ k=some B):Evo ρ wc w bk c d ρ2 wc2 w2 bk2 where
 rho:=h.rho.trans g.rho
 ext:=h.ext.trans g.ext
 size:=Yak h.size g.size
 os:=g.os.trans h.os
 tape:=g.tape.trans h.tape
 output:=g.output.trans h.output
 loc:=λi hi hn=>by
  rw[g.loc i (Yaf hi h.size) ?_,h.loc i hi hn];intro k b C hk he hro;rcases h.ids k b hk with ⟨b',hb'⟩|⟨_,_,B,hB,hle⟩
  ·obtain⟨B,hB⟩:=hlt k b' hb'
   have:=h.rho k B hB;rw[he]at this;cases this;exact hn k b' C hb' hB hro
  ·rw[he]at hB
   cases hB;rcases hle with hle|⟨k0,b0,B0,h1,h2,h3,h4⟩
   ·omega
   ·rw[<-h4];exact hn k0 b0 B0 h1 h2 h3
 ids:=λk b hk=>by
  rcases g.ids k b hk with ⟨b',hb'⟩|⟨k1,k2,B,hB,hle⟩
  ·rcases h.ids k b' hb' with h2|⟨k1,k2,B,hB,hle⟩
   ·exact .inl h2
   ·exact .inr ⟨k1,k2,B,g.rho k B hB,hle⟩
  ·refine .inr ⟨k1,k2,B,hB,?_⟩
   rcases hle with hle|⟨k0,b0,B0,h1,h2,h3,h4⟩
   ·exact .inl (Yak h.size hle)
   ·rcases h.ids k0 b0 h1 with ⟨b',hb'⟩|⟨_,_,B1,hB1,hle⟩
    ·obtain⟨B1,hB1⟩:=hlt k0 b' hb'
     have:=h.rho k0 B1 hB1;rw[h2]at this;cases this;exact .inr ⟨k0,b',B0,hb',hB1,h3,h4⟩
    ·rw[h2]at hB1
     cases hB1;rw[<-h4];exact hle
 cc:=h.cc
 dom:=λk hk=>(g.dom k hk).trans (h.dom k hk)
theorem Zbz {α:Type} (f:Nat->Bool) (k:Nat):∀l:List (Nat×α),(l.filter λq=>f q.1).look k=if f k=true then l.look k else none
 | []=>Zs
 | (k', x) :: r => by
   have ih:=Zbz f k r;rw[List.filter_cons];dsimp only;by_cases h:f k'=true
   ·rw[if_pos h,Zat,Zat,ih]
    by_cases e:k=k'
    ·subst e;rw[if_pos rfl,if_pos rfl,if_pos h]
    ·rw[if_neg e,if_neg e]
   ·rw[if_neg h,ih,Zat]
    by_cases e:k=k'
    ·subst e;rw[if_neg h,if_neg h]
    ·rw[if_neg e]
def left (L:Nat->Bool):Nat->Nat
 | 0=>0
 | m+1=>(if L m then 0 else 1)+left L m
theorem Zq1 (L:Nat->Bool) (i:Nat):∀m,left (λj=>j==i || L j) m<=left L m
 | 0=>Yab _
 | m + 1 => by
   have:=Zq1 L i m;unfold left;cases hL:L m<;>cases he:(m==i)<;>simp only[hL,he,Bool.or_true,Bool.or_false,Bool.true_or,Yeo,if_true,Ybq,if_false]<;>omega
theorem Zq2 {L:Nat->Bool} {i:Nat} (hi:L i=false):∀m,i<m->left (λj=>j==i || L j) m<left L m
 | 0,h=>Zo
 | m + 1, h => by
   unfold left;by_cases e:i=m
   ·subst e
    have:=Zq1 L i i;simp only[hi,BEq.rfl,Bool.true_or,if_true,Ybq,if_false];omega
   ·have:=Zq2 hi m Zo
    have e':(m==i)=false:=by simp;omega
    simp only[e',Yeo];omega
theorem Zkf {L:Nat->Bool}:∀m,left L m=0->∀j,j<m->L j=true
 | 0,_,j,hj=>Zo
 | m + 1, h, j, hj => by
   unfold left at h;by_cases e:j=m
   ·subst e
    cases hL:L j with
    | true=>rfl
    | false=>rw[hL]at h;simp at h;
   ·exact Zkf m Zo j Zo
theorem Zq3 {α:Type} {ws:List (List (Nat×α))} {l0:List (Nat×α)} {L:Nat->Bool} {k:Nat} {b:α}:∀N,(accAt ws L l0 N).look k=some b->l0.look k=some b∨∃j,((ws.getD j []).look k)=some b
 | 0,h=>.inl h
 | N + 1, h => by
   rw[Zb3]at h;split at h
   ·exact .inr ⟨N,h⟩
   ·exact Zq3 N h
theorem Zl4 {α:Type} {ws:List (List (Nat×α))} {l0:List (Nat×α)} {L:Nat->Bool} {N:Nat} (h:∀j,j<N->L j=true):∀m,m<=N->accAt ws L l0 m=accAt ws tt l0 m
 | 0,_=>rfl
 | m + 1, hm => by
   show(if L m then _ else _)++accAt ws L l0 m=(if tt m then _ else _)++accAt ws tt l0 m;rw[Zl4 h m Zo,h m Zo];rfl
theorem Zen {rs:List Rec} {i t:Nat} (h:wrote (rs.map wT) i t):∃r,rs[i]? = some r∧r.dst=some t:=by
 unfold wrote at h;rw[Yac,Ycj]at h;cases hr:rs[i]? with
 | none=>rw[hr]at h;simp at h
 | some r =>
   rw[hr]at h;simp only[Yfx,Option.getD_some]at h;unfold wT at h;cases hd:r.dst with
   | none=>rw[hd]at h;simp at h
   | some d =>
     rw[hd]at h;dsimp only at h;rw[Zat]at h;split at h
     ·rename_i e;subst e;exact⟨r,rfl,hd⟩
     ·simp at h
theorem Zeo {rs:List Rec} {i k:Nat} (h:wrote (rs.map (·.wr)) i k):∃r,rs[i]? = some r∧k∈keys r.wr:=by
 unfold wrote at h;rw[Yac,Ycj]at h;cases hr:rs[i]? with
 | none=>rw[hr]at h;simp at h
 | some r =>
   rw[hr]at h;obtain⟨b,hb⟩:=Yct.1 h;exact⟨r,rfl,Znm hb⟩
theorem Zv8 {r s:Rec} {t:Nat} (h1:r.dst=some t) (h2:t∈s.tR):conf r s=true:=by
 unfold conf;rw[show inD r.dst s.tR=true from by rw[h1];exact mem_iff.2 h2];simp
theorem Zv9 {r s:Rec} {t:Nat} (h1:s.dst=some t) (h2:t∈r.tR):conf r s=true:=by
 unfold conf;rw[show inD s.dst r.tR=true from by rw[h1];exact mem_iff.2 h2];simp
theorem Zwa {r s:Rec} {t:Nat} (h1:r.dst=some t) (h2:s.dst=some t):conf r s=true:=by
 unfold conf;rw[show inD r.dst s.dst.toList=true from by rw[h1,h2];exact mem_iff.2 Zs];simp
theorem Zq4 {r s:Rec} {k:Nat} (h1:k∈keys r.wr) (h2:k∈s.bR∨k∈keys s.wr):conf r s=true:=by
 unfold conf;rw[show(keys r.wr).any (λk=>mem s.bR k || mem (keys s.wr) k)=true from Yft.2 ⟨k,h1,by
  rw[Ybo,mem_iff,mem_iff];exact h2⟩]
 simp
theorem Zwb {r s:Rec} {k:Nat} (h1:k∈keys s.wr) (h2:k∈r.bR):conf r s=true:=by
 unfold conf;rw[show(keys s.wr).any (λk=>mem r.bR k)=true from Yft.2 ⟨k,h1,mem_iff.2 h2⟩];simp
end Go.Ex
namespace Go.Proofs.W
open Go.RowKit Go.Mono
theorem Zug (p q:Option Addr) (n m c1 c2:Nat) (f g:Nat->Int) (w:World) (h1:RdF w p n c1 f) (h2:RdF w q m c2 g) :
  Calls Tryz.prog 106 #[.slice p n c1,.slice q m c2] w λe w'=>∃r:Bool,e=.returned (.bool r)∧(r=true↔n=m∧∀i,i<n->f i=g i)∧∃k,w'=w.drewN k:=by
 obtain⟨hc1,hn1,hx1⟩:=h1;obtain⟨hc2,hn2,hx2⟩:=h2;by_cases hnm:n=m
 ·subst hnm
  go_enter Tryz.func106,Tryz.ntmps106
  go_wp2
  go_loopw [13] (λa wr=>∃k:Nat,k<=n∧a=.int .i64 (k:Int)∧(∀i,i<k->f i=g i)∧∃j,wr=w.drewN j) (λa _=>(n-intOf a).toNat)
  case atStart=>exact⟨0,Yat _,rfl,λi hi=>Zo,0,rfl⟩
  case round=>
   obtain⟨k,hk,rfl,ht,j,rfl⟩:=hrel;have HT:=Yah ht;clear ht;by_cases h0:k<n
   ·obtain⟨b,off,rfl,hb,hcell⟩:=hx1 Zo
    obtain⟨b2,off2,rfl,hb2,hcell2⟩:=hx2 Zo;have a1:=hcell k Zo;have a2:=hcell2 k Zo;clear hcell hcell2 hx1 hx2;have h0':(k:Int)<n:=Zo;by_cases hfg:f k=g k
    ·have hq:(f k != g k)=false:=by simpa using hfg
     have HF:=Yah hfg;clear hfg;go_wp2
     go_quiet (fail)
     go_wp2
     go_roundw
     case rel=>
      refine⟨k+1,Zo,Zs,λi hi=>?_,_,rfl⟩;by_cases h:i<k
      ·exact HT.out i h
      ·obtain rfl:i=k:=by omega
       exact HF.out
     case measure=>simp[intOf];omega
    ·have hq:(f k != g k)=true:=by simpa using hfg
     have HF:=Yah hfg;clear hfg;go_wp2
     go_quiet (fail)
     go_wp2
     go_ret
     exact⟨false,rfl,⟨Zs,λh=>absurd (h.2 k h0) HF.out⟩,_,by rw[Ydc]⟩
   ·obtain rfl:k=n:=by omega
    go_wp2
    go_ret
    refine⟨true,rfl,?_,_,rfl⟩;simp only[true_and];first|exact HT.out|exact⟨trivial,HT.out⟩|(simp;exact HT.out)
 ·have hq:((n:Int) != m)=true:=by simp;omega
  have HN:=Yah hnm;clear hnm;go_enter Tryz.func106,Tryz.ntmps106
  go_wp2
  go_ret
  exact⟨false,rfl,⟨Zs,λh=>absurd h.1 HN.out⟩,0,rfl⟩
end Go.Proofs.W
namespace Go.Ex
open Go.RowKit Go.Mono
section
def isCall (o:Oper):Bool:=
 match o.op with
 | .call c => match c.callee with
   | .value _=>true
   | _=>false
 | _=>false
theorem Zia {P:Program} {cs:CallS} {ys:YEnv} {o:Oper} {get:Operand->Option SV} {bk:List (Nat×Blk)} {th c:Nat} {orc:List (Option Bool)} {r:OpR} (he:opS P cs ys o get bk th c orc=some (r,true)):isCall o=true:=by
 unfold opS at he;split at he
 ·cases he
 ·split at he
  ·cases he
  split at he
  ·rename_i f args hc
   unfold callOf at hc;unfold isCall;split at hc
   ·rename_i c ho
    split at hc
    ·rename_i fv hcc
     rw[ho];dsimp only;rw[hcc]
    ·cases hc
   ·cases hc
  ·split at he
   ·rename_i k args hc
    unfold yldOf at hc;unfold isCall;split at hc
    ·rename_i c ho
     split at hc
     ·rename_i fv hcc
      rw[ho];dsimp only;rw[hcc]
     ·cases hc
    ·cases hc
   ·split at he
    ·cases he
    ·split at he
     ·cases he
     split at he
     ·cases he
     ·split at he
      ·split at he
       ·cases he
       ·cases he
      ·cases he
def stB (rs:List Rec) (bk pw:List (Nat×Blk)) (bR:List Nat):List (Nat×Blk):=pw++bk.filter λq=>!mem bR q.1&&rs.all λr=>!mem (keys r.wr) q.1
def stT (rs:List Rec) (tm:List (Nat×SV)):List (Nat×SV):=tm.filter λq=>rs.all λr=>!inD r.dst [q.1]
theorem Zi1 {α:Type} {ws:List (List (Nat×α))} {l0:List (Nat×α)} {L:Nat->Bool} {k:Nat} (h:∀j,¬wrote ws j k):∀N,(accAt ws L l0 N).look k=l0.look k
 | 0=>rfl
 | N+1=>by rw[Zb3,if_neg (λhh=>h N hh.2),Zi1 h N]
structure DrawOk (ops:Array Oper) (s:Stt) (rs:List Rec) (s':Stt):Prop where
 race:raceB (prOf ops) rs=true
 pre:∀j,∀q∈prOf ops j,q<j
 call:(∃o∈ops.toList,isCall o=true)->(∀k b,s.bk.look k=some b->k<s.th)∧(∀r∈rs,r.c1<=s.th∧∀k b,r.wr.look k=some b->k<s.th)
section
variable {D:Den} {P:Program} {w0:World} {X:Nat->Prop} {cs:CallS} {ys:YEnv}
theorem Zt8 (hcs:CallOk D P w0 X cs) {bd:Nat} {ro:Option Nat} {m:Nat} {ops:Array Oper} {n:Nat} {s s':Stt} {rs:List Rec} {q:List Prop} {pn:Option Value} (hR:RecOk P cs ys ops n ops.toList 0 [] s rs s' q pn) (hD:DrawOk ops s rs s') (hq:∀p∈q,p)
  {Q:Exit->Act->World->Prop} {ρ0:Nm} {wc0 w00:World} {d0:List Deferred} (hnm:∀k b,Liv s.bk k b->∃B,ρ0 k=some B) (hY0:∀ρ' wc' w' bk',Evo ρ0 wc0 w00 s.bk s.c s'.c ρ' wc' w' bk'->YOk D P w0 X bd ys ρ' wc' w')
  (hK:pn=none->∀ρ' wc' w' a',Sat D w0 X s.th ρ' wc' w' s'.bk->TSat D ρ' wc' n s'.tm a'->a'.defers=d0->Evo ρ0 wc0 w00 s.bk s.c s'.c ρ' wc' w' s'.bk->Q .normal a' w')
  (hP:∀p pw bR,panRec rs=some (p,pw,bR)->∀ρ' wc' w' a',Sat D w0 X s.th ρ' wc' w' (stB rs s.bk pw bR)->TSat D ρ' wc' n (stT rs s.tm) a'->a'.defers=d0->Evo ρ0 wc0 w00 s.bk s.c s'.c ρ' wc' w' (stB rs s.bk pw bR)->Q (.panic [{v:=p,recovered:=false}]) a' w') :
  ∀(fuel:Nat) (L:Array Bool) (a:Act) (w:World) (ρ:Nm) (wc:World),L.size=ops.size->left (λj=>L.getD j false) ops.size<=fuel->
    (∀j,L.getD j false=true->∀p∈prOf ops j,L.getD p false=true)->(∀(i:Nat) (r:Rec),rs[i]? = some r->r.kd≠.go->L.getD i false=false)->
    Sat D w0 X s.th ρ wc w (accAt (rs.map (·.wr)) (λj=>L.getD j false) s.bk ops.size)->TSat D ρ wc n (accAt (rs.map wT) (λj=>L.getD j false) s.tm ops.size) a->a.defers=d0->
    Evo ρ0 wc0 w00 s.bk s.c s'.c ρ wc w (accAt (rs.map (·.wr)) (λj=>L.getD j false) s.bk ops.size)->
    (∀(i:Nat) (r:Rec),rs[i]? = some r->L.getD i false=false->∀k,r.c0<=k->k<r.c1->ρ k=none)->wpAnyIn (WF ro) m P .any ops Q fuel L a w:=by
 have hlen:rs.length=ops.size:=by rw[hR.len,Yaz]
 -- a record of nothing that comes up: there is one that panics
 have allgo:pn=none->∀(i:Nat) (r:Rec),rs[i]? = some r->r.kd=.go:=by
  intro hpn i;induction i using Nat.strongRecOn with
  | _ i ih =>
    intro r hr;cases hk:r.kd with
    | go=>rfl
    | pan p pw =>
      have:=hR.uniq i r p pw hr hk;rw[hR.pn0 hpn]at this;cases this
    | never =>
      obtain⟨_,_,o,p,ho,hp,hh⟩:=hR.nev i r hr hk;rcases hh with hh|⟨j,rj,hj,hrj,hkj⟩
      ·cases hh
      ·have hin:p∈prOf ops i:=by
        unfold prOf;rw[Yaq]at ho;rw[ho];exact hp
       have hlt:=hD.pre i p hin;exact absurd (ih j Zo rj hrj) hkj
 -- all are listed: the end
 have done : ∀ (L : Array Bool) (a : Act) (w : World) (ρ : Nm) (wc : World), (∀ j, j < ops.size -> L.getD j false = true) -> (∀ (i : Nat) (r : Rec), rs[i]? = some r -> r.kd ≠ .go -> L.getD i false = false) ->
   Sat D w0 X s.th ρ wc w (accAt (rs.map (·.wr)) (λj=>L.getD j false) s.bk ops.size)->TSat D ρ wc n (accAt (rs.map wT) (λj=>L.getD j false) s.tm ops.size) a->a.defers=d0->
   Evo ρ0 wc0 w00 s.bk s.c s'.c ρ wc w (accAt (rs.map (·.wr)) (λj=>L.getD j false) s.bk ops.size)->Q .normal a w:=by
  intro L a w ρ wc hall hgo hS hT hd hE;have e1:accAt (rs.map (·.wr)) (λj=>L.getD j false) s.bk ops.size=s'.bk:=by
   rw[Zl4 (N:=ops.size) hall _ (Yab _),hR.bk,Yaz]
  have e2:accAt (rs.map wT) (λj=>L.getD j false) s.tm ops.size=s'.tm:=by
   rw[Zl4 (N:=ops.size) hall _ (Yab _),hR.tm,Yaz]
  rw[e1]at hS hE;rw[e2]at hT;refine hK ?_ ρ wc w a hS hT hd hE;cases hpn:pn with
  | none=>rfl
  | some v =>
    exfalso
    obtain⟨pw,bR,hpr⟩:=hR.pn1 v hpn;have:∀l:List Rec,panRec l=some (v,pw,bR)->∃(i:Nat) (r:Rec),l[i]? = some r∧r.kd≠.go:=by
     intro l;induction l with
     | nil=>intro h;cases h
     | cons r l ih =>
       intro h;unfold panRec at h;split at h
       ·rename_i p pw' hk
        exact⟨0,r,Zs,by rw[hk];intro hh;cases hh⟩
       ·obtain⟨i,r',h1,h2⟩:=ih h
        exact⟨i+1,r',by simpa using h1,h2⟩
    obtain⟨i,r,h1,h2⟩:=this rs hpr;have h3:=hgo i r h1 h2;have h4:=(Yan.1 h1).1;rw[hall i Zo]at h3;cases h3
 -- nothing is ready: all are listed
 have none_:∀(L:Array Bool),L.size=ops.size->Region.ready .any ops L=[]->∀j,j<ops.size->L.getD j false=true:=by
  intro L hsz hr j;induction j using Nat.strongRecOn with
  | _ j ih =>
    intro hj;cases hL:L.getD j false with
    | true=>rfl
    | false =>
      exfalso
      have hmem:j∈Region.ready .any ops L:=by
       rw[mem_ready];refine⟨?_,ops[j],by simp[hj],?_⟩
       ·have:j<L.size:=by omega
        simp[Array.getD,this]at hL ⊢;exact hL
       ·intro e he hb
        have hin:e.on∈prOf ops j:=by
         unfold prOf;rw[Yby hj];unfold predsOf;exact Ydl.2 ⟨e,List.mem_filter.2 ⟨by simpa using he,hb⟩,rfl⟩
        have hlt:=hD.pre j _ hin;exact ih e.on hlt Zo
      rw[hr]at hmem;cases hmem
 intro fuel;induction fuel with
 | zero =>
   intro L a w ρ wc hsz hleft hcl hgo hS hT hd hE hun;have hall:=Zkf ops.size (Nat.le_zero.1 hleft);refine⟨?_,done L a w ρ wc hall hgo hS hT hd hE⟩;apply List.eq_nil_iff_forall_not_mem.2;intro j hj;obtain⟨h1,o,ho,_⟩:=mem_ready.1 hj;have hjs:=(Yeq.1 ho).1;have h2:=hall j hjs;have hjl:j<L.size:=Zo;simp[Array.getD,hjl]at h1 h2;rw[h1]at h2;cases h2
 | succ fuel ih =>
   intro L a w ρ wc hsz hleft hcl hgo hS hT hd hE hun;refine⟨λhr=>done L a w ρ wc (none_ L hsz hr) hgo hS hT hd hE,λi hi=>?_⟩;obtain⟨h1,o,ho,hpre⟩:=mem_ready.1 hi;have his:=(Yeq.1 ho).1;have hil:i<L.size:=Zo;have hLi:L.getD i false=false:=by simp[Array.getD,hil]at h1 ⊢;exact h1
   have hpr:∀p∈prOf ops i,L.getD p false=true:=by
    intro p hp;unfold prOf at hp;rw[ho]at hp;obtain⟨e,he,rfl⟩:=Ydl.1 hp;obtain⟨he1,he2⟩:=List.mem_filter.1 he;exact hpre e (by simpa using he1) he2
   have hir:i<rs.length:=Zo;obtain⟨r,hr⟩:∃r,rs[i]? = some r:=⟨rs[i],by simp[hir]⟩
   by_cases hnv:r.kd=.never
   ·exfalso
    obtain⟨_,_,o',p,ho',hp,hh⟩:=hR.nev i r hr hnv;rcases hh with hh|⟨j,rj,hj,hrj,hkj⟩
    ·cases hh
    ·have hin:p∈prOf ops i:=by
      unfold prOf;rw[Yaq]at ho';rw[ho'];exact hp
     have h3:=hpr p hin;have h4:=hgo j rj hrj hkj;rw[Yba]at hj;rw[hj,h4]at h3;cases h3
   obtain⟨o',ho',hst⟩:=hR.step i r hr hnv;have hoo:o'=o:=by
    rw[Yaq,ho]at ho';cases ho';rfl
   subst hoo;obtain⟨hdok,orc,orc',ps,b,hw,hps,hcase⟩:=hst
   -- who touches what this one touches
   have before:∀j s2,j<i->rs[j]? = some s2->conf s2 r=true->L.getD j false=true:=λj s2 hj hs2 hc=>
    Znl (L:=λj=>L.getD j false=true) hD.race hj hs2 hr hc hcl hpr
   have after:∀j s2,i<j->rs[j]? = some s2->conf r s2=true->L.getD j false=false:=λj s2 hj hs2 hc=>by
    cases hLj:L.getD j false with
    | false=>rfl
    | true =>
      have:=Znl (L:=λj=>L.getD j false=true) hD.race hj hr hs2 hc hcl (hcl j hLj);rw[hLi]at this;cases this
   have subT:Sub (some_ r.tR (accAt (rs.map wT) tt s.tm i)) (accAt (rs.map wT) (λj=>L.getD j false) s.tm ops.size):=by
    intro t x hx;rw[Zdd]at hx;split at hx
    ·rename_i ht
     have ht':t∈r.tR:=mem_iff.1 ht;rw[Znk hLi ?_ ?_ _ (Nat.le_of_lt his)]
     ·exact hx
     ·intro j hj hwr
      obtain⟨s2,hs2,hd2⟩:=Zen hwr;exact before j s2 hj hs2 (Zv8 hd2 ht')
     ·intro j hj hwr
      obtain⟨s2,hs2,hd2⟩:=Zen hwr;exact after j s2 hj hs2 (Zv9 hd2 ht')
    ·cases hx
   have subB:Sub (some_ r.bR (accAt (rs.map (·.wr)) tt s.bk i)) (accAt (rs.map (·.wr)) (λj=>L.getD j false) s.bk ops.size):=by
    intro t x hx;rw[Zdd]at hx;split at hx
    ·rename_i ht
     have ht':t∈r.bR:=mem_iff.1 ht;rw[Znk hLi ?_ ?_ _ (Nat.le_of_lt his)]
     ·exact hx
     ·intro j hj hwr
      obtain⟨s2,hs2,hd2⟩:=Zeo hwr;exact before j s2 hj hs2 (Zq4 hd2 (.inl ht'))
     ·intro j hj hwr
      obtain⟨s2,hs2,hd2⟩:=Zeo hwr;exact after j s2 hj hs2 (Zwb hd2 ht')
    ·cases hx
   have addT:∀k,(accAt (rs.map wT) (λj=>j==i || L.getD j false) s.tm ops.size).look k=(wT r++accAt (rs.map wT) (λj=>L.getD j false) s.tm ops.size).look k:=by
    intro k;rw[Zqz hLi ?_ _ his,Zba]
    ·rw[Yac,Ycj,hr];rfl
    ·intro j hj h1 h2
     obtain⟨s1,hs1,hd1⟩:=Zen h1;obtain⟨s2,hs2,hd2⟩:=Zen h2;rw[hr]at hs1;cases hs1;exact after j s2 hj hs2 (Zwa hd1 hd2)
   have addB:∀k,(accAt (rs.map (·.wr)) (λj=>j==i || L.getD j false) s.bk ops.size).look k=(r.wr++accAt (rs.map (·.wr)) (λj=>L.getD j false) s.bk ops.size).look k:=by
    intro k;rw[Zqz hLi ?_ _ his,Zba]
    ·rw[Yac,Ycj,hr];rfl
    ·intro j hj h1 h2
     obtain⟨s1,hs1,hd1⟩:=Zeo h1;obtain⟨s2,hs2,hd2⟩:=Zeo h2;rw[hr]at hs1;cases hs1;exact after j s2 hj hs2 (Zq4 hd1 (.inr hd2))
   have hL':∀j,(L.setIfInBounds i true).getD j false=(j==i || L.getD j false):=by
    intro j;by_cases e:j=i
    ·subst e;simp[Array.getD,hil]
    ·have e':(j==i)=false:=by simpa using e
     rw[getD_set_ne false (λh=>e h.symm),e',Yeo]
   have hLf:(λj=>(L.setIfInBounds i true).getD j false)=λj=>j==i || L.getD j false:=funext hL'
   have hTr:TSat D ρ wc n (some_ r.tR (accAt (rs.map wT) tt s.tm i)) a:=hT.sub subT;have hwant:=Zem hTr hw (λp hp=>hq p (hps p hp));have hrng:=hR.rng i r hr;have hY:=hY0 ρ wc w _ hE
   -- what follows,once it is done
   have next:r.kd=.go->r.dst=o'.dst->∀(ρ':Nm) (wc' w':World) (v:Value),denV D ρ' wc' r.v v->Sat D w0 X s.th ρ' wc' w' (r.wr++accAt (rs.map (·.wr)) (λj=>L.getD j false) s.bk ops.size)->
     Evo ρ wc w (accAt (rs.map (·.wr)) (λj=>L.getD j false) s.bk ops.size) r.c0 r.c1 ρ' wc' w' (r.wr++accAt (rs.map (·.wr)) (λj=>L.getD j false) s.bk ops.size)->
     wpAnyIn (WF ro) m P .any ops Q fuel (L.setIfInBounds i true) (a.put o'.dst v) w':=by
    intro hkd hrd ρ' wc' w' v hv hS' hE';refine ih _ _ w' ρ' wc' (by simpa using hsz) ?_ ?_ ?_ ?_ ?_ ?_ ?_ ?_
    ·rw[hLf]
     have:=Zq2 (L:=λj=>L.getD j false) hLi ops.size his;omega
    ·intro j hj p hp
     rw[hL']at hj ⊢;by_cases e:j=i
     ·subst e;rw[hpr p hp,Bool.or_true]
     ·have e':(j==i)=false:=by simpa using e
      rw[e',Yeo]at hj;rw[hcl j hj p hp,Bool.or_true]
    ·intro j rj hj hk
     rw[hL',hgo j rj hj hk,Bool.or_false];by_cases e:j=i
     ·subst e
      rw[hr]at hj;cases hj;exact absurd hkd hk
     ·simpa using e
    ·rw[hLf];exact hS'.congr addB
    ·rw[hLf]
     have h3:=(hT.mono hE'.rho hE'.ext).put hdok hv;rw[<-hrd,Zl3]at h3;rw[<-hrd];exact h3.sub λk x hk=>by rw[<-addT];exact hk
    ·rw[<-hd];cases o'.dst<;>rfl
    ·rw[hLf];exact(hE.join (hE'.widen hrng.1 hrng.2.2) hnm).congr addB
    ·intro j rj hj hLj k h1 h2
     rw[hL']at hLj;have e:j≠i:=by intro e;subst e;simp at hLj
     have e':(j==i)=false:=by simpa using e
     rw[e',Yeo]at hLj;rw[hE'.dom k ?_]
     ·exact hun j rj hj hLj k h1 h2
     ·rcases Nat.lt_or_gt_of_ne e with h|h
      ·have:=hR.ord j i rj r h hj hr;left;omega
      ·have:=hR.ord i j r rj h hr hj;right;omega
   have names:isCall o'=true->(∀k b,(accAt (rs.map (·.wr)) (λj=>L.getD j false) s.bk ops.size).look k=some b->k<s.th)∧r.c1<=s.th:=by
    intro hic;obtain⟨c1,c2⟩:=hD.call ⟨o',by rw[Array.mem_toList_iff];exact Array.mem_of_getElem? ho,hic⟩;refine⟨λk b hk=>?_,(c2 r (Ych hr)).1⟩;rcases Zq3 _ hk with h|⟨j,h⟩
    ·exact c1 k b h
    ·rw[Yac,Ycj]at h
     cases hrj:rs[j]? with
     | none=>rw[hrj]at h;simp at h
     | some rj=>rw[hrj]at h;exact(c2 rj (Ych hrj)).2 k b h
   unfold wpOpIn;rw[ho];dsimp only;rw[hwant];rcases hcase with ⟨hkd,hrd,rfl,x,cl,hop,e0,e1,e2,e3,hob⟩|⟨hkd,hrd,rfl,e1,e2,e3⟩|⟨pv,pw,hkd,hdn,hwn,rfl,x,cl,hop,e0,e2,e3,hob⟩
   ·rw[if_pos rfl]
    have ef:x.fin (accAt (rs.map (·.wr)) (λj=>L.getD j false) s.bk ops.size)=r.wr++accAt (rs.map (·.wr)) (λj=>L.getD j false) s.bk ops.size:=by
     unfold OpR.fin;rw[e0,<-e2]
    have efR:x.fin (some_ r.bR (accAt (rs.map (·.wr)) tt s.bk i))=r.wr++some_ r.bR (accAt (rs.map (·.wr)) tt s.bk i):=by
     unfold OpR.fin;rw[e0,<-e2]
    refine Znj (G:=r.wr++accAt (rs.map (·.wr)) (λj=>L.getD j false) s.bk ops.size) (th':=s.th) hcs hY hS subB (λx z hz=>hTr.get hz) hop (λp hp=>hq p (hob p hp)) (λk h1 h2=>hun i r hr hLi k h1 (by rw[<-e3];exact h2)) ?_ (λ_ ht=>⟨rfl,.inl ⟨e0,by rw[e2]⟩⟩) ?_ (λp hp=>by rw[e0]at hp;cases hp)
    ·intro hcl' _ ρ' wc' w' hS' hE'
     subst hcl';obtain⟨n1,n2⟩:=names (Zia hop);rw[efR]at hS' hE';exact hS.frame subB n1 hS' hE' (by rw[e3];exact n2) λk b hk=>by
      obtain⟨hk,hdd⟩:=hk;rw[Zba]at hk;cases hwk:r.wr.look k with
      | some b' =>
        rw[hwk,Ydk]at hk;exact .inl ⟨by rw[Zba,hwk,Ydk];exact hk,hdd⟩
      | none =>
        rw[hwk,Ydd]at hk;cases hR':(some_ r.bR (accAt (rs.map (·.wr)) tt s.bk i)).look k with
        | some b' =>
          have:=subB k b' hR';rw[hk]at this;cases this;exact .inl ⟨by rw[Zba,hwk,Ydd];exact hR',hdd⟩
        | none=>exact .inr ⟨⟨hk,hdd⟩,rfl⟩
    ·intro _ ρ' wc' w' v hv hS' hE'
     rw[e1]at hv;rw[e3]at hE';exact next hkd hrd ρ' wc' w' v hv hS' hE'
   ·rw[if_neg Zs]
    refine⟨λ_ _=>trivial,?_⟩;refine next hkd hrd ρ wc w undef (by rw[e1];exact Zgv) (by rw[e2];exact hS) ?_;rw[e2,e3];exact Evo.refl _ _ _ _ _
   ·rw[if_pos rfl]
    have hpan:=hR.uniq i r pv pw hr hkd;have efR:x.fin (some_ r.bR (accAt (rs.map (·.wr)) tt s.bk i))=pw:=by
     unfold OpR.fin;rw[e0];exact e2
    have hsubst:Sub' (stB rs s.bk pw r.bR) (pw++(accAt (rs.map (·.wr)) (λj=>L.getD j false) s.bk ops.size).filter λq=>!mem r.bR q.1):=by
     intro k b hk;obtain⟨hk,hdd⟩:=hk;refine⟨?_,hdd⟩;unfold stB at hk;rw[Zba]at hk ⊢;cases hwk:pw.look k with
     | some b'=>rw[hwk,Ydk]at hk;rw[Ydk];exact hk
     | none =>
       rw[hwk,Ydd]at hk;rw[Ydd];rw[Zbz (λk=>!mem r.bR k&&rs.all λr=>!mem (keys r.wr) k)]at hk;rw[Zbz (λk=>!mem r.bR k)];split at hk
       ·rename_i hc
        rw[Yam]at hc;rw[if_pos hc.1,Zi1]
        ·exact hk
        ·intro j hwr
         obtain⟨rj,hrj,hkj⟩:=Zeo hwr;have:=Ybn.1 hc.2 rj (Ych hrj);rw[mem_iff.2 hkj]at this;cases this
       ·cases hk
    refine Znj (G:=pw++(accAt (rs.map (·.wr)) (λj=>L.getD j false) s.bk ops.size).filter λq=>!mem r.bR q.1) (th':=s.th) hcs hY hS subB (λx z hz=>hTr.get hz) hop (λp hp=>hq p (hob p hp)) (λk h1 h2=>hun i r hr hLi k h1 (by rw[<-e3];exact h2)) ?_ (λ_ ht=>⟨rfl,.inr ⟨by rw[e0];simp,λhw k b hk=>?_⟩⟩) (λhn=>by rw[e0]at hn;cases hn) ?_
    ·intro hcl' _ ρ' wc' w' hS' hE'
     subst hcl';obtain⟨n1,n2⟩:=names (Zia hop);rw[efR]at hS' hE';exact hS.frame subB n1 hS' hE' (by rw[e3];exact n2) λk b hk=>by
      obtain⟨hk,hdd⟩:=hk;rw[Zba]at hk;cases hwk:pw.look k with
      | some b' =>
        rw[hwk,Ydk]at hk;exact .inl ⟨hwk.trans hk,hdd⟩
      | none =>
        rw[hwk,Ydd,Zbz (λk=>!mem r.bR k)]at hk;split at hk
        ·rename_i hc
         refine .inr ⟨⟨hk,hdd⟩,?_⟩;rw[Zdd,if_neg];intro hm;rw[hm]at hc;cases hc
        ·cases hk
    ·rw[e2]at hw
     obtain⟨hk,hdd⟩:=hk;refine⟨?_,hdd⟩;rw[Zba]at hk;cases hwk:pw.look k with
     | some b' =>
       first|rw[hwk,Ydk]at hk|rw[Ydk]at hk
       rw[hw]at hwk;rw[<-hk];exact subB k b' hwk
     | none =>
       first|rw[hwk,Ydd,Zbz (λk=>!mem r.bR k)]at hk|rw[Ydd,Zbz (λk=>!mem r.bR k)]at hk
       split at hk
       ·exact hk
       ·cases hk
    ·intro p' hp' ρ' wc' w' hS' hE'
     rw[e0]at hp';cases hp';rw[e3]at hE';refine hP pv pw r.bR hpan ρ' wc' w' a (hS'.sub' hsubst) ((hT.mono hE'.rho hE'.ext).sub λt y hy=>?_) hd ((hE.join (hE'.widen hrng.1 hrng.2.2) hnm).sub' hsubst);unfold stT at hy;rw[Zbz (λt=>rs.all λr=>!inD r.dst [t])]at hy;split at hy
     ·rename_i hc
      rw[Zi1]
      ·exact hy
      ·intro j hwr
       obtain⟨rj,hrj,hdj⟩:=Zen hwr;have:=Ybn.1 hc rj (Ych hrj);rw[hdj]at this;simp[inD,mem]at this
     ·cases hy
end
end
section
section
variable {D:Den} {P:Program} {w0:World} {X:Nat->Prop} {th:Nat} {ρ ρ1 ρ2:Nm} {wc w wc1 w1 wc2 w2 w3:World} {bk bk1 bk2:List (Nat×Blk)} {c c1 c2:Nat}
theorem Sat.obj (h:Sat D w0 X th ρ wc w bk) {k:Nat} (hk:ρ k=none) (hkb:bk.look k=none) (o:Obj) :
  Sat D w0 X th (addNm ρ k ⟨w.heap.size,0,false,0,0⟩) wc (w.alloc o) bk∧Evo ρ wc w bk k (k+1) (addNm ρ k ⟨w.heap.size,0,false,0,0⟩) wc (w.alloc o) bk:=by
 have hle:=Ziy (B:=⟨w.heap.size,0,false,0,0⟩) hk;have hb:Below w.heap.size w (w.alloc o):=Zad (Yae _ _) _;have ne:∀{j b},Liv bk j b->j≠k:=λhj e=>by subst e;rw[hj.1]at hkb;cases hkb
 refine⟨⟨⟨h.fr.os,h.fr.tape,h.fr.output,Yak h.fr.size hb.size,λi hi hx=>(hb.block i (Yaf hi h.fr.size)).trans (h.fr.block i hi hx)⟩,
  h.ext.alloc _,?_,?_,?_⟩,⟨hle,Ext.refl _,hb.size,rfl,rfl,rfl,λi hi _=>hb.block i hi,λj b hj=>.inl ⟨b,hj⟩,Zo,λj hj=>Za4 _ _ Zo⟩⟩
 ·intro j j' b b' B B' hj hj' h1 h2 he
  rw[Za4 _ _ (ne hj)]at h1;rw[Za4 _ _ (ne hj')]at h2;exact h.inj j j' b b' B B' hj hj' h1 h2 he
 ·intro j B h1
  by_cases e1:j=k
  ·subst e1;rw[Zbt]at h1;cases h1;simp
  ·rw[Za4 _ _ e1]at h1
   exact Yaf (h.lt j B h1) hb.size
 ·intro j b hj
  obtain⟨B,cs',h1,h2,h3,h4,h5,h6⟩:=h.box j b hj;exact⟨B,cs',hle j B h1,h2.of_block (hb.block _ (h.lt j B h1)),h3.mono hle (Ext.refl _),h4,h5,h6⟩
theorem Sat.putObj (h:Sat D w0 X th ρ wc w bk) {l:Nat} {o:Obj} (hl:w.heap[l]? = some o) (ho:o.isCells=false) (h0:w0.heap.size<=l) (o':Obj):Sat D w0 X th ρ wc (w.putObj l o') bk:=by
 refine⟨⟨h.fr.os,h.fr.tape,h.fr.output,by simpa using h.fr.size,λi hi hx=>?_⟩,⟨by simpa using h.ext.size,λj ds fr hj=>?_⟩,h.inj,λk B hB=>by simpa using h.lt k B hB,λk b hk=>?_⟩
 ·rw[World.putObj_heap_other Zo]
  exact h.fr.block i hi hx
 ·have h7:=h.ext.kept j ds fr hj
  rw[World.putObj_heap_other ?_]
  ·exact h7
  ·intro e
   subst e;rw[h7]at hl;cases hl;cases ho
 ·obtain⟨B,cs',h1,h2,h3,h4,h5,h6⟩:=h.box k b hk
  refine⟨B,cs',h1,?_,h3,h4,h5,h6⟩;by_cases e:B.blk=l
  ·rcases h2 with ⟨g,hr⟩|⟨g,h00,rest,q1,q2,hb⟩
   ·refine .inl ⟨g,λj v hj=>?_⟩
    have:=hr j v hj;unfold World.cell? at this;rw[show((⟨B.blk,B.base+j,none⟩:Addr).block)=B.blk from rfl,e,hl]at this;cases o<;>first|cases this|cases ho
   ·have:=hb.blk
    rw[e,hl]at this;cases this;cases ho
  ·exact h2.of_block (World.putObj_heap_other e)
theorem Evo.putNew (h:Evo ρ wc w bk c c1 ρ1 wc1 w1 bk1) {l:Nat} (hl:w.heap.size<=l) (o:Obj):Evo ρ wc w bk c c1 ρ1 wc1 (w1.putObj l o) bk1:=
 ⟨h.rho,h.ext,by simpa using h.size,h.os,h.tape,h.output,λi hi hn=>(World.putObj_heap_other Zo).trans (h.loc i hi hn),h.ids,h.cc,h.dom⟩
theorem Evo.round {l:Nat} {o o1:Obj} (h:Evo ρ wc (w.putObj l o) bk c c1 ρ1 wc1 w1 bk1) (hl:w.heap[l]? = some o1):Evo ρ wc w bk c c1 ρ1 wc1 (w1.putObj l o1) bk1:=by
 have hlt:=Zam hl;refine⟨h.rho,h.ext,by simpa using h.size,h.os,h.tape,h.output,λi hi hn=>?_,λk b hk=>?_,h.cc,h.dom⟩
 ·by_cases e:i=l
  ·subst e
   rw[World.putObj_heap_same (by have:=h.size;rw[World.putObj_size]at this;omega),hl]
  ·rw[World.putObj_heap_other e,h.loc i (by simpa using hi) hn,World.putObj_heap_other e]
 ·have:=h.ids k b hk
  rwa [World.putObj_size]at this
end
def TH:Nat:=2 ^ 200
def preOk (ops:Array Oper):Bool:=(List.range ops.size).all λj=>(prOf ops j).all λq=>Nat.blt q j
def drawS (P:Program) (cs:CallS) (ys:YEnv) (ops:Array Oper) (n:Nat) (s:Stt):Option (Stt×List Prop×Option Value):=
 let hc:=ops.toList.any isCall
 match recS P cs ys ops n ops.toList 0 [] ⟨s.tm,s.bk,s.c,if hc then TH else s.th,s.orc,s.df⟩ with
 | some (rs, s', q, pn) => if raceB (prOf ops) rs && preOk ops && (!hc || (s.bk.all (λp => Nat.blt p.1 TH) && rs.all (λr => Nat.ble r.c1 TH && r.wr.all (λp => Nat.blt p.1 TH)) && s'.bk.all (λp => Nat.blt p.1 s'.c))) then
   (match panRec rs with
   | none=>some (⟨s'.tm,s'.bk,s'.c,if hc then s'.c else s.th,s'.orc,s.df⟩,q,none)
   | some (p,pw,bR)=>if !hc || (stB rs s.bk pw bR).all (λp=>Nat.blt p.1 s'.c) then some (⟨stT rs s.tm,stB rs s.bk pw bR,s'.c,if hc then s'.c else s.th,s'.orc,s.df⟩,q,some p) else none) else none
 | none=>none
inductive Ot where
 | norm
 | exit (id:Nat)
 | ret
 | pan (v:Value)
def Ot.ex:Ot->Exit
 | .norm=>.normal
 | .exit id=>.exit id
 | .ret=>.ret
 | .pan v=>.panic [{v:=v,recovered:=false}]
def otP:Option Value->Ot
 | none=>.norm
 | some v=>.pan v
theorem Zx0 (p:Option Value):(otP p).ex=exP p:=by cases p<;>rfl
def setPs:List Tmp->List SA->List (Nat×SV)->List (Nat×SV)
 | p::ps,x::xs,tm=>setPs ps xs ((p,.a x)::tm)
 | _,_,tm=>tm
def hndS (n:Nat) (ps:Array Tmp) (tm:List (Nat×SV)) (A B:Stt->Option (Ot×Stt×List Prop)):YS:=λargs bk c th orc=>
 if Nat.beq args.length ps.size&&ps.toList.all (λp=>Nat.blt p n) then
  match A ⟨setPs ps.toList args tm,bk,c,th,orc,[]⟩ with
  | some (.norm, s1, p) => (match B s1 with
    | some (.norm, s2, q) => (match s2.df with
      | []=>some ⟨.a (.one (.val (.bool true))),s2.bk.take (s2.bk.length-bk.length),p++q,s2.orc,s2.c,s2.th,none⟩
      | _::_=>none)
    | _=>none)
  | _=>none
 else none
def evC (P:Program) (cs:CallS) (ys:YEnv) (n:Nat):Nat->Bool->Code->Stt->Option (Ot×Stt×List Prop)
 | 0,_,_,_=>none
 | _+1,_,.skip,s=>some (.norm,s,[])
 | _+1,_,.label _,s=>some (.norm,s,[])
 | _ + 1, rd, .region _ ops draw, s => match (if draw then drawS P cs ys ops n s else seqS P cs ys rd ops n ops.toList s) with
   | some (s',q,p)=>some (otP p,s',q)
   | none=>none
 | f + 1, rd, .seq x y, s => match evC P cs ys n f rd x s with
   | some (.norm, s1, p) => (match evC P cs ys n f rd y s1 with
     | some (o,s2,q)=>some (o,s2,p++q)
     | none=>none)
   | some (.exit id,s1,p)=>some (.exit id,s1,p)
   | some (.ret,s1,p)=>some (.ret,s1,p)
   | some (.pan v,s1,p)=>some (.pan v,s1,p)
   | none=>none
 | f + 1, rd, .cond c t e, s => match getS s.tm c with
   | some (.a (.one (.val (.bool b))))=>evC P cs ys n f rd (if b then t else e) s
   | _=>none
 | f + 1, rd, .block id x, s => match evC P cs ys n f rd x s with
   | some (.exit j,s',q)=>some (if Nat.beq j id then .norm else .exit j,s',q)
   | some (.norm,s',q)=>some (.norm,s',q)
   | some (.ret,s',q)=>some (.ret,s',q)
   | some (.pan v,s',q)=>some (.pan v,s',q)
   | none=>none
 | f+1,rd,.scope x,s=>evC P cs ys n f rd x s
 | f + 1, rd, .loop x, s => match evC P cs ys n f rd x s with
   | some (.norm, s1, p) => (match evC P cs ys n f rd (.loop x) s1 with
     | some (o,s2,q)=>some (o,s2,p++q)
     | none=>none)
   | some (.exit id,s1,p)=>some (.exit id,s1,p)
   | some (.ret,s1,p)=>some (.ret,s1,p)
   | some (.pan v,s1,p)=>some (.pan v,s1,p)
   | none=>none
 | _+1,_,.exit id,s=>some (.exit id,s,[])
 | _+1,_,.ret,s=>some (.ret,s,[])
 | f + 1, false, .rangeFunc g ps assign body, s => match rngOf (getS s.tm g) with
   | some (gf, fs, caps) => if entersB P gf && s.bk.all (λp => Nat.blt p.1 s.c) then
     (match cs.call ((s.c,hndS n ps s.tm (evC P cs ys n f true assign) (evC P cs ys n f true body))::ys) gf (fs++(.one (.yld s.c)::capsA caps)) s.bk (s.c+2) (tmin s.th (s.c+2)) s.orc with
     | some r => (match r.pan with
       | none=>some (.norm,⟨s.tm,r.wr++s.bk,r.c,r.th,r.orc,.col (s.c+1)::s.df⟩,r.obl)
       | some p=>some (.pan p,⟨s.tm,r.wr,r.c,r.th,r.orc,.col (s.c+1)::s.df⟩,r.obl))
     | none=>none) else none
   | _=>none
 | _,_,_,_=>none
end
end Go.Ex
