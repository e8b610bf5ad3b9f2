/- Contracts of package matrix,and a verified evaluator. Part 15 of 28. No condition beside the row. -/
import Derived.Outline
import Derived.Test.YtdocaccajammkaaGreatDoorA02
import Derived.Test.YtdocaccajammkaaGreatDoorA13
set_option linter.unusedVariables false
set_option linter.unusedSimpArgs false
set_option maxRecDepth 100000
set_option maxHeartbeats 4000000
namespace Go.Proofs.W
open Go.RowKit Go.Mono
theorem Zpd (kind curv conic curvx conicx a0 a1 a2 a3 p0 p1 order thick semi hole dx dy ax ay az:Int) (glass:ByteArray) (A:Array Value)
  (e0:A[0]? = some (.int .i64 kind))
  (e1:A[1]? = some (.int .i64 curv))
  (e2:A[2]? = some (.int .i64 conic))
  (e3:A[3]? = some (.int .i64 curvx))
  (e4:A[4]? = some (.int .i64 conicx))
  (e5:A[5]? = some (.int .i64 a0))
  (e6:A[6]? = some (.int .i64 a1))
  (e7:A[7]? = some (.int .i64 a2))
  (e8:A[8]? = some (.int .i64 a3))
  (e9:A[9]? = some (.int .i64 p0))
  (e10:A[10]? = some (.int .i64 p1))
  (e11:A[11]? = some (.int .i64 order))
  (e12:A[12]? = some (.int .i64 thick))
  (e13:A[13]? = some (.string glass))
  (e14:A[14]? = some (.int .i64 semi))
  (e15:A[15]? = some (.int .i64 hole))
  (e16:A[16]? = some (.int .i64 dx))
  (e17:A[17]? = some (.int .i64 dy))
  (e18:A[18]? = some (.int .i64 ax))
  (e19:A[19]? = some (.int .i64 ay))
  (e20:A[20]? = some (.int .i64 az))
  (w:World):Calls Tryz.prog 312 #[.agg A] w λe w'=>e=.returned (.agg #[.int .i64 kind,.int .i64 curv,.int .i64 conic,.int .i64 curvx,.int .i64 conicx,.int .i64 order,.int .i64 thick,.int .i64 semi,.int .i64 hole,.int .i64 dx,.int .i64 dy,.int .i64 ax,.int .i64 ay,.int .i64 az,.int .i64 0,.int .i64 0,.int .i64 a0,.int .i64 a1,.int .i64 a2,.int .i64 a3,.int .i64 p0,.int .i64 p1,.string glass])∧Below w.heap.size w w':=by
 go_enter Tryz.func312,Tryz.ntmps312
 have hi:(Tryz.prog.info? 340).map (·.size)=some 23:=Zk;go_step
 go_step
 go_step
 go_step
 go_step
 go_step
 go_step
 go_step
 go_step
 refine Zb8 λW hB hsz b0 b1=>?_;have f0:W.cell? ⟨w.heap.size,0,none⟩=some (.int .i64 kind):=(b0.cell 0).trans e0;have f1:W.cell? ⟨w.heap.size,1,none⟩=some (.int .i64 curv):=(b0.cell 1).trans e1;have f2:W.cell? ⟨w.heap.size,2,none⟩=some (.int .i64 conic):=(b0.cell 2).trans e2;have f3:W.cell? ⟨w.heap.size,3,none⟩=some (.int .i64 curvx):=(b0.cell 3).trans e3;have f4:W.cell? ⟨w.heap.size,4,none⟩=some (.int .i64 conicx):=(b0.cell 4).trans e4;have f5:W.cell? ⟨w.heap.size,5,none⟩=some (.int .i64 a0):=(b0.cell 5).trans e5;have f6:W.cell? ⟨w.heap.size,6,none⟩=some (.int .i64 a1):=(b0.cell 6).trans e6;have f7:W.cell? ⟨w.heap.size,7,none⟩=some (.int .i64 a2):=(b0.cell 7).trans e7;have f8:W.cell? ⟨w.heap.size,8,none⟩=some (.int .i64 a3):=(b0.cell 8).trans e8;have f9:W.cell? ⟨w.heap.size,9,none⟩=some (.int .i64 p0):=(b0.cell 9).trans e9;have f10:W.cell? ⟨w.heap.size,10,none⟩=some (.int .i64 p1):=(b0.cell 10).trans e10;have f11:W.cell? ⟨w.heap.size,11,none⟩=some (.int .i64 order):=(b0.cell 11).trans e11;have f12:W.cell? ⟨w.heap.size,12,none⟩=some (.int .i64 thick):=(b0.cell 12).trans e12;have f13:W.cell? ⟨w.heap.size,13,none⟩=some (.string glass):=(b0.cell 13).trans e13;have f14:W.cell? ⟨w.heap.size,14,none⟩=some (.int .i64 semi):=(b0.cell 14).trans e14;have f15:W.cell? ⟨w.heap.size,15,none⟩=some (.int .i64 hole):=(b0.cell 15).trans e15;have f16:W.cell? ⟨w.heap.size,16,none⟩=some (.int .i64 dx):=(b0.cell 16).trans e16;have f17:W.cell? ⟨w.heap.size,17,none⟩=some (.int .i64 dy):=(b0.cell 17).trans e17;have f18:W.cell? ⟨w.heap.size,18,none⟩=some (.int .i64 ax):=(b0.cell 18).trans e18;have f19:W.cell? ⟨w.heap.size,19,none⟩=some (.int .i64 ay):=(b0.cell 19).trans e19;have f20:W.cell? ⟨w.heap.size,20,none⟩=some (.int .i64 az):=(b0.cell 20).trans e20;clear e0 e1 e2 e3 e4 e5 e6 e7 e8 e9 e10 e11 e12 e13 e14 e15 e16 e17 e18 e19 e20 b0;go_wp2_with first|(refine Zak rfl 338 _ rfl #[.int .i64 kind,.int .i64 curv,.int .i64 conic,.int .i64 curvx,.int .i64 conicx,.int .i64 order,.int .i64 thick,.int .i64 semi,.int .i64 hole,.int .i64 dx,.int .i64 dy,.int .i64 ax,.int .i64 ay,.int .i64 az,.int .i64 0,.int .i64 0] Zx ?_)|(refine Zak rfl 340 _ rfl #[.int .i64 kind,.int .i64 curv,.int .i64 conic,.int .i64 curvx,.int .i64 conicx,.int .i64 order,.int .i64 thick,.int .i64 semi,.int .i64 hole,.int .i64 dx,.int .i64 dy,.int .i64 ax,.int .i64 ay,.int .i64 az,.int .i64 0,.int .i64 0,.int .i64 a0,.int .i64 a1,.int .i64 a2,.int .i64 a3,.int .i64 p0,.int .i64 p1,.string glass] Zx ?_)|(refine Zab rfl 340 (.tmp 2) (.tmp 38) rfl (w.heap.size+1) 0 340 _ #[.int .i64 kind,.int .i64 curv,.int .i64 conic,.int .i64 curvx,.int .i64 conicx,.int .i64 order,.int .i64 thick,.int .i64 semi,.int .i64 hole,.int .i64 dx,.int .i64 dy,.int .i64 ax,.int .i64 ay,.int .i64 az,.int .i64 0,.int .i64 0,.int .i64 a0,.int .i64 a1,.int .i64 a2,.int .i64 a3,.int .i64 p0,.int .i64 p1,.string glass] #[.int .i64 kind,.int .i64 curv,.int .i64 conic,.int .i64 curvx,.int .i64 conicx,.int .i64 order,.int .i64 thick,.int .i64 semi,.int .i64 hole,.int .i64 dx,.int .i64 dy,.int .i64 ax,.int .i64 ay,.int .i64 az,.int .i64 0,.int .i64 0,.int .i64 a0,.int .i64 a1,.int .i64 a2,.int .i64 a3,.int .i64 p0,.int .i64 p1,.string glass] rfl rfl b1 hi (Yaa rfl) (by simp[Value.oneCell']) rfl ?_;intro W2 hk2 hb2)
 refine bodyPost_ret (hb2.results rfl _ _ rfl Tryz.underlying340 rfl hi) rfl ?_;exact⟨rfl,hk2.below hB Zo Zo⟩
end Go.Proofs.W
namespace Go.Ex
open Go.RowKit Go.Mono
section
inductive DF where
 | clo (f:FuncId) (caps:List (Nat×Nat))
 | col (k:Nat)
structure Stt where
 tm:List (Nat×SV)
 bk:List (Nat×Blk)
 c:Nat
 th:Nat
 orc:List (Option Bool)
 df:List DF
def DfOk (P:Program) (m:Nat) (ρ:Nm) (w:World):List DF->List Deferred->Prop
 | [],ds=>ds=[]
 | .clo f caps::r,ds=>∃(vs:List Value) (d:List Deferred),ds = {target:=.fn (.func f) vs.toArray,args:=#[]}::d∧adrs ρ caps vs∧entersB P f=true∧DfOk P m ρ w r d
 | .col k::r,ds=>∃(B:Pl) (d:List Deferred),ds = {target:=.collected B.blk,args:=#[]}::d∧ρ k=some B∧m<=B.blk∧(∀x∈d,∀b,x.target=.collected b->b<B.blk)∧w.heap[B.blk]? = some (Obj.deferred (some []))∧DfOk P m ρ w r d
theorem DfOk.step {P:Program} {m:Nat} {ρ ρ':Nm} {w w':World} (hr:ρ.le ρ') :
  ∀{df:List DF} {ds:List Deferred},(∀l:Nat,(∃x∈ds,x.target=.collected l)->w.heap[l]? = some (Obj.deferred (some []))->w'.heap[l]? = some (Obj.deferred (some [])))->DfOk P m ρ w df ds->DfOk P m ρ' w' df ds
 | [],ds,hl,h=>h
 | .clo f caps :: r, ds, hl, ⟨vs, d, h1, h2, h3, h4⟩ => by
   subst h1;exact⟨vs,d,rfl,h2.mono hr,h3,h4.step hr λl ⟨x,hx,e⟩=>hl l ⟨x,Ybs _ hx,e⟩⟩
 | .col k :: r, ds, hl, ⟨B, d, h1, h2, hm, hb, h3, h4⟩ => by
   subst h1;exact⟨B,d,rfl,hr k B h2,hm,hb,hl _ ⟨_,Ycl ..,rfl⟩ h3,h4.step hr λl ⟨x,hx,e⟩=>hl l ⟨x,Ybs _ hx,e⟩⟩
theorem DfOk.low {P:Program} {m N:Nat} {ρ:Nm} {w:World} (hN:∀k B,ρ k=some B->B.blk<N):∀{df:List DF} {ds:List Deferred},DfOk P m ρ w df ds->∀x∈ds,∀b,x.target=.collected b->b<N
 | [],ds,h,x,hx,b,e=>by rw[show ds=[] from h]at hx;cases hx
 | .clo f caps :: r, ds, ⟨vs, d, h1, h2, h3, h4⟩, x, hx, b, e => by
   rw[h1]at hx;rcases Ycp.1 hx with rfl|hx
   ·cases e
   ·exact h4.low hN x hx b e
 | .col k :: r, ds, ⟨B, d, h1, h2, hm, hb, h3, h4⟩, x, hx, b, e => by
   rw[h1]at hx;rcases Ycp.1 hx with rfl|hx
   ·cases e;exact hN k B h2
   ·exact h4.low hN x hx b e
theorem DfOk.evo {D:Den} {P:Program} {w0:World} {X:Nat->Prop} {th:Nat} {ρ ρ':Nm} {wc w wc' w':World} {bk bk':List (Nat×Blk)} {c c':Nat} {df:List DF} {ds:List Deferred} {m:Nat} (h:DfOk P m ρ w df ds)
  (hS:Sat D w0 X th ρ wc w bk) (e:Evo ρ wc w bk c c' ρ' wc' w' bk'):DfOk P m ρ' w' df ds:=
 h.step e.rho λl _ hl=>hS.stays e hl rfl
def deferOf (P:Program) (o:Oper) (get:Operand->Option SV):Option DF:=
 match o.op with
 | .defer c => match c.callee, c.args.toList with
   | .value fv, [] => match get fv with
     | some (.a (.one (.clo f caps)))=>if entersB P f then some (.clo f caps) else none
     | _=>none
   | _,_=>none
 | _=>none
def exP:Option Value->Exit
 | none=>.normal
 | some p=>.panic [{v:=p,recovered:=false}]
def seqS (P:Program) (cs:CallS) (ys:YEnv) (rd:Bool) (ops:Array Oper) (n:Nat):List Oper->Stt->Option (Stt×List Prop×Option Value)
 | [],s=>some (s,[],none)
 | o :: rest, s => match wantS ops o s.tm s.orc with
   | some (true, ps, orc) => if dstOk n o.dst then (match deferOf P o (getS s.tm) with
     | some d => if rd then none else (match seqS P cs ys rd ops n rest ⟨putT s.tm o.dst (.tup []), s.bk, s.c, s.th, orc, d :: s.df⟩ with
       | some (s',q,p)=>some (s',ps++q,p)
       | none=>none)
     | none => (match opS P cs ys o (getS s.tm) s.bk s.th s.c orc with
       | some (r, _) => (match r.pan with
         | some p=>some (⟨s.tm,r.wr,r.c,r.th,r.orc,s.df⟩,ps++r.obl,some p)
         | none => (match seqS P cs ys rd ops n rest ⟨putT s.tm o.dst r.v, r.wr ++ s.bk, r.c, r.th, r.orc, s.df⟩ with
           | some (s',q,p)=>some (s',ps++(r.obl++q),p)
           | none=>none))
       | none=>none)) else none
   | some (false, ps, orc) => if dstOk n o.dst then (match seqS P cs ys rd ops n rest ⟨putT s.tm o.dst (.tup []), s.bk, s.c, s.th, orc, s.df⟩ with
     | some (s',q,p)=>some (s',ps++q,p)
     | none=>none) else none
   | none=>none
def Goes (D:Den) (P:Program) (w0:World) (X:Nat->Prop) (mm n:Nat) (ρ:Nm) (wc w:World) (s s':Stt) (Q:Act->World->Prop):Prop:=
 ∀ρ' wc' w' a',Sat D w0 X s'.th ρ' wc' w' s'.bk->TSat D ρ' wc' n s'.tm a'->DfOk P mm ρ' w' s'.df a'.defers->Evo ρ wc w s.bk s.c s'.c ρ' wc' w' s'.bk->Q a' w'
section
variable {D:Den} {P:Program} {w0:World} {X:Nat->Prop} {cs:CallS} {ys:YEnv}
theorem Zgx {rd:Bool} {ops:Array Oper} {n:Nat}:∀{l:List Oper} {s s':Stt} {q:List Prop} {p:Option Value},seqS P cs ys rd ops n l s=some (s',q,p)->s.c<=s'.c
 | [],s,s',q,p,h=>by cases h;exact Yab _
 | o :: rest, s, s', q, p, h => by
   unfold seqS at h;split at h
   ·split at h
    ·split at h
     ·split at h
      ·cases h
      ·split at h
       ·rename_i s2 q2 p2 h2
        cases h;have k:=Zgx h2;exact k
       ·cases h
     ·split at h
      ·rename_i r cl hr
       split at h
       ·cases h
        exact Zkq hr
       ·split at h
        ·rename_i s2 q2 p2 h2
         cases h;exact Yak (Zkq hr) (Zgx h2)
        ·cases h
      ·cases h
    ·cases h
   ·split at h
    ·split at h
     ·rename_i s2 q2 p2 h2
      cases h;have k:=Zgx h2;exact k
     ·cases h
    ·cases h
   ·cases h
theorem Zgy {ρ:Nm} {w:World}:denV D ρ w (.tup []) undef:=⟨[],rfl,rfl⟩
theorem Zja (hcs : CallOk D P w0 X cs) {bd mm : Nat} {rd : Bool} {ro : Option Nat} (hrd : rd = false -> ro = none) {m : Nat} {ops : Array Oper} {n : Nat} {Q : Exit -> Act -> World -> Prop} : ∀ {l : List Oper} {s s' : Stt} {q : List Prop} {pn : Option Value} {ρ : Nm} {wc w : World} {a : Act},
  seqS P cs ys rd ops n l s=some (s',q,pn)->(∀p∈q,p)->
  Sat D w0 X s.th ρ wc w s.bk->YOk D P w0 X bd ys ρ wc w->TSat D ρ wc n s.tm a->DfOk P mm ρ w s.df a.defers->(∀k,s.c<=k->k<s'.c->ρ k=none)->
  Goes D P w0 X mm n ρ wc w s s' (Q (exP pn))->wpListIn (WF ro) m P ops Q l a w
 | [], s, s', q, pn, ρ, wc, w, a, h, hq, hS, hY, hT, hD, hn, hK => by
   cases h;exact hK ρ wc w a hS hT hD (Evo.refl _ _ _ _ _)
 | o :: rest, s, s', q, pn, ρ, wc, w, a, h, hq, hS, hY, hT, hD, hn, hK => by
   unfold seqS at h;unfold wpListIn;split at h
   ·rename_i ps orc hw
    split at h
    ·rename_i hd
     split at h
     ·rename_i df hdf
      split at h
      ·cases h
      ·rename_i hrd'
       have hro:ro=none:=hrd (by simpa using hrd');subst hro;split at h
       ·rename_i s2 q2 p2 h2
        cases h;rw[if_pos (Zet hT hw λp hp=>hq p (by simp[hp]))];refine⟨λ_ _=>trivial,?_⟩;unfold deferOf at hdf;split at hdf
        ·rename_i cc ho
         split at hdf
         ·rename_i fv hcal hargs
          split at hdf
          ·rename_i f caps hfv
           split at hdf
           ·rename_i hen
            cases hdf;obtain⟨vs,hvs,e1⟩:=hT.get hfv;have e2:a.eval fv=.func (.func f) #[] vs.toArray:=by simpa using e1
            have hx:(o.semAt none a.eval).run P w=.ok (.defer {target:=.fn (.func f) vs.toArray,args:=#[]}) w:=by
             rw[Oper.semAt_none];unfold execOp;have ha:cc.args = #[]:=by apply Yee.1;rw[hargs]
             simp only[ho,resolve,hcal,Deferred.ofValue,e2,ha,Yar,Yau,Yag];simp
            show Oper.uponIn _ _ _ _ _ _ _ ((o.semAt (WF none).round a.eval).run P w);rw[show(WF none).round=none from rfl,hx,Oper.uponIn_defer];refine Zja (mm:=mm) hcs hrd h2 (λp hp=>hq p (by simp[hp])) hS hY (TSat.put (a:={a with defers:=_::a.defers}) ⟨hT.size,hT.at_⟩ hd Zgy) ?_ hn ?_
            ·have e3:(({a with defers:={target:=.fn (.func f) vs.toArray,args:=#[]}::a.defers}:Act).put o.dst undef).defers = {target:=.fn (.func f) vs.toArray,args:=#[]}::a.defers:=by
              cases o.dst<;>rfl
             rw[e3];exact⟨vs,a.defers,rfl,hvs,hen,hD⟩
            ·intro ρ2 wc2 w2 a2 k1 k2 k3 k4
             exact hK ρ2 wc2 w2 a2 k1 k2 k3 k4
           ·cases hdf
          ·cases hdf
         ·cases hdf
        ·cases hdf
       ·cases h
     ·split at h
      ·rename_i r cl hr
       have hrc:=Zkq hr;split at h
       ·rename_i p hp
        cases h;rw[if_pos (Zet hT hw λp hp=>hq p (by simp[hp]))];refine Znx (G:=r.fin s.bk) (th':=r.th) hcs hY hS (λk b hk=>hk) (λx z hz=>hT.get hz) hr (λp hp=>hq p (by simp[hp])) hn (λ_ _ _ _ _ h1 h2=>⟨h1,h2⟩) (λ_ ht=>⟨ht,?_⟩) (λhnn=>?_) ?_
        ·refine .inr ⟨by rw[hp];simp,λhw=>?_⟩
         unfold OpR.fin;rw[hp];dsimp only;rw[hw];exact λk b hk=>hk
        ·rw[hp]at hnn;cases hnn
        ·intro p' hp' ρ' wc' w' k1 k2
         rw[hp]at hp';cases hp';have ef:r.fin s.bk=r.wr:=by unfold OpR.fin;rw[hp]
         rw[ef]at k1 k2;exact hK ρ' wc' w' a k1 (hT.mono k2.rho k2.ext) (hD.evo hS k2) k2
       ·rename_i hp
        split at h
        ·rename_i s2 q2 p2 h2
         cases h;have hcc:=Zgx h2;have ef:r.fin s.bk=r.wr++s.bk:=by unfold OpR.fin;rw[hp]
         rw[if_pos (Zet hT hw λp hp=>hq p (by simp[hp]))];refine Znx (G:=r.fin s.bk) (th':=r.th) hcs hY hS (λk b hk=>hk) (λx z hz=>hT.get hz) hr (λp hp=>hq p (by simp[hp])) (λk h1 h2=>hn k h1 (by dsimp only at hcc;omega)) (λ_ _ _ _ _ h1 h2=>⟨h1,h2⟩) (λ_ ht=>⟨ht,.inl ⟨hp,ef⟩⟩) ?_ (λp' hp'=>?_)
         ·intro _ ρ' wc' w' v hv hS' hE
          rw[ef]at hS' hE;refine Zja (mm:=mm) hcs hrd h2 (λp hp=>hq p (by simp[hp])) hS' (hY.evo hS hE) ((hT.mono hE.rho hE.ext).put hd hv) ?_ (λk h1 h2=>?_) ?_
          ·have e3:(a.put o.dst v).defers=a.defers:=by cases o.dst<;>rfl
           rw[e3];exact hD.evo hS hE
          ·dsimp only at h1
           rw[hE.dom k (.inr h1)];exact hn k Zo h2
          ·intro ρ2 wc2 w2 a2 k1 k2 k3 k4
           exact hK ρ2 wc2 w2 a2 k1 k2 k3 (hE.trans k4 hS.named)
         ·rw[hp]at hp';cases hp'
        ·cases h
      ·cases h
    ·cases h
   ·rename_i ps orc hw
    split at h
    ·rename_i hd
     split at h
     ·rename_i s2 q2 p2 h2
      cases h;rw[if_neg (by rw[Zet hT hw λp hp=>hq p (by simp[hp])];simp)];refine⟨λ_ _=>trivial,?_⟩;refine Zja (mm:=mm) hcs hrd h2 (λp hp=>hq p (by simp[hp])) hS hY (hT.put hd Zgy) ?_ hn ?_
      ·have e3:(a.put o.dst undef).defers=a.defers:=by cases o.dst<;>rfl
       rw[e3];exact hD
      ·intro ρ2 wc2 w2 a2 k1 k2 k3 k4
       exact hK ρ2 wc2 w2 a2 k1 k2 k3 k4
     ·cases h
    ·cases h
   ·cases h
end
/-! ### any order: lists of what was written,by those that came up -/
def accAt {α:Type} (ws:List (List (Nat×α))) (L:Nat->Bool) (l0:List (Nat×α)):Nat->List (Nat×α)
 | 0=>l0
 | m+1=>(if L m then ws.getD m [] else[])++accAt ws L l0 m
section
variable {α:Type} {ws:List (List (Nat×α))} {l0:List (Nat×α)}
abbrev wrote (ws:List (List (Nat×α))) (j k:Nat):Prop:=((ws.getD j []).look k).isSome=true
theorem Zij (x:List (Nat×α)) (L:Nat->Bool):∀m,accAt (x::ws) L l0 (m+1)=accAt ws (λj=>L (j+1)) ((if L 0 then x else[])++l0) m
 | 0=>rfl
 | m + 1 => by
   have ih:=Zij x L m;show(if L (m+1) then(x::ws).getD (m+1) [] else[])++accAt (x::ws) L l0 (m+1)=_;rw[ih];rfl
theorem Zb2 (L:Nat->Bool) (m k:Nat):(accAt ws L l0 (m+1)).look k=if L m=true∧wrote ws m k then(ws.getD m []).look k else(accAt ws L l0 m).look k:=by
 show((if L m then ws.getD m [] else[])++accAt ws L l0 m).look k=_;rw[Zbb];unfold wrote;cases hL:L m with
 | false=>simp
 | true =>
   rw[if_pos rfl];generalize ws.getD m []=x;cases hw:x.look k with
   | none=>rw[if_neg Zs];rfl
   | some b=>rw[if_pos ⟨rfl,rfl⟩];rfl
theorem Zny {L:Nat->Bool} {i k:Nat} (hi:L i=false) (hlo:∀j,j<i->wrote ws j k->L j=true) (hhi:∀j,i<j->wrote ws j k->L j=false) :
  ∀N,i<=N->(accAt ws L l0 N).look k=(accAt ws (λ_=>true) l0 i).look k:=by
 have lo:∀m,m<=i->(accAt ws L l0 m).look k=(accAt ws (λ_=>true) l0 m).look k:=by
  intro m;induction m with
  | zero=>intro _;rfl
  | succ m ih =>
    intro hm;rw[Zb2,Zb2,ih Zo];by_cases hw:wrote ws m k
    ·rw[if_pos ⟨hlo m Zo hw,hw⟩,if_pos ⟨rfl,hw⟩]
    ·rw[if_neg (λh=>hw h.2),if_neg (λh=>hw h.2)]
 intro N;induction N with
 | zero => intro hN; obtain rfl : i = 0 := by omega
           exact lo 0 Zo
 | succ N ih =>
   intro hN;by_cases he:i=N+1
   ·subst he;exact lo _ (Yab _)
   ·rw[Zb2,if_neg,ih Zo]
    rintro⟨h1,h2⟩;by_cases h3:i=N
    ·subst h3;rw[hi]at h1;cases h1
    ·rw[hhi N Zo h2]at h1;cases h1
theorem Zq5 {L:Nat->Bool} {i k:Nat} (hi:L i=false) (hhi:∀j,i<j->wrote ws i k->wrote ws j k->L j=false) :
  ∀N,i<N->(accAt ws (λj=>j==i || L j) l0 N).look k=((ws.getD i []).look k).or ((accAt ws L l0 N).look k):=by
 have lo:∀m,m<=i->(accAt ws (λj=>j==i || L j) l0 m).look k=(accAt ws L l0 m).look k:=by
  intro m;induction m with
  | zero=>intro _;rfl
  | succ m ih =>
    intro hm;have e:(m==i)=false:=by simp;omega
    rw[Zb2,Zb2,ih Zo];simp only[e,Yeo]
 intro N;induction N with
 | zero=>intro h;omega
 | succ N ih =>
   intro hN;by_cases he:i=N
   ·subst he
    rw[Zb2,Zb2,lo i (Yab _),if_neg (show ¬(L i=true∧wrote ws i k) from λh=>by rw[hi]at h;cases h.1)];by_cases hw:wrote ws i k
    ·rw[if_pos ⟨Zs,hw⟩]
     obtain⟨b,hb⟩:=Yct.1 hw;rw[hb];rfl
    ·rw[if_neg (λh=>hw h.2)]
     have:(ws.getD i []).look k=none:=by
      unfold wrote at hw;cases h:(ws.getD i []).look k with
      | none=>rfl
      | some b=>rw[h]at hw;simp at hw
     rw[this];rfl
   ·have e:(N==i)=false:=by simp;omega
    rw[Zb2,Zb2,ih Zo];simp only[e,Yeo];by_cases hw:L N=true∧wrote ws N k
    ·rw[if_pos hw,if_pos hw]
     have:(ws.getD i []).look k=none:=by
      cases h:(ws.getD i []).look k with
      | none=>rfl
      | some b =>
        have:=hhi N Zo (by unfold wrote;rw[h];rfl) hw.2;rw[this]at hw;cases hw.1
     rw[this,Ydd]
    ·rw[if_neg hw,if_neg hw]
end
end
end Go.Ex
namespace Go.Proofs.W
open Go.RowKit Go.Mono
theorem Zug (s:Srf) (p:Option Addr) (c:Nat) (w:World) (h1:s.kind=1) (h2:s.glass = {data:=#[]}) (h3:s.thick=0) (h4:s.order=0) (h5:s.co=[]) :
  Calls Tryz.prog 282 #[.agg (s.cs p c)] w λe w'=>e=.returned (.bool true)∧Below w.heap.size w w':=by
 simp only[Srf.cs,h1,h2,h3,h4,h5,Ydf];go_enter Tryz.func282,Tryz.ntmps282
 go_wp2
 go_ret
 exact⟨rfl,Zad (Yae _ _) _⟩
theorem Zjf (w:World) :
  Calls Tryz.prog 284 #[.slice none 0 0] w λe w'=>e=.returned (.bool true)∧Below w.heap.size w w':=by
 have hmm:∀w:World,(Instr.makeMap 337 none).run Tryz.prog w=.ok (.map (some w.heap.size)) (w.alloc (.map #[] 0)):=λ_=>rfl;go_enter Tryz.func284,Tryz.ntmps284
 go_wp2
 go_loopw [9] (λa wr=>a=.int .i64 0∧Below w.heap.size w wr) (λ_ _=>0)
 case atStart=>exact⟨rfl,Zad (Yae _ _) _⟩
 case round=>
  obtain⟨rfl,hB⟩:=hrel;go_wp2
  go_ret
  exact⟨rfl,hB⟩
theorem Zo9 (B:Nat) (nm:ByteArray) (di pu st pr:Int) (pf pw' ps pc:Option Addr) (nf cf n cw ns cs cc:Nat) (w:World)
  (b0:Box w B 285 #[.string nm,.int .i64 di,.int .i64 pu,.int .i64 st,.int .i64 pr,.slice pf nf cf,.slice pw' n cw,.slice ps ns cs,.slice pc 0 cc]) :
  Calls Tryz.prog 262 #[.pointer (some ⟨B,0,none⟩)] w λe w'=>e=.returned (.bool true)∧Below w.heap.size w w':=by
 have cb0:=b0.cell;go_enter Tryz.func262,Tryz.ntmps262
 go_wp2
 go_loopw [3,14] (λl a wr=>l=.slice none 0 0∧a=.int .i64 0∧wr=w) (λ_ _ _=>0)
 case atStart=>exact⟨rfl,rfl,rfl⟩
 case round=>
  obtain⟨rfl,rfl,rfl⟩:=hrel;go_wp2_with (go_at_call 284;refine(Zjf _).mono ?_;rintro e w' ⟨rfl,hb⟩)
  go_ret
  exact⟨rfl,hb⟩
end Go.Proofs.W
namespace Go.Ex
open Go.RowKit Go.Mono
inductive Kd where
 | go
 | pan (p:Value) (pw:List (Nat×Blk))
 | never
structure Rec where
 dst:Option Tmp
 v:SV
 wr:List (Nat×Blk)
 tR:List Nat
 bR:List Nat
 c0:Nat
 c1:Nat
 kd:Kd
def idsU0:U->List Nat
 | .ptr k _=>[k]
 | .slc k _ _ _=>[k]
 | .sli k _ _=>[k]
 | .slx k _ _ _=>[k]
 | .own k _ _=>[k]
 | .clo _ caps=>caps.map (·.1)
 | _=>[]
def idsU:U->List Nat
 | .bnd _ _ l=>l.flatMap idsU0
 | .ptr k _=>[k]
 | .slc k _ _ _=>[k]
 | .sli k _ _=>[k]
 | .slx k _ _ _=>[k]
 | .own k _ _=>[k]
 | .clo _ caps=>caps.map (·.1)
 | _=>[]
def idsA (x:SA):List Nat:=(unitsA x).flatMap idsU
def idsV (x:Option SV):List Nat:=
 match x with
 | some (.a s)=>idsA s
 | _=>[]
def mem (l:List Nat) (k:Nat):Bool:=l.any (Nat.beq k)
theorem mem_iff {l:List Nat} {k:Nat}:mem l k=true↔k∈l:=by
 unfold mem;rw[Yft];constructor
 ·rintro⟨x,hx,he⟩
  rw[Ybe he];exact hx
 ·intro h
  exact⟨k,h,Zs⟩
def reach (bk:List (Nat×Blk)):Nat->List Nat->List Nat->List Nat
 | 0,_,seen=>seen
 | _+1,[],seen=>seen
 | n + 1, k :: r, seen => if mem seen k then reach bk n r seen else
   match bk.look k with
   | some b=>reach bk n (b.cells.flatMap idsU++r) (k::seen)
   | none=>reach bk n r seen
def blocksOf (P:Program) (ys:YEnv) (o:Oper) (get:Operand->Option SV) (bk:List (Nat×Blk)):List Nat:=
 match o.op with
 | .load _ x => match get x with
   | some (.a (.one (.ptr k _)))=>[k]
   | _=>[]
 | .store _ x _ => match get x with
   | some (.a (.one (.ptr k _)))=>[k]
   | _=>[]
 | .call c => match callOf P o get with
   | some (_,args)=>if ys.isEmpty then reach bk 1000 (args.flatMap idsA) [] else bk.map (·.1)
   | none => match yldOf o get with
     | some _=>bk.map (·.1)
     | none=>c.args.toList.flatMap λx=>idsV (get x)
 | _=>[]
def tmpsOf (ops:Array Oper) (o:Oper):List Nat:=
 (o.op.operands.toList.filterMap λ| .tmp t=>some t|_=>none)++(match o.guard with
  | some (j,_)=>((ops[j]?).bind (·.dst)).toList
  | none=>[])
def predsOf (o:Oper):List Nat:=(o.after.toList.filter (Region.binds .any)).map (·.on)
def wT (r:Rec):List (Nat×SV):=
 match r.dst with
 | some d=>[(d,r.v)]
 | none=>[]
def some_ {α:Type} (ks:List Nat) (l:List (Nat×α)):List (Nat×α):=l.filter λp=>mem ks p.1
theorem Zdi {α:Type} (ks:List Nat) (k:Nat):∀l:List (Nat×α),(some_ ks l).look k=if mem ks k then l.look k else none
 | []=>by simp[some_]
 | (k', x) :: r => by
   have ih:=Zdi ks k r;unfold some_ at ih ⊢;rw[List.filter_cons];dsimp only;by_cases h:mem ks k'
   ·rw[if_pos h,Zav,Zav,ih]
    by_cases e:k=k'
    ·subst e;rw[if_pos rfl,if_pos rfl,if_pos h]
    ·rw[if_neg e,if_neg e]
   ·rw[if_neg h,ih,Zav]
    by_cases e:k=k'
    ·subst e;rw[if_neg h,if_neg h]
    ·rw[if_neg e]
def recS (P:Program) (cs:CallS) (ys:YEnv) (ops:Array Oper) (n:Nat):List Oper->Nat->List Nat->Stt->Option (List Rec×Stt×List Prop×Option Value)
 | [],_,_,s=>some ([],s,[],none)
 | o :: rest, i, dead, s =>
   if(predsOf o).any (mem dead) then(match recS P cs ys ops n rest (i+1) (i::dead) s with
    | some (rs,s',q,p)=>some (⟨none,.no,[],[],[],s.c,s.c,.never⟩::rs,s',q,p)
    | none=>none)
   else
   let tR:=tmpsOf ops o
   let tmr:=some_ tR s.tm
   let bR:=blocksOf P ys o (getS tmr) s.bk
   match wantS ops o tmr s.orc with
   | some (true, ps, orc) => if dstOk n o.dst then (match opS P cs ys o (getS tmr) (some_ bR s.bk) s.th s.c orc with
     | some (r, _) => (match r.pan with
       | some p => (match dead with
         | [] => (match recS P cs ys ops n rest (i + 1) [i] ⟨s.tm, s.bk, r.c, s.th, r.orc, s.df⟩ with
           | some (rs,s',q,none)=>some (⟨none,.no,[],tR,bR,s.c,r.c,.pan p r.wr⟩::rs,s',ps++(r.obl++q),some p)
           | _=>none)
         | _::_=>none)
       | none => (match recS P cs ys ops n rest (i + 1) dead ⟨putT s.tm o.dst r.v, r.wr ++ s.bk, r.c, s.th, r.orc, s.df⟩ with
         | some (rs,s',q,p)=>some (⟨o.dst,r.v,r.wr,tR,bR,s.c,r.c,.go⟩::rs,s',ps++(r.obl++q),p)
         | none=>none))
     | none=>none) else none
   | some (false, ps, orc) => if dstOk n o.dst then (match recS P cs ys ops n rest (i + 1) dead ⟨putT s.tm o.dst (.tup []), s.bk, s.c, s.th, orc, s.df⟩ with
     | some (rs,s',q,p)=>some (⟨o.dst,.tup [],[],tR,[],s.c,s.c,.go⟩::rs,s',ps++q,p)
     | none=>none) else none
   | none=>none
def StepR (P:Program) (cs:CallS) (ys:YEnv) (ops:Array Oper) (n th:Nat) (obl:List Prop) (tm:List (Nat×SV)) (bk:List (Nat×Blk)) (o:Oper) (r:Rec):Prop:=
 dstOk n o.dst=true∧∃orc orc' ps b,wantS ops o (some_ r.tR tm) orc=some (b,ps,orc')∧(∀p∈ps,p∈obl)∧
  ((r.kd=.go∧r.dst=o.dst∧b=true∧∃(x:OpR) (cl:Bool),opS P cs ys o (getS (some_ r.tR tm)) (some_ r.bR bk) th r.c0 orc'=some (x,cl)∧x.pan=none∧x.v=r.v∧x.wr=r.wr∧x.c=r.c1∧∀p∈x.obl,p∈obl)∨
   (r.kd=.go∧r.dst=o.dst∧b=false∧r.v=.tup []∧r.wr=[]∧r.c1=r.c0)∨
   (∃pv pw,r.kd=.pan pv pw∧r.dst=none∧r.wr=[]∧b=true∧∃(x:OpR) (cl:Bool),opS P cs ys o (getS (some_ r.tR tm)) (some_ r.bR bk) th r.c0 orc'=some (x,cl)∧x.pan=some pv∧x.wr=pw∧x.c=r.c1∧∀p∈x.obl,p∈obl))
theorem StepR.more {P:Program} {cs:CallS} {ys:YEnv} {ops:Array Oper} {n th:Nat} {obl obl':List Prop} {tm:List (Nat×SV)} {bk:List (Nat×Blk)} {o:Oper} {r:Rec} (h:StepR P cs ys ops n th obl tm bk o r) (hs:∀p∈obl,p∈obl') :
  StepR P cs ys ops n th obl' tm bk o r:=by
 obtain⟨h1,orc,orc',ps,b,h3,h4,h5⟩:=h;refine⟨h1,orc,orc',ps,b,h3,λp hp=>hs p (h4 p hp),?_⟩;rcases h5 with ⟨e,e2,e3,x,cl,k1,k2,k3,k4,k5,k6⟩|h5|⟨pv,pw,e,e2,e3,e4,x,cl,k1,k2,k3,k4,k6⟩
 ·exact .inl ⟨e,e2,e3,x,cl,k1,k2,k3,k4,k5,λp hp=>hs p (k6 p hp)⟩
 ·exact .inr (.inl h5)
 ·exact .inr (.inr ⟨pv,pw,e,e2,e3,e4,x,cl,k1,k2,k3,k4,λp hp=>hs p (k6 p hp)⟩)
def panRec:List Rec->Option (Value×List (Nat×Blk)×List Nat)
 | []=>none
 | r :: l => match r.kd with
   | .pan p pw=>some (p,pw,r.bR)
   | _=>panRec l
theorem Zme (tm:List (Nat×SV)) (r:Rec):putT tm r.dst r.v=wT r++tm:=by
 unfold putT wT;cases r.dst<;>rfl
def tt:Nat->Bool:=λ_=>true
theorem Zd3 {α:Type} (x:List (Nat×α)) (ws:List (List (Nat×α))) (l0:List (Nat×α)) (m:Nat):accAt (x::ws) tt l0 (m+1)=accAt ws tt (x++l0) m:=Zij x tt m
structure RecOk (P:Program) (cs:CallS) (ys:YEnv) (ops:Array Oper) (n:Nat) (l:List Oper) (i0:Nat) (dead:List Nat) (s:Stt) (rs:List Rec) (s':Stt) (q:List Prop) (pn:Option Value):Prop where
 len:rs.length=l.length
 tm:s'.tm=accAt (rs.map wT) tt s.tm l.length
 bk:s'.bk=accAt (rs.map (·.wr)) tt s.bk l.length
 df:s'.df=s.df
 step:∀(i:Nat) (r:Rec),rs[i]? = some r->r.kd≠.never->∃o,l[i]? = some o∧StepR P cs ys ops n s.th q (accAt (rs.map wT) tt s.tm i) (accAt (rs.map (·.wr)) tt s.bk i) o r
 nev:∀(i:Nat) (r:Rec),rs[i]? = some r->r.kd=.never->r.dst=none∧r.wr=[]∧∃o p,l[i]? = some o∧p∈predsOf o∧(p∈dead∨∃j rj,p=i0+j∧rs[j]? = some rj∧rj.kd≠.go)
 rng:∀(i:Nat) (r:Rec),rs[i]? = some r->s.c<=r.c0∧r.c0<=r.c1∧r.c1<=s'.c
 ord:∀(i j:Nat) (ri rj:Rec),i<j->rs[i]? = some ri->rs[j]? = some rj->ri.c1<=rj.c0
 cc:s.c<=s'.c
 pn1:∀v,pn=some v->∃pw bR,panRec rs=some (v,pw,bR)
 pn0:pn=none->panRec rs=none
 uniq:∀(i:Nat) (r:Rec) p pw,rs[i]? = some r->r.kd=.pan p pw->panRec rs=some (p,pw,r.bR)
theorem Zfi {P:Program} {cs:CallS} {ys:YEnv} {ops:Array Oper} {n:Nat}:∀{l:List Oper} {i0:Nat} {dead:List Nat} {s s':Stt} {rs:List Rec} {q:List Prop} {pn:Option Value},recS P cs ys ops n l i0 dead s=some (rs,s',q,pn)->RecOk P cs ys ops n l i0 dead s rs s' q pn
 | [], i0, dead, s, s', rs, q, pn, h => by
   cases h;exact⟨rfl,rfl,rfl,rfl,(λi r hr=>by simp at hr),(λi r hr=>by simp at hr),(λi r hr=>by simp at hr),(λi j ri rj _ hr=>by simp at hr),Yab _,(λv hv=>by cases hv),λ_=>rfl,λi r p pw hr=>by simp at hr⟩
 | o :: rest, i0, dead, s, s', rs, q, pn, h => by
   have cons:∀(r:Rec) (rs2:List Rec) (q2 q:List Prop) (s1:Stt) (dead2:List Nat) (pn2 pn:Option Value),RecOk P cs ys ops n rest (i0+1) dead2 s1 rs2 s' q2 pn2->s1.tm=putT s.tm r.dst r.v->s1.bk=r.wr++s.bk->s1.df=s.df->s1.c=r.c1->s1.th=s.th->r.c0=s.c->r.c0<=r.c1->
     (r.kd≠.never->StepR P cs ys ops n s.th q s.tm s.bk o r)->(r.kd=.never->r.dst=none∧r.wr=[]∧∃p,p∈predsOf o∧p∈dead)->(∀p∈q2,p∈q)->(∀x∈dead2,x∈dead∨(x=i0∧r.kd≠.go))->
     ((∃p pw,r.kd=.pan p pw∧pn=some p∧pn2=none)∨((∀p pw,r.kd≠.pan p pw)∧pn=pn2))->RecOk P cs ys ops n (o::rest) i0 dead s (r::rs2) s' q pn:=by
    intro r rs2 q2 q s1 dead2 pn2 pn ih e1 e2 edf e3 e4 e5 e6 hst hnv hq hdd hpn;have hc1:=ih.cc;refine⟨by simp[ih.len],?_,?_,ih.df.trans edf,?_,?_,?_,?_,Zo,?_,?_,?_⟩
    ·rw[ih.tm,e1,Zme,Ybz,Ybm,Zd3]
    ·rw[ih.bk,e2,Ybz,Ybm,Zd3]
    ·intro i r' hr' hk
     cases i with
     | zero =>
       simp at hr';subst hr';exact⟨o,Zs,hst hk⟩
     | succ i =>
       simp at hr';obtain⟨o',ho',hs'⟩:=ih.step i r' hr' hk;refine⟨o',by simpa using ho',?_⟩;rw[Ybz,Ybz,Zd3,Zd3,<-Zme,<-e1,<-e2,<-e4];exact hs'.more hq
    ·intro i r' hr' hk
     cases i with
     | zero =>
       simp at hr';subst hr';obtain⟨h1,h2,p,h3,h4⟩:=hnv hk;exact⟨h1,h2,o,p,Zs,h3,.inl h4⟩
     | succ i =>
       simp at hr';obtain⟨h1,h2,o',p,h3,h4,h5⟩:=ih.nev i r' hr' hk;refine⟨h1,h2,o',p,by simpa using h3,h4,?_⟩;rcases h5 with h5|⟨j,rj,h6,h7,h8⟩
       ·rcases hdd p h5 with h5|⟨h5,h6⟩
        ·exact .inl h5
        ·exact .inr ⟨0,r,Zo,Zs,h6⟩
       ·exact .inr ⟨j+1,rj,Zo,by simpa using h7,h8⟩
    ·intro i r' hr'
     cases i with
     | zero =>
       simp at hr';subst hr';omega
     | succ i =>
       simp at hr';have:=ih.rng i r' hr';omega
    ·intro i j ri rj hij hi hj
     cases j with
     | zero=>omega
     | succ j =>
       simp at hj;cases i with
       | zero =>
         simp at hi;subst hi;have:=ih.rng j rj hj;omega
       | succ i =>
         simp at hi;exact ih.ord i j ri rj Zo hi hj
    ·intro v hv
     rcases hpn with ⟨p,pw,h1,h2,h3⟩|⟨h1,h2⟩
     ·rw[h2]at hv
      cases hv;exact⟨pw,r.bR,by unfold panRec;rw[h1]⟩
     ·obtain⟨pw,bR,hp⟩:=ih.pn1 v (h2▸hv)
      refine⟨pw,bR,?_⟩;unfold panRec;split
      ·rename_i hk;exact absurd hk (h1 _ _)
      ·exact hp
    ·intro hv
     rcases hpn with ⟨p,pw,h1,h2,h3⟩|⟨h1,h2⟩
     ·rw[h2]at hv;cases hv
     ·unfold panRec
      split
      ·rename_i hk;exact absurd hk (h1 _ _)
      ·exact ih.pn0 (h2▸hv)
    ·intro i r' p' pw' hr' hk
     cases i with
     | zero =>
       simp at hr';subst hr';unfold panRec;rw[hk]
     | succ i =>
       simp at hr';have hu:=ih.uniq i r' p' pw' hr' hk;rcases hpn with ⟨p,pw,h1,h2,h3⟩|⟨h1,h2⟩
       ·rw[ih.pn0 h3]at hu;cases hu
       ·unfold panRec
        split
        ·rename_i hk;exact absurd hk (h1 _ _)
        ·exact hu
   unfold recS at h;split at h
   ·rename_i hdead
    split at h
    ·rename_i rs2 s2 q2 p2 h2
     cases h;have ih:=Zfi h2;refine cons ⟨none,.no,[],[],[],s.c,s.c,.never⟩ rs2 q _ _ _ _ _ ih rfl rfl rfl rfl rfl rfl (Yab _) (λhk=>absurd rfl hk) (λ_=>⟨rfl,rfl,?_⟩) (λp hp=>hp) (λx hx=>?_) (.inr ⟨(λp pw hk=>by cases hk),rfl⟩)
     ·obtain⟨p,h1,h2⟩:=Yft.1 hdead
      exact⟨p,h1,mem_iff.1 h2⟩
     ·rcases Ycp.1 hx with rfl|hx
      ·exact .inr ⟨rfl,λhk=>by cases hk⟩
      ·exact .inl hx
    ·cases h
   ·dsimp only at h
    split at h
    ·rename_i ps orc hw
     split at h
     ·rename_i hd
      split at h
      ·rename_i r cl hr
       split at h
       ·rename_i p hp
        split at h
        ·split at h
         ·rename_i rs2 s2 q2 h2
          cases h;have ih:=Zfi h2;refine cons ⟨none,.no,[],_,_,s.c,r.c,.pan p r.wr⟩ rs2 q2 _ _ _ _ _ ih rfl rfl rfl rfl rfl rfl (Zkq hr) (λ_=>?_) (λhk=>by cases hk) (λp hp=>by simp[hp]) (λx hx=>?_) (.inl ⟨p,r.wr,rfl,rfl,rfl⟩)
          ·exact⟨hd,_,_,_,_,hw,λp hp=>by simp[hp],.inr (.inr ⟨p,r.wr,rfl,rfl,rfl,rfl,r,cl,hr,hp,rfl,rfl,λp hp=>by simp[hp]⟩)⟩
          ·obtain rfl:x=i0:=by simpa using hx
           exact .inr ⟨rfl,λhk=>by cases hk⟩
         ·cases h
        ·cases h
       ·rename_i hp
        split at h
        ·rename_i rs2 s2 q2 p2 h2
         cases h;have ih:=Zfi h2;refine cons ⟨o.dst,r.v,r.wr,_,_,s.c,r.c,.go⟩ rs2 q2 _ _ _ _ _ ih rfl rfl rfl rfl rfl rfl (Zkq hr) (λ_=>?_) (λhk=>by cases hk) (λp hp=>by simp[hp]) (λx hx=>.inl hx) (.inr ⟨(λp pw hk=>by cases hk),rfl⟩);exact⟨hd,_,_,_,_,hw,λp hp=>by simp[hp],.inl ⟨rfl,rfl,rfl,r,cl,hr,hp,rfl,rfl,rfl,λp hp=>by simp[hp]⟩⟩
        ·cases h
      ·cases h
     ·cases h
    ·rename_i ps orc hw
     split at h
     ·rename_i hd
      split at h
      ·rename_i rs2 s2 q2 p2 h2
       cases h;have ih:=Zfi h2;refine cons ⟨o.dst,.tup [],[],_,[],s.c,s.c,.go⟩ rs2 q2 _ _ _ _ _ ih rfl rfl rfl rfl rfl rfl (Yab _) (λ_=>?_) (λhk=>by cases hk) (λp hp=>by simp[hp]) (λx hx=>.inl hx) (.inr ⟨(λp pw hk=>by cases hk),rfl⟩);exact⟨hd,_,_,_,_,hw,λp hp=>by simp[hp],.inr (.inl ⟨rfl,rfl,rfl,rfl,rfl,rfl⟩)⟩
      ·cases h
     ·cases h
    ·cases h
/-! ### who must come before whom -/
def prOf (ops:Array Oper) (j:Nat):List Nat:=
 match ops[j]? with
 | some o=>predsOf o
 | none=>[]
def bfs (pr:Nat->List Nat):Nat->List Nat->List Nat->List Nat
 | 0,_,seen=>seen
 | _+1,[],seen=>seen
 | n+1,q::r,seen=>if mem seen q then bfs pr n r seen else bfs pr n (pr q++r) (q::seen)
theorem Zq6 {pr:Nat->List Nat} {L:Nat->Prop} (hc:∀j,L j->∀q∈pr j,L q):∀(n:Nat) (t s:List Nat),(∀q∈t,L q)->(∀q∈s,L q)->∀q∈bfs pr n t s,L q
 | 0,t,s,ht,hs=>hs
 | n+1,[],s,ht,hs=>hs
 | n + 1, x :: r, s, ht, hs => by
   unfold bfs;split
   ·exact Zq6 hc n r s (λq hq=>ht q (by simp[hq])) hs
   ·refine Zq6 hc n _ _ (λq hq=>?_) (λq hq=>?_)
    ·rcases Ycn.1 hq with h|h
     ·exact hc x (ht x Zs) q h
     ·exact ht q (by simp[h])
    ·rcases Ycp.1 hq with h|h
     ·rw[h];exact ht x Zs
     ·exact hs q h
def inD (d:Option Tmp) (l:List Nat):Bool:=
 match d with
 | some t=>mem l t
 | none=>false
def keys {α:Type} (l:List (Nat×α)):List Nat:=l.map (·.1)
def conf (r s:Rec):Bool:=
 inD r.dst s.tR || inD s.dst r.tR || inD r.dst s.dst.toList || (keys r.wr).any (λk=>mem s.bR k || mem (keys s.wr) k) || (keys s.wr).any (λk=>mem r.bR k)
def raceB (pr:Nat->List Nat) (rs:List Rec):Bool:=
 (List.range rs.length).all λj=>(List.range j).all λi=>
  match rs[i]?,rs[j]? with
  | some r,some s=>!conf r s || mem (pr j) i || mem (bfs pr 2000 (pr j) []) i
  | _,_=>true
theorem Znz {pr:Nat->List Nat} {rs:List Rec} (h:raceB pr rs=true) {i j:Nat} (hij:i<j) {r s:Rec} (hi:rs[i]? = some r) (hj:rs[j]? = some s) (hc:conf r s=true)
  {L:Nat->Prop} (hcl:∀j,L j->∀q∈pr j,L q) (hp:∀q∈pr j,L q):L i:=by
 have hjl:j<rs.length:=(Yan.1 hj).1;have h1:=Ybn.1 h j (Yeu.2 hjl);have h2:=Ybn.1 h1 i (Yeu.2 hij);rw[hi,hj]at h2;dsimp only at h2;rw[hc]at h2;simp only[Bool.not_true,Yeo,Ybo,mem_iff]at h2;rcases h2 with h2|h2
 ·exact hp i h2
 ·exact Zq6 hcl 2000 _ _ hp Zs i h2
theorem Zn0 {α:Type} {k:Nat} {b:α}:∀{l:List (Nat×α)},l.look k=some b->k∈keys l
 | [],h=>by simp at h
 | (k', x) :: r, h => by
   rw[Zav]at h;split at h
   ·rename_i e;subst e;simp[keys]
   ·have:=Zn0 h
    simp only[keys,Ybz,Ycp];exact .inr this
end Go.Ex
namespace Go.Proofs.W
open Go.RowKit Go.Mono
theorem Zrk (B:Nat) (nm:ByteArray) (di pu st pr:Int) (pf pw' ps pc:Option Addr) (nf cf n cw ns cs nc cc:Nat) (X Y:Nat->Int) (w:World)
  (b0:Box w B 285 #[.string nm,.int .i64 di,.int .i64 pu,.int .i64 st,.int .i64 pr,.slice pf nf cf,.slice pw' n cw,.slice ps ns cs,.slice pc nc cc])
  (hr:RdC w pf nf cf 2 (λi j=>if j=0 then .int .i64 (X i) else .int .i64 (Y i)))
  (n1:1<=nf) (n2:nf<=5) (m:Int) (hm:m=if di=0 then 1000000 else 1000000000)
  (l0:∀i,i<nf->(-m<=X i∧X i<=m)∧-m<=Y i∧Y i<=m) (l1:∀i k,k<i->i<nf->¬(X i=X k∧Y i=Y k)) :
  Calls Tryz.prog 259 #[.pointer (some ⟨B,0,none⟩)] w λe w'=>e=.returned (.bool true)∧Below w.heap.size w w':=by
 have cb0:=b0.cell;have m1:0<=m∧m<=1000000000:=by subst hm;split<;>omega
 obtain⟨hc1,hn1,hx⟩:=hr;obtain⟨b,off,rfl,hb,hcell⟩:=hx Zo;clear hx;have hdd:(m=1000000∧di=0)∨(m=1000000000∧(di==0)=false):=by
  subst hm;by_cases hd:di=0
  ·left;simp[hd]
  ·right;simp[hd]
 clear hm;rcases hdd with ⟨rfl,rfl⟩|⟨rfl,hd⟩
 all_goals
  go_enter Tryz.func259,Tryz.ntmps259
  go_wp2
  go_loopw [20] (λa wr=>∃i:Nat,i<=nf∧a=.int .i64 (i:Int)∧Below w.heap.size w wr) (λa _=>(nf-intOf a).toNat)
  case atStart=>exact⟨0,Yat _,rfl,Yae _ _⟩
  case round=>
   obtain⟨i,hi,rfl,hB⟩:=hrel;have hbb:=b0.below hB;have cbb:=hbb.cell;have lbb:=hbb.lt;have hbw:b<wr.heap.size:=Yaf hb hB.size;by_cases hin:i<nf
   ·have hin':(i:Int)<nf:=by omega
    have a0:=(hB.cell hb).trans (hcell i 0 hin Zo);have a1:=(hB.cell hb).trans (hcell i 1 hin Zo);simp only[if_true,Yce,Nat.succ_ne_self,if_false]at a0 a1;replace l0:=Yah l0;replace l1:=Yah l1;replace hcell:=Yah hcell;clear cb0;go_wp2
    refine Zbs λW1 hB1 hs1 bF=>?_;replace hbb:=hbb.below hB1;have hBW:=Zaa hB hB1;clear cbb lbb a0 a1;go_loopw [33] (λa w2=>∃k:Nat,k<=i∧a=.int .i64 (k:Int)∧Below W1.heap.size W1 w2) (λa _=>(i-intOf a).toNat)
    case atStart=>exact⟨0,Yat _,rfl,Yae _ _⟩
    case round=>
     obtain⟨k,hk,rfl,hB2⟩:=hrel;have bF2:=bF.below hB2;have cF:=bF2.cell;have lF:=bF2.lt;have fF:=bF2.frozen;have hBW2:=Zaa hBW hB2;have hbw2:b<wr.heap.size:=Yaf hb hBW2.size;by_cases hki:k<i
     ·have hki':(k:Int)<i:=by omega
      have a0:=(hBW2.cell hb).trans (hcell.out k 0 Zo Zo);have a1:=(hBW2.cell hb).trans (hcell.out k 1 Zo Zo);simp only[if_true,Yce,Nat.succ_ne_self,if_false]at a0 a1;have hne:=l1.out i k hki hin;by_cases hX:X i=X k
      ·have hqx:(X i==X k)=true:=by simpa using hX
       have hqy:(Y i==Y k)=false:=by
        rw[beq_eq_false_iff_ne];exact λh=>hne ⟨hX,h⟩
       replace hX:=Yah hX;replace hne:=Yah hne;go_wp2
       go_roundw
       case rel=>exact⟨k+1,Zo,Zs,Zad hB2 _⟩
       case measure=>simp[intOf];omega
      ·have hqx:(X i==X k)=false:=by rw[beq_eq_false_iff_ne];exact hX
       replace hX:=Yah hX;replace hne:=Yah hne;go_wp2
       go_roundw
       case rel=>exact⟨k+1,Zo,Zs,Zad hB2 _⟩
       case measure=>simp[intOf];omega
     ·obtain rfl:k=i:=by omega
      obtain⟨⟨x1,x2⟩,y1,y2⟩:=l0.out k hin;go_wp2_with first|(go_at_call 258;(with_reducible refine(Zbg (X k) _ _ x1 x2 _).mono ?_);rintro e w' ⟨rfl,rfl⟩)|(go_at_call 258;(with_reducible refine(Zbg (Y k) _ _ y1 y2 _).mono ?_);rintro e w' ⟨rfl,rfl⟩)
      go_roundw
      case rel=>exact⟨k+1,Zo,Zs,hBW2⟩
      case measure=>simp[intOf];omega
   ·obtain rfl:i=nf:=by omega
    have e1:(1:Int)<=i:=Zo;have e2:(i:Int)<=5:=Zo;clear hcell cb0 l0 l1;go_wp2_with (go_at_call 258;refine(Zbg (i:Int) 1 5 e1 e2 _).mono ?_;rintro e w' ⟨rfl,rfl⟩)
    go_ret
    exact⟨rfl,hB⟩
end Go.Proofs.W
namespace Go.Ex
open Go.RowKit Go.Mono
theorem Sat.congr {D:Den} {w0:World} {X:Nat->Prop} {th:Nat} {ρ:Nm} {wc w:World} {bk bk':List (Nat×Blk)} (h:Sat D w0 X th ρ wc w bk) (he:∀k,bk'.look k=bk.look k):Sat D w0 X th ρ wc w bk':=
 h.sub λk b hk=>by rw[<-he];exact hk
theorem TSat.sub {D:Den} {ρ:Nm} {w:World} {n:Nat} {tm tm':List (Nat×SV)} {a:Act} (h:TSat D ρ w n tm a) (hs:Sub tm' tm):TSat D ρ w n tm' a:=⟨h.size,λt x hl=>h.at_ t x (hs t x hl)⟩
theorem Evo.congr {ρ ρ':Nm} {wc w wc' w':World} {bk b1 b2:List (Nat×Blk)} {c c':Nat} (h:Evo ρ wc w bk c c' ρ' wc' w' b1) (he:∀k,b2.look k=b1.look k):Evo ρ wc w bk c c' ρ' wc' w' b2:=
 h.sub λk b hk=>by rw[<-he];exact hk
theorem Evo.widen {ρ ρ':Nm} {wc w wc' w':World} {bk b1:List (Nat×Blk)} {c c' d d':Nat} (h:Evo ρ wc w bk c c' ρ' wc' w' b1) (h1:d<=c) (h2:c'<=d'):Evo ρ wc w bk d d' ρ' wc' w' b1:=
 ⟨h.rho,h.ext,h.size,h.os,h.tape,h.output,h.loc,λk b hk=>(h.ids k b hk).imp id λ⟨k1,k2,hh⟩=>⟨Zo,Zo,hh⟩,by have:=h.cc;omega,λk hk=>h.dom k Zo⟩
theorem Evo.join {ρ ρ1 ρ2:Nm} {wc w wc1 w1 wc2 w2:World} {bk bk1 bk2:List (Nat×Blk)} {c d:Nat}
  (h:Evo ρ wc w bk c d ρ1 wc1 w1 bk1) (g:Evo ρ1 wc1 w1 bk1 c d ρ2 wc2 w2 bk2) (hlt:∀k b,Liv bk k b->∃B,ρ k=some B):Evo ρ wc w bk c d ρ2 wc2 w2 bk2 where
 rho:=h.rho.trans g.rho
 ext:=h.ext.trans g.ext
 size:=Yak h.size g.size
 os:=g.os.trans h.os
 tape:=g.tape.trans h.tape
 output:=g.output.trans h.output
 loc:=λi hi hn=>by
  rw[g.loc i (Yaf hi h.size) ?_,h.loc i hi hn];intro k b C hk he hro;rcases h.ids k b hk with ⟨b',hb'⟩|⟨_,_,B,hB,hle⟩
  ·obtain⟨B,hB⟩:=hlt k b' hb'
   have:=h.rho k B hB;rw[he]at this;cases this;exact hn k b' C hb' hB hro
  ·rw[he]at hB
   cases hB;rcases hle with hle|⟨k0,b0,B0,h1,h2,h3,h4⟩
   ·omega
   ·rw[<-h4];exact hn k0 b0 B0 h1 h2 h3
 ids:=λk b hk=>by
  rcases g.ids k b hk with ⟨b',hb'⟩|⟨k1,k2,B,hB,hle⟩
  ·rcases h.ids k b' hb' with h2|⟨k1,k2,B,hB,hle⟩
   ·exact .inl h2
   ·exact .inr ⟨k1,k2,B,g.rho k B hB,hle⟩
  ·refine .inr ⟨k1,k2,B,hB,?_⟩
   rcases hle with hle|⟨k0,b0,B0,h1,h2,h3,h4⟩
   ·exact .inl (Yak h.size hle)
   ·rcases h.ids k0 b0 h1 with ⟨b',hb'⟩|⟨_,_,B1,hB1,hle⟩
    ·obtain⟨B1,hB1⟩:=hlt k0 b' hb'
     have:=h.rho k0 B1 hB1;rw[h2]at this;cases this;exact .inr ⟨k0,b',B0,hb',hB1,h3,h4⟩
    ·rw[h2]at hB1
     cases hB1;rw[<-h4];exact hle
 cc:=h.cc
 dom:=λk hk=>(g.dom k hk).trans (h.dom k hk)
theorem Zbz {α:Type} (f:Nat->Bool) (k:Nat):∀l:List (Nat×α),(l.filter λq=>f q.1).look k=if f k=true then l.look k else none
 | []=>Zs
 | (k', x) :: r => by
   have ih:=Zbz f k r;rw[List.filter_cons];dsimp only;by_cases h:f k'=true
   ·rw[if_pos h,Zav,Zav,ih]
    by_cases e:k=k'
    ·subst e;rw[if_pos rfl,if_pos rfl,if_pos h]
    ·rw[if_neg e,if_neg e]
   ·rw[if_neg h,ih,Zav]
    by_cases e:k=k'
    ·subst e;rw[if_neg h,if_neg h]
    ·rw[if_neg e]
def left (L:Nat->Bool):Nat->Nat
 | 0=>0
 | m+1=>(if L m then 0 else 1)+left L m
theorem Zq7 (L:Nat->Bool) (i:Nat):∀m,left (λj=>j==i || L j) m<=left L m
 | 0=>Yab _
 | m + 1 => by
   have:=Zq7 L i m;unfold left;cases hL:L m<;>cases he:(m==i)<;>simp only[hL,he,Bool.or_true,Bool.or_false,Bool.true_or,Yeo,if_true,Ybq,if_false]<;>omega
theorem Zq8 {L:Nat->Bool} {i:Nat} (hi:L i=false):∀m,i<m->left (λj=>j==i || L j) m<left L m
 | 0,h=>Zo
 | m + 1, h => by
   unfold left;by_cases e:i=m
   ·subst e
    have:=Zq7 L i i;simp only[hi,BEq.rfl,Bool.true_or,if_true,Ybq,if_false];omega
   ·have:=Zq8 hi m Zo
    have e':(m==i)=false:=by simp;omega
    simp only[e',Yeo];omega
theorem Zkr {L:Nat->Bool}:∀m,left L m=0->∀j,j<m->L j=true
 | 0,_,j,hj=>Zo
 | m + 1, h, j, hj => by
   unfold left at h;by_cases e:j=m
   ·subst e
    cases hL:L j with
    | true=>rfl
    | false=>rw[hL]at h;simp at h;
   ·exact Zkr m Zo j Zo
theorem Zq9 {α:Type} {ws:List (List (Nat×α))} {l0:List (Nat×α)} {L:Nat->Bool} {k:Nat} {b:α}:∀N,(accAt ws L l0 N).look k=some b->l0.look k=some b∨∃j,((ws.getD j []).look k)=some b
 | 0,h=>.inl h
 | N + 1, h => by
   rw[Zb2]at h;split at h
   ·exact .inr ⟨N,h⟩
   ·exact Zq9 N h
theorem Zmf {α:Type} {ws:List (List (Nat×α))} {l0:List (Nat×α)} {L:Nat->Bool} {N:Nat} (h:∀j,j<N->L j=true):∀m,m<=N->accAt ws L l0 m=accAt ws tt l0 m
 | 0,_=>rfl
 | m + 1, hm => by
   show(if L m then _ else _)++accAt ws L l0 m=(if tt m then _ else _)++accAt ws tt l0 m;rw[Zmf h m Zo,h m Zo];rfl
theorem Zeu {rs:List Rec} {i t:Nat} (h:wrote (rs.map wT) i t):∃r,rs[i]? = some r∧r.dst=some t:=by
 unfold wrote at h;rw[Yac,Ycj]at h;cases hr:rs[i]? with
 | none=>rw[hr]at h;simp at h
 | some r =>
   rw[hr]at h;simp only[Yfx,Option.getD_some]at h;unfold wT at h;cases hd:r.dst with
   | none=>rw[hd]at h;simp at h
   | some d =>
     rw[hd]at h;dsimp only at h;rw[Zav]at h;split at h
     ·rename_i e;subst e;exact⟨r,rfl,hd⟩
     ·simp at h
theorem Zev {rs:List Rec} {i k:Nat} (h:wrote (rs.map (·.wr)) i k):∃r,rs[i]? = some r∧k∈keys r.wr:=by
 unfold wrote at h;rw[Yac,Ycj]at h;cases hr:rs[i]? with
 | none=>rw[hr]at h;simp at h
 | some r =>
   rw[hr]at h;obtain⟨b,hb⟩:=Yct.1 h;exact⟨r,rfl,Zn0 hb⟩
theorem Zwb {r s:Rec} {t:Nat} (h1:r.dst=some t) (h2:t∈s.tR):conf r s=true:=by
 unfold conf;rw[show inD r.dst s.tR=true from by rw[h1];exact mem_iff.2 h2];simp
theorem Zwc {r s:Rec} {t:Nat} (h1:s.dst=some t) (h2:t∈r.tR):conf r s=true:=by
 unfold conf;rw[show inD s.dst r.tR=true from by rw[h1];exact mem_iff.2 h2];simp
theorem Zwd {r s:Rec} {t:Nat} (h1:r.dst=some t) (h2:s.dst=some t):conf r s=true:=by
 unfold conf;rw[show inD r.dst s.dst.toList=true from by rw[h1,h2];exact mem_iff.2 Zs];simp
theorem Zra {r s:Rec} {k:Nat} (h1:k∈keys r.wr) (h2:k∈s.bR∨k∈keys s.wr):conf r s=true:=by
 unfold conf;rw[show(keys r.wr).any (λk=>mem s.bR k || mem (keys s.wr) k)=true from Yft.2 ⟨k,h1,by
  rw[Ybo,mem_iff,mem_iff];exact h2⟩]
 simp
theorem Zwe {r s:Rec} {k:Nat} (h1:k∈keys s.wr) (h2:k∈r.bR):conf r s=true:=by
 unfold conf;rw[show(keys s.wr).any (λk=>mem r.bR k)=true from Yft.2 ⟨k,h1,mem_iff.2 h2⟩];simp
end Go.Ex
