/- Contracts of package paraxial,and a verified evaluator. Part 21 of 28. No condition beside the row. -/
import Derived.Test.YtfgmlkjibdegfaaGreatDoorA20
set_option linter.unusedVariables false
set_option linter.unusedSimpArgs false
set_option maxRecDepth 100000
set_option maxHeartbeats 4000000
namespace Go.Ex
open Go.RowKit Go.Mono
section
theorem Zj1 {p:Nat->Prop} (h:∃n,p n):∃n,p n∧∀m,p m->n<=m:=by
 obtain⟨n,hn⟩:=h;induction n using Nat.strongRecOn with
 | _ n ih =>
   by_cases hm:∃m,m<n∧p m
   ·obtain⟨m,h1,h2⟩:=hm
    exact ih m h1 h2
   ·exact⟨n,hn,λm h2=>Nat.le_of_not_lt λh1=>hm ⟨m,h1,h2⟩⟩
section
variable {D:Den} {P:Program} {w0:World} {X:Nat->Prop} {cs:CallS} {ys:YEnv} {n:Nat}
theorem denAs.len {ρ:Nm} {w:World}:∀{l:List SA} {vs:List Value},denAs D ρ w l vs->vs.length=l.length
 | [],vs,e=>by rw[show vs=[] from e];rfl
 | y::l,vs,⟨v,r,e,hv,hr⟩=>by rw[e,Ybm,denAs.len hr];rfl
theorem Zm3 {ρ:Nm} {w:World}:∀{ps:List Tmp} {args:List SA} {vals:List Value} {tm:List (Nat×SV)} {T:Array Value} {d:List Deferred},TSat D ρ w n tm {tmps:=T,defers:=d}->denAs D ρ w args vals->(ps.all λp=>Nat.blt p n)=true->ps.length=args.length->
  TSat D ρ w n (setPs ps args tm) {tmps:=(ps.zip vals).foldl (λt (q:Tmp×Value)=>t.setIfInBounds q.1 q.2) T,defers:=d}
 | [], args, vals, tm, T, d, h, ha, hp, hl => by
   cases args with
   | nil=>exact h
   | cons=>cases hl
 | p :: ps, args, vals, tm, T, d, h, ha, hp, hl => by
   cases args with
   | nil=>cases hl
   | cons x xs =>
     obtain⟨v,r,rfl,hv,hr⟩:=ha;rw[List.all_cons,Yam]at hp;rw[List.zip_cons_cons,List.foldl_cons];exact Zm3 (h.put (d:=some p) hp.1 (x:=.a x) hv) hr hp.2 (by simpa using hl)
theorem Zm4 (hcs : CallOk D P w0 X cs) (hcc : ∀ ys f args bk c th orc r, cs.call ys f args bk c th orc = some r -> c <= r.c) (hm : P.follows .mixedOrders = true) : ∀ (f : Nat) (rd : Bool) (c : Code) (s s' : Stt) (o : Ot) (q : List Prop) (bd mm : Nat) (ρ : Nm) (wc w : World) (a : Act) (Q : Exit -> Act -> World -> Prop) (ro : Option Nat),
  mm<=w.heap.size->(rd=false->ro=none)->evC P cs ys n f rd c s=some (o,s',q)->(∀p∈q,p)->Sat D w0 X s.th ρ wc w s.bk->YOk D P w0 X bd ys ρ wc w->TSat D ρ wc n s.tm a->DfOk P mm ρ w s.df a.defers->(∀k,s.c<=k->k<s'.c->ρ k=none)->
  Goes D P w0 X mm n ρ wc w s s' (Q o.ex)->c.wpIn (WF ro) 0 P Q a w:=by
 intro f;induction f using Nat.strongRecOn with
 | _ f ih =>
   intro rd c s s' o q bd mm ρ wc w a Q ro hmm0 hrd h hq hS hY hT hDf hn hK;cases f with
   | zero=>cases c<;>cases rd<;>simp[evC]at h
   | succ f =>
     have ih':=ih f (Yca f);cases c with
     | skip =>
       simp only[evC,Ybp,Yco]at h;obtain⟨rfl,rfl,rfl⟩:=h;exact wpIn_skip (hK ρ wc w a hS hT hDf (Evo.refl _ _ _ _ _))
     | label l =>
       simp only[evC,Ybp,Yco]at h;obtain⟨rfl,rfl,rfl⟩:=h;exact wpIn_label (hK ρ wc w a hS hT hDf (Evo.refl _ _ _ _ _))
     | exit id =>
       simp only[evC,Ybp,Yco]at h;obtain⟨rfl,rfl,rfl⟩:=h;exact wpIn_exit (hK ρ wc w a hS hT hDf (Evo.refl _ _ _ _ _))
     | ret =>
       simp only[evC,Ybp,Yco]at h;obtain⟨rfl,rfl,rfl⟩:=h;exact wpIn_ret (hK ρ wc w a hS hT hDf (Evo.refl _ _ _ _ _))
     | region id ops draw =>
       simp only[evC]at h;split at h
       ·rename_i s2 q2 p2 h2
        cases h;rw[Zw5]at hK;cases draw with
        | true=>exact Ztc hcs hm (by simpa using h2) hq hS hY hT hDf hn hK id
        | false=>exact wpIn_region_list (Ziq hcs hrd (by simpa using h2) hq hS hY hT hDf hn hK)
       ·cases h
     | seq x y =>
       simp only[evC]at h;split at h
       ·rename_i s1 p h1
        split at h
        ·rename_i o2 s2 q2 h2
         cases h;have p1:=Zcf hcc h1;have p2:=Zcf hcc h2;refine wpIn_seq (ih' rd x s s1 .norm p bd mm ρ wc w a _ ro hmm0 hrd h1 (λp hp=>hq p (by simp[hp])) hS hY hT hDf (λk k1 k2=>hn k k1 (Yaf k2 p2.1)) ?_);intro ρ' wc' w' a' k1 k2 k3 k4;refine ih' rd y s1 _ _ _ bd mm ρ' wc' w' a' Q ro (Yak hmm0 k4.size) hrd h2 (λp hp=>hq p (by simp[hp])) k1 (hY.evo hS k4) k2 k3 (λk j1 j2=>?_) ?_
         ·rw[k4.dom k (.inr j1)];exact hn k (Yak p1.1 j1) j2
         ·intro ρ2 wc2 w2 a2 m1 m2 m3 m4
          exact hK ρ2 wc2 w2 a2 m1 m2 m3 (k4.trans m4 hS.named)
        ·cases h
       ·rename_i id s1 p h1
        cases h;exact wpIn_seq (ih' rd x s _ (.exit id) _ bd mm ρ wc w a _ ro hmm0 hrd h1 hq hS hY hT hDf hn hK)
       ·rename_i s1 p h1
        cases h;exact wpIn_seq (ih' rd x s _ .ret _ bd mm ρ wc w a _ ro hmm0 hrd h1 hq hS hY hT hDf hn hK)
       ·rename_i v s1 p h1
        cases h;exact wpIn_seq (ih' rd x s _ (.pan v) _ bd mm ρ wc w a _ ro hmm0 hrd h1 hq hS hY hT hDf hn hK)
       ·cases h
     | cond c t e =>
       simp only[evC]at h;split at h
       ·rename_i b hb
        have hden:=hT.get hb;have hev:a.eval c=.bool b:=by simpa using hden.1
        exact wpIn_cond hev (ih' rd (if b then t else e) s _ _ _ bd mm ρ wc w a Q ro hmm0 hrd h hq hS hY hT hDf hn hK)
       ·cases h
     | block id x =>
       simp only[evC]at h;split at h
       ·rename_i j s1 p h1
        cases h;refine wpIn_block (ih' rd x s _ (.exit j) _ bd mm ρ wc w a _ ro hmm0 hrd h1 hq hS hY hT hDf hn ?_);intro ρ2 wc2 w2 a2 m1 m2 m3 m4;show(if j=id then Q .normal a2 w2 else Q (.exit j) a2 w2);have:=hK ρ2 wc2 w2 a2 m1 m2 m3 m4;by_cases e:j=id
        ·subst e
         simp only[Nat.beq_refl,if_true]at this;rw[if_pos rfl];exact this
        ·have hb:Nat.beq j id=false:=by
          cases hb:Nat.beq j id with
          | false=>rfl
          | true=>exact absurd (Ybe hb) e
         rw[hb]at this;rw[if_neg e];exact this
       ·rename_i s1 p h1
        cases h;exact wpIn_block (ih' rd x s _ .norm _ bd mm ρ wc w a _ ro hmm0 hrd h1 hq hS hY hT hDf hn hK)
       ·rename_i s1 p h1
        cases h;exact wpIn_block (ih' rd x s _ .ret _ bd mm ρ wc w a _ ro hmm0 hrd h1 hq hS hY hT hDf hn hK)
       ·rename_i v s1 p h1
        cases h;exact wpIn_block (ih' rd x s _ (.pan v) _ bd mm ρ wc w a _ ro hmm0 hrd h1 hq hS hY hT hDf hn hK)
       ·cases h
     | scope x =>
       simp only[evC]at h;refine Zn0 (ih' rd x s _ o _ bd mm ρ wc w a _ ro hmm0 hrd h hq hS hY hT hDf hn ?_);intro ρ2 wc2 w2 a2 m1 m2 m3 m4;have:=hK ρ2 wc2 w2 a2 m1 m2 m3 m4;cases o<;>exact this
     | loop x =>
       -- the least number of rounds' fuel that leads from a state to the end
       let J:Nat->Act->World->Prop:=λm a w=>m<=f+1∧mm<=w.heap.size∧∃(s s':Stt) (o:Ot) (q:List Prop) (ρ:Nm) (wc:World),evC P cs ys n m rd (.loop x) s=some (o,s',q)∧(∀p∈q,p)∧Sat D w0 X s.th ρ wc w s.bk∧YOk D P w0 X bd ys ρ wc w∧TSat D ρ wc n s.tm a∧DfOk P mm ρ w s.df a.defers∧(∀k,s.c<=k->k<s'.c->ρ k=none)∧
        Goes D P w0 X mm n ρ wc w s s' (Q o.ex)
       have least:∀a w,∃m,(∃m,J m a w)->J m a w∧∀m',J m' a w->m<=m':=λa w=>by
        by_cases hJ:∃m,J m a w
        ·obtain⟨m,h1,h2⟩:=Zj1 hJ
         exact⟨m,λ_=>⟨h1,h2⟩⟩
        ·exact⟨0,λh=>absurd h hJ⟩
       refine wpIn_loop (λa w=>∃m,J m a w) (λa w=>Classical.choose (least a w)) ⟨f+1,Yab _,hmm0,s,s',o,q,ρ,wc,h,hq,hS,hY,hT,hDf,hn,hK⟩ ?_;intro a w hI;obtain⟨⟨hle,hmm0,s,s',o,q,ρ,wc,h,hq,hS,hY,hT,hDf,hn,hK⟩,_⟩:=Classical.choose_spec (least a w) hI;generalize hmmm:Classical.choose (least a w)=m at *;cases m with
       | zero=>cases rd<;>simp[evC]at h
       | succ m =>
         have ihm:=ih m Zo;simp only[evC]at h;split at h
         ·rename_i s1 p h1
          split at h
          ·rename_i o2 s2 q2 h2
           cases h;have p1:=Zcf hcc h1;have p2:=Zcf hcc h2;refine ihm rd x s s1 .norm p bd mm ρ wc w a _ ro hmm0 hrd h1 (λp hp=>hq p (by simp[hp])) hS hY hT hDf (λk k1 k2=>hn k k1 (Yaf k2 p2.1)) ?_;intro ρ' wc' w' a' k1 k2 k3 k4;have hJ:J m a' w':=⟨Zo,Yak hmm0 k4.size,s1,_,_,_,ρ',wc',h2,λp hp=>hq p (by simp[hp]),k1,hY.evo hS k4,k2,k3,λk j1 j2=>by
            rw[k4.dom k (.inr j1)];exact hn k (Yak p1.1 j1) j2,λρ2 wc2 w2 a2 m1 m2 m3 m4=>hK ρ2 wc2 w2 a2 m1 m2 m3 (k4.trans m4 hS.named)⟩
           refine⟨⟨m,hJ⟩,?_⟩;have:=(Classical.choose_spec (least a' w') ⟨m,hJ⟩).2 m hJ;omega
          ·cases h
         ·rename_i id s1 p h1
          cases h;exact ihm rd x s _ (.exit id) _ bd mm ρ wc w a _ ro hmm0 hrd h1 hq hS hY hT hDf hn hK
         ·rename_i s1 p h1
          cases h;exact ihm rd x s _ .ret _ bd mm ρ wc w a _ ro hmm0 hrd h1 hq hS hY hT hDf hn hK
         ·rename_i v s1 p h1
          cases h;exact ihm rd x s _ (.pan v) _ bd mm ρ wc w a _ ro hmm0 hrd h1 hq hS hY hT hDf hn hK
         ·cases h
     | rangeFunc g ps assign body =>
       cases rd with
       | true=>simp[evC]at h
       | false =>
         obtain rfl:=hrd rfl;simp only[evC]at h;split at h
         ·rename_i gf fs caps hg
          split at h
          ·rename_i hc
           rw[Yam]at hc;obtain⟨hen,hall⟩:=hc;split at h
           ·rename_i r hr
            have hbkn:=Zc1 hall;have hcr:=hcc _ _ _ _ _ _ _ _ hr;have hsc:s'.c=r.c∧s'.df=.col (s.c+1)::s.df∧q=r.obl:=by
             split at h<;>(cases h;exact⟨rfl,rfl,rfl⟩)
            obtain⟨hsc,hsdf,hqo⟩:=hsc;subst hqo;obtain⟨us,vs,e2,hus,hvs⟩:=Zmy (D:=D) (ρ:=ρ) (w:=wc) (v:=a.eval g) hg (λx hx=>hT.get hx);have eg:=λargs w=>Zfd (P:=P) hen args w;obtain⟨k1,E1⟩:=hS.obj (k:=s.c+1) (hn (s.c+1) Zo Zo) (by
             cases hl:s.bk.look (s.c+1) with
             | none=>rfl
             | some b=>have:=hbkn _ _ hl;omega) (.deferred (some []))
            refine wpIn_rangeFunc λfn hfn=>?_;obtain⟨lp,hlp⟩:∃lp:Loop,lp = {state:=.ready,pending:=none,fn,tmps:=a.tmps,params:=ps,assign,body,defers:=w.heap.size}:=⟨_,rfl⟩
            obtain⟨k2,E2⟩:=k1.obj (k:=s.c) (by rw[Zax _ _ Zo];exact hn s.c Zo Zo) (by
             cases hl:s.bk.look s.c with
             | none=>rfl
             | some b=>have:=hbkn _ _ hl;omega) (.loop lp)
            rw[Yav]at k2 E2;have E12:=(E1.widen (d:=s.c) (d':=s.c+2) Zo Zo).join (E2.widen (d:=s.c) (d':=s.c+2) Zo Zo) hS.named;generalize hρ2:addNm (addNm ρ (s.c+1) ⟨w.heap.size,0,false,0,0⟩) s.c ⟨w.heap.size+1,0,false,0,0⟩=ρ2 at k2 E12;have r1:ρ2 s.c=some ⟨w.heap.size+1,0,false,0,0⟩:=by rw[<-hρ2];exact Zbf _ _ _
            have r2:ρ2 (s.c+1)=some ⟨w.heap.size,0,false,0,0⟩:=by rw[<-hρ2,Zax _ _ Zo];exact Zbf _ _ _
            have hW:(w.alloc (.deferred (some []))).alloc (.loop {state:=.ready,pending:=none,fn,tmps:=a.tmps,params:=ps,assign,body,defers:=w.heap.size})=(w.alloc (.deferred (some []))).alloc (.loop lp):=by rw[hlp]
            generalize hW1:(w.alloc (.deferred (some []))).alloc (.loop lp)=W1 at k2 E12 hW;have hL1:W1.heap[w.heap.size+1]? = some (.loop lp):=by
             rw[<-hW1];have:=World.alloc_heap_new (w.alloc (.deferred (some []))) (.loop lp);rwa [Yav]at this
            have hK1:W1.heap[w.heap.size]? = some (.deferred (some [])):=by
             rw[<-hW1];exact(Below.heap_alloc _ _ _ Zs).trans (World.alloc_heap_new w _)
            refine⟨w.heap.size+1,[{target:=.collected w.heap.size,args:=#[]}],W1,{target:=.fn (.func gf) vs.toArray,args:=us.toArray++#[.func (.yield (w.heap.size+1)) #[] #[]]},W1,gf,
             us.toArray++#[.func (.yield (w.heap.size+1)) #[] #[]]++vs.toArray,W1,?_,?_,?_,?_,(λhh=>by cases hh),?_⟩
            ·rw[<-hW];exact run_enterLoop_outer _ _ _ _ _
            ·simp only[resolve,e2]
             simp[go_sem]
            ·intro f' hf';trivial
            ·simp[invoke,go_sem,eg]
            ·
             have hY2:YOk D P w0 X (w.heap.size+2) ((s.c,hndS n ps s.tm (evC P cs ys n f true assign) (evC P cs ys n f true body))::ys) ρ2 wc W1:=⟨_,lp,r1,hL1,by have:=hS.fr.size;dsimp only;omega,Yca _,
              (hY.bound (b:=w.heap.size+1) (λk B hB=>by have:=hS.lt k B hB;omega)).evo hS E12,?_⟩
             ·have hargs:denAs D ρ2 wc (fs++(.one (.yld s.c)::capsA caps)) (us++(.func (.yield (w.heap.size+1)) #[] #[]::vs)):=(hus.mono E12.rho (Ext.refl _)).append ⟨_,vs,rfl,⟨_,r1,rfl⟩,Zf6 (hvs.mono E12.rho)⟩
              have hcall:=hcs.call _ _ _ _ _ _ _ _ hr hq (w.heap.size+2) ρ2 wc W1 _ ((k2.tmin (c:=s.c+2) (λk b hk=>by have:=hbkn k b hk;omega))) hY2 (λk b hk=>by have:=hbkn k b hk;omega) (Zli _ _) (λk h1 h2=>by
               rw[E12.dom k (.inr h1)];exact hn k Zo Zo) hargs
              refine callsIn_WF.2 ?_;have ea:(us.toArray++#[.func (.yield (w.heap.size+1)) #[] #[]]++vs.toArray:Array Value)=(us++(.func (.yield (w.heap.size+1)) #[] #[]::vs):List Value).toArray:=by apply Yee.1;simp
              rw[ea];refine hcall.mono ?_;rintro e W2 ⟨v,ρ',wc',hend,hv,hS2,hE2⟩;have E:=E12.trans hE2 hS.named;have hl2:W2.heap[w.heap.size+1]? = some (.loop lp):=k2.stays hE2 hL1 rfl;have hk2:W2.heap[w.heap.size]? = some (.deferred (some [])):=k2.stays hE2 hK1 rfl;have hT':TSat D ρ' wc' n s.tm {a with defers:=[{target:=.collected w.heap.size,args:=#[]}]++a.defers}:=⟨hT.size,(hT.mono E.rho E.ext).at_⟩
              have hsz0:=hS.fr.size;unfold OpR.ends at hend;split at hend
              ·rename_i hp
               subst hend;rw[hp]at h;cases h;have he:=run_endLoop (P:=P) hl2 (by rw[hlp];simp);have ef:r.fin s.bk=r.wr++s.bk:=by unfold OpR.fin;rw[hp]
               rw[ef]at hS2 E;refine⟨_,_,he,?_⟩;rw[show lp.pending=none from by rw[hlp]];refine hK ρ' wc' _ _ (hS2.putObj hl2 rfl Zo _) hT' ?_ (E.putNew Zo _);refine⟨_,a.defers,rfl,hE2.rho _ _ r2,hmm0,hDf.low hS.lt,(World.putObj_heap_other (by dsimp only;omega)).trans hk2,(hDf.evo hS E).step (Nm.le.refl _) λl _ hl=>?_⟩;rw[World.putObj_heap_other ?_]
               ·exact hl
               ·intro e;subst e;rw[hl2]at hl;cases hl
              ·rename_i p hp
               subst hend;rw[hp]at h;cases h;have ef:r.fin s.bk=r.wr:=by unfold OpR.fin;rw[hp]
               rw[ef]at hS2 E;exact hK ρ' wc' _ _ hS2 hT' ⟨_,a.defers,rfl,hE2.rho _ _ r2,hmm0,hDf.low hS.lt,hk2,hDf.evo hS E⟩ E
             ·
              intro args bk' c' th' orc' r' hh ho ρ' wc' w' vals hle hext hSat hYs hnames hth hfresh hargs hheap;dsimp only at hYs hheap ⊢;unfold hndS at hh;split at hh
              ·rename_i hps
               rw[Yam]at hps;have hlen:=Ybe hps.1;split at hh
               ·rename_i s1 p1 h1
                split at hh
                ·rename_i s2 p2 h2
                 split at hh
                 ·rename_i hdf
                  cases hh;have q1:=Zcf hcc h1;have q2:=Zcf hcc h2;obtain⟨b1,hb1⟩:=q1.2 (λv=>Zs);obtain⟨b2,hb2⟩:=q2.2 (λv=>Zs);have htake:s2.bk.take (s2.bk.length-bk'.length)++bk'=s2.bk:=by
                   rw[hb2,hb1,<-Ybx,Yay,Ybf,List.take_left]
                  refine⟨_,_,_,_,run_yield (P:=P) hheap (by rw[hlp];simp[hargs.len,hlen]),?_⟩;rw[hlp]at hheap;rw[hlp];refine roundIn_of_wpIn trivial ?_;have hT0:TSat D ρ' wc' n s.tm {tmps:=a.tmps,defers:=[]}:=⟨hT.size,(hT.mono (E12.rho.trans hle) (E12.ext.trans hext)).at_⟩
                  have hT1:=Zm3 hT0 hargs hps.2 (by rw[Yaz];exact hlen.symm);have hfold:((ps.zip vals.toArray).foldl (λtmps (q:Tmp×Value)=>tmps.setIfInBounds q.1 q.2) a.tmps)=(ps.toList.zip vals).foldl (λt (q:Tmp×Value)=>t.setIfInBounds q.1 q.2) a.tmps:=by
                   rw[<-Array.foldl_toList,Array.toList_zip]
                  show Code.wpIn (WF (some (w.heap.size+1))) 0 P assign _ {tmps:=(ps.zip vals.toArray).foldl (λtmps (q:Tmp×Value)=>tmps.setIfInBounds q.1 q.2) a.tmps,defers:=[]} w';rw[hfold];have hc2:s2.c=s2.c:=rfl;refine ih' true assign _ s1 .norm p1 _ 0 ρ' wc' w' _ _ (some (w.heap.size+1)) (Yat _) (λhh=>by cases hh) h1 (λp hp=>ho p (Ycy _ hp)) hSat hYs hT1 rfl (λk j1 j2=>hfresh k j1 (Yaf j2 q2.1)) ?_;intro ρ1 wc1 w1 a1 S1 T1 D1 Ev1;have hl1:=hSat.stays Ev1 hheap rfl;refine⟨_,run_beginRound hl1 rfl,?_⟩;have hz0:w0.heap.size<=w.heap.size+1:=by have:=hS.fr.size;omega
                  have S1':=S1.putObj hl1 rfl hz0 (.loop {state:=.busy,pending:=none,fn,tmps:=a.tmps,params:=ps,assign,body,defers:=w.heap.size});refine ih' true body s1 s2 .norm p2 _ 0 ρ1 wc1 _ a1 _ (some (w.heap.size+1)) (Yat _) (λhh=>by cases hh) h2 (λp hp=>ho p (Ydv _ hp)) S1' ((hYs.evo hSat Ev1).step (Nm.le.refl _) (Ext.refl _) λl lp hlt hl=>?_) T1 (D1.step (Nm.le.refl _) λl _ hl=>?_) (λk j1 j2=>?_) ?_
                  ·rw[World.putObj_heap_other Zo];exact hl
                  ·rw[World.putObj_heap_other ?_]
                   ·exact hl
                   ·intro e;subst e;rw[hl1]at hl;cases hl
                  ·rw[Ev1.dom k (.inr j1)];exact hfresh k (Yak q1.1 j1) j2
                  ·intro ρ3 wc3 w3 a3 S3 T3 D3 Ev3
                   have hl3:=S1'.stays Ev3 (World.putObj_heap_same (Zao hl1)) rfl;refine⟨_,_,run_endRound (P:=P) none hl3,?_⟩;have S3':=S3.putObj hl3 rfl hz0 (.loop {state:=.ready,pending:=none,fn,tmps:=a.tmps,params:=ps,assign,body,defers:=w.heap.size});refine⟨⟨.bool true,ρ3,wc3,rfl,⟨rfl,rfl⟩,?_,?_⟩,World.putObj_heap_same (Zao hl3)⟩
                   ·show Sat D w0 X s2.th ρ3 wc3 _ (s2.bk.take (s2.bk.length-bk'.length)++bk')
                    rw[htake];exact S3'
                   ·show Evo ρ' wc' w' bk' c' s2.c ρ3 wc3 _ (s2.bk.take (s2.bk.length-bk'.length)++bk')
                    rw[htake];exact Ev1.trans (Ev3.round hl1) hSat.named
                 ·cases hh
                ·cases hh
               ·cases hh
              ·cases hh
           ·cases h
          ·cases h
         ·cases h
     | goto=>cases rd<;>simp[evC]at h
     | refuse=>cases rd<;>simp[evC]at h
end
end
section
structure Ctr (D:Den) (P:Program) (w0:World) (X:Nat->Prop) where
 f:FuncId
 run:List SA->List (Nat×Blk)->Nat->List (Option Bool)->Option OpR
 cc:∀args bk c orc r,run args bk c orc=some r->c<=r.c
 sound:∀args bk c orc r,run args bk c orc=some r->(∀p∈r.obl,p)->∀th ρ wc w vals,Sat D w0 X th ρ wc w bk->(∀k b,bk.look k=some b->k<c)->(∀k,c<=k->k<r.c->ρ k=none)->denAs D ρ wc args vals->
  Calls P f vals.toArray w (Post D w0 X ρ wc w bk c r)
def Ctr.plain {D:Den} {P:Program} {w0:World} {X:Nat->Prop} (f:FuncId) (run:List SA->List (Nat×Blk)->List (Option Bool)->Option (SV×List Prop×List (Option Bool)))
    (sound:∀args bk orc v obl orc',run args bk orc=some (v,obl,orc')->(∀p∈obl,p)->∀ρ w vals,Frm w0 X w->BkOk D ρ w w bk->denAs D ρ w args vals->
     Calls P f vals.toArray w λe w'=>∃u,e=.returned u∧denV D ρ w' v u∧Below w.heap.size w w'):Ctr D P w0 X where
 f:=f
 run:=λargs bk c orc=>match run args bk orc with
  | some (v,obl,orc')=>some ⟨v,[],obl,orc',c,c,none⟩
  | none=>none
 cc:=by
  intro args bk c orc r h;split at h
  ·cases h;exact Yab _
  ·cases h
 sound:=by
  intro args bk c orc r h hobl th ρ wc w vals hS hlt hn hargs;split at h
  ·rename_i v obl orc' hr
   cases h;refine(sound _ _ _ _ _ _ hr hobl ρ w vals hS.fr (λk b hk hd=>?_) (hargs.mono (Nm.le.refl _) hS.ext)).mono ?_
   ·obtain⟨B,cs,h1,h2,h3,h4⟩:=hS.bkOk k b hk hd
    exact⟨B,cs,h1,h2,h3.mono (Nm.le.refl _) hS.ext,h4⟩
   ·rintro e w' ⟨u,rfl,hu,hb⟩
    obtain⟨k1,k2⟩:=hS.call hb c c (λk b hk=>Nat.not_le.2 (hlt k b hk));exact⟨u,ρ,w',rfl,hu,k1,k2⟩
  ·cases h
section
variable {D:Den} {P:Program} {w0:World} {X:Nat->Prop}
def specOf (f:FuncId):List (Ctr D P w0 X)->Option (Ctr D P w0 X)
 | []=>none
 | p::r=>if Nat.beq p.f f then some p else specOf f r
theorem Zj2 {f:FuncId}:∀{l:List (Ctr D P w0 X)} {p:Ctr D P w0 X},specOf f l=some p->p.f=f
 | [],p,h=>by cases h
 | q :: r, p, h => by
   unfold specOf at h;split at h
   ·rename_i e
    cases h;exact Ybe e
   ·exact Zj2 h
def frame0 (i:Nat):List SA->List (Nat×SV)
 | []=>[]
 | x::r=>(i,.a x)::frame0 (i+1) r
def resS (P:Program) (s:Stt):List ResultVar->Option (List SA)
 | []=>some []
 | .tmp t :: r => match s.tm.look t with
   | some (.a x)=>(resS P s r).map (x::·)
   | _=>none
 | .cell ad ty :: r => match loadS P ty (s.tm.look ad) s.bk with
   | some (.a x)=>(resS P s r).map (x::·)
   | _=>none
def resV:List SA->SV
 | [x]=>.a x
 | l=>.tup l
def FU:Nat:=100000
def specRun (sp:List (Ctr D P w0 X)) (f:FuncId) (args:List SA) (bk:List (Nat×Blk)) (c:Nat) (orc:List (Option Bool)):Option OpR:=
 match specOf f sp with
 | some p=>p.run args bk c orc
 | none=>none
def dedup (keep:Nat->Bool):List (Nat×Blk)->List Nat->List (Nat×Blk)
 | [],_=>[]
 | p::r,seen=>if mem seen p.1 then dedup keep r seen else if keep p.1 then p::dedup keep r (p.1::seen) else dedup keep r seen
theorem Zdc (keep:Nat->Bool) (k:Nat):∀(l:List (Nat×Blk)) (seen:List Nat),(dedup keep l seen).look k=if mem seen k=true then none else if keep k=true then l.look k else none
 | [],seen=>by simp[dedup]
 | (k', x) :: r, seen => by
   unfold dedup;dsimp only;split
   ·rename_i hm
    rw[Zdc keep k r seen,Zaz];by_cases e:k=k'
    ·subst e;rw[if_pos hm,if_pos hm]
    ·rw[if_neg e]
   ·rename_i hm
    split
    ·rename_i hk
     rw[Zaz,Zaz,Zdc keep k r (k'::seen)];by_cases e:k=k'
     ·subst e;rw[if_pos rfl,if_pos rfl,if_neg hm,if_pos hk]
     ·rw[if_neg e,if_neg e]
      have:(mem (k'::seen) k=true)↔(mem seen k=true):=by
       rw[mem_iff,mem_iff,Ycp];constructor
       ·rintro(h|h)
        ·exact absurd h e
        ·exact h
       ·exact .inr
      simp only[this]
    ·rename_i hk
     rw[Zdc keep k r seen,Zaz];by_cases e:k=k'
     ·subst e;rw[if_neg hk,if_neg hk]
     ·rw[if_neg e]
def tomb:Blk:=⟨0,[],false,true,true⟩
def tombs (m:List (Nat×Blk)):List (Nat×Blk)->List (Nat×Blk)
 | []=>[]
 | p :: r => match m.look p.1 with
   | none=>(p.1,tomb)::tombs m r
   | some _=>tombs m r
theorem Zh3 (m:List (Nat×Blk)) (k:Nat):∀l:List (Nat×Blk),(∀b,(tombs m l).look k=some b->b.dead=true)∧(m.look k=none->(l.look k).isSome=true->((tombs m l).look k).isSome=true)∧(l.look k=none->(tombs m l).look k=none)
 | []=>⟨λb h=>by simp[tombs]at h,λ_ h=>by simp at h,λ_=>rfl⟩
 | (k', x) :: r => by
   obtain⟨h1,h2,h3⟩:=Zh3 m k r;unfold tombs;dsimp only;cases hm:m.look k' with
   | none =>
     dsimp only;rw[Zaz,Zaz];by_cases e:k=k'
     ·rw[if_pos e,if_pos e]
      exact⟨(λb h=>by cases h;rfl),λ_ _=>rfl,λh=>by cases h⟩
     ·rw[if_neg e,if_neg e];exact⟨h1,h2,h3⟩
   | some y =>
     dsimp only;rw[Zaz];by_cases e:k=k'
     ·subst e
      exact⟨h1,(λhh=>by rw[hm]at hh;cases hh),λh=>by rw[if_pos rfl]at h;cases h⟩
     ·rw[if_neg e];exact⟨h1,h2,h3⟩
def isRec (o:Oper):Bool:=
 match o.op,o.guard with
 | .call ⟨.builtin .recover,⟨[]⟩,_⟩,none=>true
 | _,_=>false
def purS (P:Program) (n:Nat):List Oper->List (Nat×SV)->Option (List (Nat×SV))
 | [],tm=>some tm
 | o :: r, tm => match o.guard, evPure P o (getS tm) [] with
   | none,some x=>if dstOk n o.dst then purS P n r (putT tm o.dst x) else none
   | _,_=>none
def defS (P:Program) (cs:CallS) (ys:YEnv) (u:Option Value) (f:FuncId) (caps:List (Nat×Nat)) (s:Stt):Option (Stt×List Prop):=
 match P.funcs[f]? with
 | some fn => match fn.body with
   | some (.seq (.region _ ops false) rest) => match ops.toList with
     | o :: os => if isRec o && dstOk ((capsA caps).length + (fn.ntmps - (capsA caps).length)) o.dst && (u.getD .nilIface).oneCell' then
         match purS P ((capsA caps).length+(fn.ntmps-(capsA caps).length)) os (putT (frame0 0 (capsA caps)) o.dst (.a (.one (.val (u.getD .nilIface))))) with
         | some tm => (match evC P cs ys ((capsA caps).length + (fn.ntmps - (capsA caps).length)) FU false rest ⟨tm, s.bk, s.c, s.th, s.orc, []⟩ with
           | some (.norm, s2, q) => (match s2.df, resS P s2 fn.results.toList with
             | [],some _=>some (⟨s.tm,s2.bk,s2.c,s2.th,s2.orc,s.df⟩,q)
             | _,_=>none)
           | some (.ret, s2, q) => (match s2.df, resS P s2 fn.results.toList with
             | [],some _=>some (⟨s.tm,s2.bk,s2.c,s2.th,s2.orc,s.df⟩,q)
             | _,_=>none)
           | _=>none)
         | none=>none
       else none
     | []=>none
   | _=>none
 | none=>none
def leaveS (P:Program) (cs:CallS) (ys:YEnv):List DF->Option Value->Stt->Option (Option Value×Stt×List Prop)
 | [],u,s=>some (u,s,[])
 | .col _::r,u,s=>leaveS P cs ys r u s
 | .clo f caps :: r, u, s => match defS P cs ys u f caps s with
   | some (s1, q) => (match leaveS P cs ys r none s1 with
     | some (u',s2,q2)=>some (u',s2,q++q2)
     | none=>none)
   | none=>none
def keepS' (c:Nat) (l:List SA) (p m:List (Nat×Blk)):Nat->Bool:=
 let rs:=reach m 100000 (l.flatMap idsA++p.flatMap λe=>if Nat.blt e.1 c then e.2.cells.flatMap idsU else[]) []
 λk=>Nat.blt k c || mem rs k
def endS (P:Program) (cs:CallS) (ys:YEnv) (fn:Func) (bk:List (Nat×Blk)) (c:Nat) (u:Option Value) (s':Stt) (q:List Prop):Option OpR:=
 match leaveS P cs ys s'.df u s' with
 | some (some v,s2,q2)=>some ⟨.no,s2.bk,q++q2,s2.orc,s2.c,s2.th,some v⟩
 | some (none, s2, q2) => (match resS P s2 fn.results.toList with
   | some l => some ⟨resV l, (match u with
     | none=>dedup (keepS' c l (s2.bk.take (s2.bk.length-bk.length)) s2.bk) (s2.bk.take (s2.bk.length-bk.length)) []
     | some _=>dedup (keepS' c l s2.bk s2.bk) s2.bk []++tombs s2.bk bk),q++q2,s2.orc,s2.c,s2.th,none⟩
   | none=>none)
 | none=>none
structure Fct (D:Den) (P:Program) (w0:World) (X:Nat->Prop) where
 run:Oper->(Operand->Option SV)->Option SV
 sound:∀o get x,run o get=some x->∀ρ wc w ev,Frm w0 X w->(∀y z,get y=some z->denV D ρ wc z (ev y))->∃v,(execOp ev o).run P w=.ok (.value v) w∧denV D ρ wc x v
def fctRun:List (Fct D P w0 X)->Oper->(Operand->Option SV)->Option SV
 | [],_,_=>none
 | x :: l, o, get => match x.run o get with
   | some v=>some v
   | none=>fctRun l o get
theorem Zgu:∀{l:List (Fct D P w0 X)} {o:Oper} {get:Operand->Option SV} {x:SV},fctRun l o get=some x->∀ρ wc w ev,Frm w0 X w->(∀y z,get y=some z->denV D ρ wc z (ev y))->∃v,(execOp ev o).run P w=.ok (.value v) w∧denV D ρ wc x v
 | [],o,get,x,h=>by unfold fctRun at h;cases h
 | y :: l, o, get, x, h => by
   unfold fctRun at h;split at h
   ·rename_i v hv
    cases h;exact y.sound o get x hv
   ·exact Zgu h
def evF (P : Program) (sp : List (Ctr D P w0 X)) (fx : List (Fct D P w0 X)) : Nat -> CallF
 | 0=>λ_ _ _ _ _ _ _=>none
 | d + 1 => λys f args bk c th orc =>
   match specRun sp f args bk c orc with
   | some r=>some r
   | none => (match P.funcs[f]? with
     | some fn => (match fn.body with
       | some code => (match evC P ⟨evF P sp fx d, fctRun fx⟩ ys (args.length + (fn.ntmps - args.length)) FU false code ⟨frame0 0 args, bk, c, th, orc, []⟩ with
         | some (.exit _,_,_)=>none
         | some (.norm,s',q)=>endS P ⟨evF P sp fx d,fctRun fx⟩ ys fn bk c none s' q
         | some (.ret,s',q)=>endS P ⟨evF P sp fx d,fctRun fx⟩ ys fn bk c none s' q
         | some (.pan v,s',q)=>endS P ⟨evF P sp fx d,fctRun fx⟩ ys fn bk c (some v) s' q
         | none=>none)
       | none=>none)
     | none=>none)
theorem Zj3 {ρ:Nm} {w:World}:∀{l:List SA} {vs:List Value} {i t:Nat} {x:SV},denAs D ρ w l vs->(frame0 i l).look t=some x->∃v,i<=t∧vs[t-i]? = some v∧denV D ρ w x v
 | [],vs,i,t,x,h,hx=>by simp[frame0]at hx
 | y :: l, vs, i, t, x, ⟨v, r, e, hv, hr⟩, hx => by
   subst e;unfold frame0 at hx;rw[Zaz]at hx;split at hx
   ·rename_i e
    cases hx;subst e;exact⟨v,Yab _,Zs,hv⟩
   ·obtain⟨v',h1,h2,h3⟩:=Zj3 hr hx
    refine⟨v',Zo,?_,h3⟩;rw[show t-i=(t-(i+1))+1 by omega,List.getElem?_cons_succ];exact h2
theorem Zj4 {ρ:Nm} {w:World} {l:List SA} {vs:List Value} (h:denAs D ρ w l vs) (m:Nat) :
  TSat D ρ w (l.length+m) (frame0 0 l) {tmps:=vs.toArray++Array.replicate m undef,defers:=[]}:=by
 refine⟨by simp[h.len],λt x hx=>?_⟩;obtain⟨v,h1,h2,h3⟩:=Zj3 h hx;refine⟨v,?_,h3⟩;have ht:t<vs.length:=by
  have:=(Yan.1 h2).1;omega
 show(vs.toArray++Array.replicate m undef)[t]? = some v;rw[Array.getElem?_append_left (by simpa using ht)];simpa using h2
def resOf (a:Act):ResultVar->Sem Value
 | .tmp t=>pure (a.tmps.getD t undef)
 | .cell ad t=>do loadVar t (<-asAddr (a.tmps.getD ad undef))
theorem Zll {ρ:Nm} {wc w:World} {n:Nat} {s:Stt} {a:Act} (hT:TSat D ρ wc n s.tm a) (hB:BkOk D ρ wc w s.bk):∀{l:List ResultVar} {xs:List SA},resS P s l=some xs->
  ∃vs,(l.mapM (resOf a)).run P w=.ok vs w∧denAs D ρ wc xs vs
 | [],xs,h=>by cases h;exact⟨[],rfl,rfl⟩
 | .tmp t :: r, xs, h => by
   unfold resS at h;split at h
   ·rename_i x hx
    obtain⟨ys,hy,rfl⟩:=Yad.1 h;obtain⟨vs,h1,h2⟩:=Zll hT hB hy;refine⟨a.tmps.getD t undef::vs,?_,_,_,rfl,hT.get (x:=.tmp t) hx,h2⟩;have h6:(resOf a (.tmp t)).run P w=.ok (a.tmps.getD t undef) w:=rfl;rw[List.mapM_cons];simp only[Yar,h6,h1,Yag,Yau]
   ·cases h
 | .cell ad ty :: r, xs, h => by
   unfold resS at h;split at h
   ·rename_i x hx
    obtain⟨ys,hy,rfl⟩:=Yad.1 h;obtain⟨vs,h1,h2⟩:=Zll hT hB hy;obtain⟨v,h3,h4⟩:=Zmt (P:=P) (get:=getS s.tm) (ev:=a.eval) (x:=.tmp ad) (λx z hz=>hT.get hz) hB hx;refine⟨v::vs,?_,_,_,rfl,h4,h2⟩;have e:∃p,a.tmps.getD ad undef=.pointer (some p):=by
     have hx':=hx;unfold loadS at hx';split at hx'
     ·rename_i k off hk
      obtain⟨B,hB,e⟩:=hT.get (x:=.tmp ad) hk;have e2:a.eval (.tmp ad)=.pointer (some ⟨B.blk,B.base+off,none⟩):=by simpa using e
      exact⟨_,e2⟩
     ·cases hx'
    obtain⟨p,e⟩:=e;have h5:(loadVar ty p).run P w=.ok v w:=by
     have:a.eval (.tmp ad)=.pointer (some p):=e;rw[this]at h3;exact h3
    have h6:(resOf a (.cell ad ty)).run P w=.ok v w:=by
     show(do loadVar ty (<-asAddr (a.tmps.getD ad undef)):Sem Value).run P w=_;rw[e];exact h5
    rw[List.mapM_cons];simp only[Yar,h6,h1,Yag,Yau]
   ·cases h
theorem Zfg {ρ:Nm} {wc w:World} {n:Nat} {s:Stt} {a:Act} (hT:TSat D ρ wc n s.tm a) (hB:BkOk D ρ wc w s.bk) {fn:Func} {xs:List SA} (h:resS P s fn.results.toList=some xs) :
  ∃v,(results fn a.tmps).run P w=.ok v w∧denV D ρ wc (resV xs) v:=by
 obtain⟨vs,h1,h2⟩:=Zll (P:=P) hT hB h
 have hres:results fn a.tmps=(do
   let vs <-fn.results.mapM (resOf a)
   pure (if h:vs.size=1 then vs[0] else .tuple vs)):=by
  unfold results;congr 1
 rw[hres,Array.mapM_eq_mapM_toList];refine⟨if h:vs.toArray.size=1 then vs.toArray[0] else .tuple vs.toArray,?_,?_⟩
 ·simp only[Yar,map_eq_pure_bind,h1,Yag,Yau]
 ·match xs,vs,h2 with
  | [], vs, h2 =>
    obtain rfl:vs=[]:=h2;exact⟨[],rfl,rfl⟩
  | [x], vs, h2 =>
    obtain⟨v,r,e,hv,hr⟩:=h2;obtain rfl:r=[]:=hr;subst e;exact hv
  | x :: y :: l, vs, h2 =>
    have h3:=h2.len;rw[dif_neg (by simp[h3])];exact⟨vs,rfl,h2⟩
variable {cs:CallS} {ys:YEnv} {n:Nat}
theorem Zm5 (hcc:∀ys f args bk c th orc r,cs.call ys f args bk c th orc=some r->c<=r.c) {u:Option Value} {f:FuncId} {caps:List (Nat×Nat)} {s s':Stt} {q:List Prop} (h:defS P cs ys u f caps s=some (s',q)):s.c<=s'.c∧∃l,s'.bk=l++s.bk:=by
 unfold defS at h;split at h
 ·split at h
  ·split at h
   ·split at h
    ·split at h
     ·split at h
      ·rename_i hev
       split at h
       ·cases h
        have:=Zcf hcc hev;exact⟨this.1,this.2 (λv=>Zs)⟩
       ·cases h
      ·rename_i hev
       split at h
       ·cases h
        have:=Zcf hcc hev;exact⟨this.1,this.2 (λv=>Zs)⟩
       ·cases h
      ·cases h
     ·cases h
    ·cases h
   ·cases h
  ·cases h
 ·cases h
theorem Zca (hcc:∀ys f args bk c th orc r,cs.call ys f args bk c th orc=some r->c<=r.c):∀{df:List DF} {u u':Option Value} {s s':Stt} {q:List Prop},leaveS P cs ys df u s=some (u',s',q)->s.c<=s'.c∧∃l,s'.bk=l++s.bk
 | [],u,u',s,s',q,h=>by cases h;exact⟨Yab _,[],rfl⟩
 | .col _::r,u,u',s,s',q,h=>Zca hcc (df:=r) h
 | .clo f caps :: r, u, u', s, s', q, h => by
   unfold leaveS at h;split at h
   ·rename_i s1 q1 h1
    split at h
    ·rename_i u2 s2 q2 h2
     cases h;obtain⟨c1,l1,e1⟩:=Zm5 hcc h1;obtain⟨c2,l2,e2⟩:=Zca hcc h2;exact⟨Yak c1 c2,l2++l1,by rw[e2,e1,Ybx]⟩
    ·cases h
   ·cases h
def modeOf:Option Value->FrameMode
 | none=>.returning
 | some v=>.panicking [{v:=v,recovered:=false}]
theorem Zqg {ops:Array Oper} {Q:Exit->Act->List Frame->World->Prop} {D:Den} {ρ:Nm} {wc w:World} {c0:List Frame}:∀{l:List Oper} {k:Nat} {tm tm':List (Nat×SV)} {a:Act},purS P n l tm=some tm'->(∀j,l[j]? = ops[k+j]?)->TSat D ρ wc n tm a->
  (∀a',TSat D ρ wc n tm' a'->a'.defers=a.defers->Q .normal a' c0 w)->wpOpsSIn (WF none) 0 P ops Q (List.range' k l.length) a c0 w
 | [],k,tm,tm',a,h,hl,hT,hK=>by cases h;exact hK a hT rfl
 | o :: r, k, tm, tm', a, h, hl, hT, hK => by
   unfold purS at h;split at h
   ·rename_i x hg hx
    split at h
    ·rename_i hd
     have h0:ops[k]? = some o:=by simpa using(hl 0).symm
     obtain⟨v,h1,h2⟩:=Zjw (P:=P) (D:=D) (ρ:=ρ) (wc:=wc) (w:=w) (bk:=[]) (ev:=a.eval) (λx z hz=>hT.get hz) (λk b hk=>by simp at hk) hx;simp only[Ybm,List.range'_succ,wpOpsSIn,h0];refine⟨λ_ _=>trivial,?_⟩;rw[if_pos (by simp[Region.wanted,hg]),h1];refine Zqg h (λj=>by have:=hl (j+1);simpa[Ybj,Yfb 1 j]using this) (hT.put hd h2) λa' k1 k2=>hK a' k1 (k2.trans ?_);cases o.dst<;>rfl
    ·cases h
   ·cases h
theorem Zlm {P:Program} {o:Oper} {ev:Operand->Value} {w:World} (h:isRec o=true):(execOp ev o).run P w=.ok .recover w∧o.guard=none:=by
 unfold isRec at h;split at h
 ·rename_i ts ho hg
  refine⟨?_,hg⟩;unfold execOp;simp only[ho,resolve,Yar,Yau,Yag,invoke,builtin]
 ·cases h
theorem Zvi (hcs:CallOk D P w0 X cs) (hcc:∀ys f args bk c th orc r,cs.call ys f args bk c th orc=some r->c<=r.c) (hm:P.follows .mixedOrders=true) {u:Option Value} {f:FuncId} {caps:List (Nat×Nat)} {s s':Stt} {q:List Prop} (h:defS P cs ys u f caps s=some (s',q)) (hq:∀p∈q,p)
  {bd:Nat} {ρ:Nm} {wc w:World} (hS:Sat D w0 X s.th ρ wc w s.bk) (hY:YOk D P w0 X bd ys ρ wc w) (hn:∀k,s.c<=k->k<s'.c->ρ k=none) {vs:List Value} (hvs:adrs ρ caps vs) {R:Ending->FrameMode->World->Prop}
  (hR:∀v u' ρ' wc' w',settle u'=.returning->Sat D w0 X s'.th ρ' wc' w' s'.bk->Evo ρ wc w s.bk s.c s'.c ρ' wc' w' s'.bk->R (.returned v) u' w'):CallsDIn (WF none) 0 P f vs.toArray (modeOf u) w R:=by
 unfold defS at h;split at h
 ·rename_i fn hf
  split at h
  ·rename_i id ops rest hb
   split at h
   ·rename_i o os hops
    split at h
    ·rename_i hc
     rw[Yam,Yam]at hc;obtain⟨⟨hrec,hdst⟩,hone⟩:=hc;split at h
     ·rename_i tm htm
      have hargs:denAs D ρ wc (capsA caps) vs:=Zf6 hvs;have hsz:vs.toArray.size=(capsA caps).length:=by simp[hargs.len]
      refine callsDIn_of_wpSIn hf hb trivial λc₀ cs0 hu=>?_;rw[hsz];have hT0:=Zj4 (D:=D) (ρ:=ρ) (w:=wc) hargs (fn.ntmps-(capsA caps).length);have hoo:ops[0]? = some o:=by rw[<-Yaq,hops];rfl
      have hlen:ops.size=os.length+1:=by rw[<-Yaz,hops];rfl
      have fin:∀u',settle u'=.returning->wpOpsSIn (WF none) 0 P ops (Exit.thenS (rest.wpSIn (WF none) 0 P (bodyPostS P fn c₀ cs0 R)) (bodyPostS P fn c₀ cs0 R)) (List.range' 1 os.length)
        (({tmps:=vs.toArray++Array.replicate (fn.ntmps-(capsA caps).length) undef,defers:=[]}:Act).put o.dst (u.getD .nilIface)) ({c₀ with mode:=u'}::cs0) w:=by
       intro u' hu';refine Zqg (D:=D) (ρ:=ρ) (wc:=wc) htm (λj=>?_) (hT0.put hdst ⟨rfl,hone⟩) λa' k1 k2=>?_
       ·rw[<-Yaq,hops,Yfb 1 j,List.getElem?_cons_succ]
       ·have hd0:a'.defers=[]:=k2.trans (by cases o.dst<;>rfl)
        show rest.wpSIn (WF none) 0 P _ a' _ w;refine wpSIn_of_wpIn rfl ?_;split at h
        ·rename_i s2 q2 hev
         split at h
         ·rename_i xs hdf hres
          cases h;refine Zm4 hcs hcc hm FU false rest _ s2 .norm _ bd 0 ρ wc w a' _ none (Yat _) (λ_=>rfl) hev hq hS hY k1 hd0 hn ?_;intro ρ' wc' w' a2 m1 m2 m3 m4;rw[hdf]at m3;obtain⟨v,hv1,hv2⟩:=Zfg (P:=P) m2 m1.bkOk hres;exact⟨m3,u',rfl,v,hv1,hR v u' ρ' wc' w' hu' m1 m4⟩
         ·cases h
        ·rename_i s2 q2 hev
         split at h
         ·rename_i xs hdf hres
          cases h;refine Zm4 hcs hcc hm FU false rest _ s2 .ret _ bd 0 ρ wc w a' _ none (Yat _) (λ_=>rfl) hev hq hS hY k1 hd0 hn ?_;intro ρ' wc' w' a2 m1 m2 m3 m4;rw[hdf]at m3;obtain⟨v,hv1,hv2⟩:=Zfg (P:=P) m2 m1.bkOk hres;exact⟨m3,u',rfl,v,hv1,hR v u' ρ' wc' w' hu' m1 m4⟩
         ·cases h
        ·cases h
      apply wpSIn_seq;apply wpSIn_region;rw[hlen,List.range_eq_range',List.range'_succ];simp only[wpOpsSIn,hoo];obtain⟨hrun,hg⟩:=Zlm (P:=P) (ev:=({tmps:=vs.toArray++Array.replicate (fn.ntmps-(capsA caps).length) undef,defers:=[]}:Act).eval) (w:=w) hrec;refine⟨λ_ _=>trivial,?_⟩;rw[if_pos (by simp[Region.wanted,hg]),hrun];dsimp only;cases u with
      | none =>
        have hr:recoverD (c₀::cs0)=none:=by simp only[recoverD,hu,modeOf]
        rw[hr];have:=fin .returning rfl;rw[show({c₀ with mode:=.returning}:Frame)=c₀ from by
         cases c₀;simp only[modeOf]at hu;subst hu;rfl]at this
        exact this
      | some v =>
        have hr:recoverD (c₀::cs0)=some (v,{c₀ with mode:=.panicking [{v:=v,recovered:=true}]}::cs0):=by simp only[recoverD,hu,modeOf]
        rw[hr];exact fin _ rfl
     ·cases h
    ·cases h
   ·cases h
  ·cases h
 ·cases h
theorem Zes (hcs:CallOk D P w0 X cs) (hcc:∀ys f args bk c th orc r,cs.call ys f args bk c th orc=some r->c<=r.c) (hm:P.follows .mixedOrders=true) {fn:Func} {tmps:Array Value} {R:Ending->World->Prop} {ρB:Nm} {wcB wB:World} {bkB:List (Nat×Blk)} {cB:Nat}
  (hB:∀k b,Liv bkB k b->∃B,ρB k=some B) (h0:w0.heap.size<=wB.heap.size):∀{df:List DF} {u u':Option Value} {s s':Stt} {q:List Prop} {bd:Nat} {ρ:Nm} {wc w:World} {ds:List Deferred},
  leaveS P cs ys df u s=some (u',s',q)->(∀p∈q,p)->Sat D w0 X s.th ρ wc w s.bk->YOk D P w0 X bd ys ρ wc w->DfOk P wB.heap.size ρ w df ds->(∀k,s.c<=k->k<s'.c->ρ k=none)->Evo ρB wcB wB bkB cB s.c ρ wc w s.bk->
  (∀ρ' wc' w',ρ.le ρ'->Ext wc wc'->Sat D w0 X s'.th ρ' wc' w' s'.bk->Evo ρB wcB wB bkB cB s'.c ρ' wc' w' s'.bk->LeavesInM (WF none) 0 P fn tmps R [] (modeOf u') w')->LeavesInM (WF none) 0 P fn tmps R ds (modeOf u) w
 | [], u, u', s, s', q, bd, ρ, wc, w, ds, h, hq, hS, hY, hD, hn, hE, hK => by
   cases h;rw[show ds=[] from hD];exact hK ρ wc w (Nm.le.refl _) (Ext.refl _) hS hE
 | .col k :: r, u, u', s, s', q, bd, ρ, wc, w, ds, h, hq, hS, hY, ⟨B, d, h1, h2, hm0, hb, h3, h4⟩, hn, hE, hK => by
   unfold leaveS at h;subst h1;refine⟨by cases u<;>simp[modeOf],.inl ⟨B.blk,_,rfl,run_takeDeferred h3,?_⟩⟩;refine Zes hcs hcc hm hB h0 h hq (hS.putObj h3 rfl Zo _) (hY.step (Nm.le.refl _) (Ext.refl _) λl lp _ hl=>?_) (h4.step (Nm.le.refl _) λl ⟨x,hx,e⟩ hl=>?_) hn (hE.putNew hm0 _) hK
   ·rw[World.putObj_heap_other ?_]
    ·exact hl
    ·intro e;subst e;rw[h3]at hl;cases hl
   ·rw[World.putObj_heap_other ?_]
    ·exact hl
    ·have:=hb x hx l e
     omega
 | .clo f caps :: r, u, u', s, s', q, bd, ρ, wc, w, ds, h, hq, hS, hY, ⟨vs, d, h1, h2, h3, h4⟩, hn, hE, hK => by
   unfold leaveS at h;subst h1;split at h
   ·rename_i s1 q1 hd
    split at h
    ·rename_i u2 s2 q2 hl
     cases h;have c1:=(Zm5 hcc hd).1;have c2:=(Zca hcc hl).1;refine⟨by cases u<;>simp[modeOf],.inr ⟨(λhh=>by cases hh),.func f,vs.toArray,f,vs.toArray,rfl,?_,λ_ _=>trivial,?_⟩⟩
     ·simp[invoke,Zfd h3]
     ·refine Zvi hcs hcc hm hd (λp hp=>hq p (by simp[hp])) hS hY (λk k1 k2=>hn k k1 Zo) h2 ?_
      intro v u3 ρ' wc' w' hset k1 k2;dsimp only;rw[hset];refine Zes (u:=none) hcs hcc hm hB h0 hl (λp hp=>hq p (by simp[hp])) k1 (hY.evo hS k2) (h4.evo hS k2) (λk j1 j2=>?_) (hE.trans k2 hB) λρ2 wc2 w2 g1 g2 g3 g4=>hK ρ2 wc2 w2 (k2.rho.trans g1) (k2.ext.trans g2) g3 g4;rw[k2.dom k (.inr j1)];exact hn k Zo j2
    ·cases h
   ·cases h
theorem Zn1 {sp:List (Ctr D P w0 X)} {f:FuncId} {args:List SA} {bk:List (Nat×Blk)} {c:Nat} {orc:List (Option Bool)} {r:OpR} (h:specRun sp f args bk c orc=some r):c<=r.c:=by
 unfold specRun at h;split at h
 ·rename_i p hp
  exact p.cc _ _ _ _ _ h
 ·cases h
theorem Zit {cs:CallS} (hcc:∀ys f args bk c th orc r,cs.call ys f args bk c th orc=some r->c<=r.c) {fn:Func} {bk:List (Nat×Blk)} {c:Nat} {u:Option Value} {s':Stt} {q:List Prop} {r:OpR} (h:endS P cs ys fn bk c u s' q=some r):s'.c<=r.c:=by
 unfold endS at h;split at h
 ·rename_i hl
  cases h;exact(Zca hcc hl).1
 ·rename_i hl
  split at h
  ·cases h
   exact(Zca hcc hl).1
  ·cases h
 ·cases h
theorem Zqh (sp:List (Ctr D P w0 X)) (fx:List (Fct D P w0 X)):∀d,∀ys f args bk c th orc r,evF P sp fx d ys f args bk c th orc=some r->c<=r.c
 | 0,ys,f,args,bk,c,th,orc,r,h=>by simp[evF]at h
 | d + 1, ys, f, args, bk, c, th, orc, r, h => by
   have hcc:=Zqh sp fx d;simp only[evF]at h;split at h
   ·rename_i hs
    cases h;exact Zn1 hs
   ·split at h
    ·split at h
     ·split at h
      ·cases h
      ·rename_i hev
       exact Yak (Zcf (cs:=⟨evF P sp fx d,fctRun fx⟩) hcc hev).1 (Zit (cs:=⟨evF P sp fx d,fctRun fx⟩) hcc h)
      ·rename_i hev
       exact Yak (Zcf (cs:=⟨evF P sp fx d,fctRun fx⟩) hcc hev).1 (Zit (cs:=⟨evF P sp fx d,fctRun fx⟩) hcc h)
      ·rename_i hev
       exact Yak (Zcf (cs:=⟨evF P sp fx d,fctRun fx⟩) hcc hev).1 (Zit (cs:=⟨evF P sp fx d,fctRun fx⟩) hcc h)
      ·cases h
     ·cases h
    ·cases h
theorem Zvj (hcs:CallOk D P w0 X cs) (hcc:∀ys f args bk c th orc r,cs.call ys f args bk c th orc=some r->c<=r.c) (hm:P.follows .mixedOrders=true) {fn:Func} {bk:List (Nat×Blk)} {c:Nat} {u:Option Value} {s':Stt} {q:List Prop} {r:OpR} (h:endS P cs ys fn bk c u s' q=some r) (hq:∀p∈r.obl,p)
  (hlt:∀k b,bk.look k=some b->k<c) (hsuf:u=none->∃l,s'.bk=l++bk) {th:Nat} {ρ:Nm} {wc w:World} (hS:Sat D w0 X th ρ wc w bk) (hn:∀k,c<=k->k<r.c->ρ k=none) (hcs':c<=s'.c)
  {bd:Nat} {ρ':Nm} {wc' w':World} {a:Act} (k1:Sat D w0 X s'.th ρ' wc' w' s'.bk) (hY:YOk D P w0 X bd ys ρ' wc' w') (k2:TSat D ρ' wc' n s'.tm a) (k3:DfOk P w.heap.size ρ' w' s'.df a.defers) (k4:Evo ρ wc w bk c s'.c ρ' wc' w' s'.bk) :
  LeavesInM (WF none) 0 P fn a.tmps (Post D w0 X ρ wc w bk c r) a.defers (modeOf u) w':=by
 have tmS:∀{df:List DF} {u u':Option Value} {s s2:Stt} {q:List Prop},leaveS P cs ys df u s=some (u',s2,q)->s2.tm=s.tm:=by
  intro df;induction df with
  | nil=>intro u u' s s2 q h;cases h;rfl
  | cons x r ih =>
    intro u u' s s2 q h;cases x with
    | col k=>exact ih (by unfold leaveS at h;exact h)
    | clo f caps =>
      unfold leaveS at h;split at h
      ·rename_i s1 q1 hd
       split at h
       ·rename_i hl
        cases h;rw[ih hl];unfold defS at hd;repeat' (split at hd)
        all_goals first|contradiction|(cases hd;rfl)
       ·cases h
      ·cases h
 unfold endS at h;split at h
 ·rename_i v s2 q2 hl
  cases h;have c2:=(Zca hcc hl).1;refine Zes hcs hcc hm hS.named hS.fr.size hl (λp hp=>hq p (by simp[hp])) k1 hY k3 (λk j1 j2=>by rw[k4.dom k (.inr j1)];exact hn k Zo j2) k4 ?_;intro ρ2 wc2 w2 g1 g2 g3 g4;exact⟨undef,ρ2,wc2,rfl,trivial,g3,g4⟩
 ·rename_i s2 q2 hl
  split at h
  ·rename_i xs hres
   cases h;obtain⟨c2,l2,hl2⟩:=Zca hcc hl;refine Zes hcs hcc hm hS.named hS.fr.size hl (λp hp=>hq p (by simp[hp])) k1 hY k3 (λk j1 j2=>by rw[k4.dom k (.inr j1)];exact hn k Zo j2) k4 ?_;intro ρ2 wc2 w2 g1 g2 g3 g4;have hT2:TSat D ρ2 wc2 n s2.tm {tmps:=a.tmps,defers:=[]}:=by
    rw[tmS hl];exact⟨k2.size,(k2.mono g1 g2).at_⟩
   obtain⟨v,hv1,hv2⟩:=Zfg (P:=P) hT2 g3.bkOk hres;refine⟨v,hv1,v,ρ2,wc2,rfl,hv2,?_⟩
   have hsub:∀keep:Nat->Bool,(∀k,k<c->keep k=true)->Sub' ((match u with
     | none=>dedup keep (s2.bk.take (s2.bk.length-bk.length)) []
     | some _=>dedup keep s2.bk []++tombs s2.bk bk)++bk) s2.bk:=by
    intro keep hkeep k b hk;obtain⟨hk,hdd⟩:=hk;refine⟨?_,hdd⟩;rw[Zbc]at hk;cases u with
    | none =>
      dsimp only at hk;obtain⟨l,hl'⟩:=hsuf rfl;have e:s2.bk=(l2++l)++bk:=by rw[hl2,hl',Ybx]
      have e2:s2.bk.take (s2.bk.length-bk.length)=l2++l:=by rw[e,Yay,Ybf,List.take_left]
      rw[e2,Zdc]at hk;rw[e,Zbc];simp only[mem,List.any_nil,Ybq,if_false]at hk;by_cases hkp:keep k=true
      ·rw[if_pos hkp]at hk;exact hk
      ·rw[if_neg hkp,Ydd]at hk
       exact absurd (hkeep k (hlt k b hk)) hkp
    | some v =>
      dsimp only at hk;obtain⟨t1,t2,t3⟩:=Zh3 s2.bk k bk;rw[Zbc,Zdc]at hk;simp only[mem,List.any_nil,Ybq,if_false]at hk;have lateT:∀{z:Option Blk},(z.or ((tombs s2.bk bk).look k)).or (bk.look k)=some b->z=none->s2.bk.look k=none∨keep k≠true->False:=by
       intro z hz hzn hor;subst hzn;rw[Ydd]at hz;cases ht:(tombs s2.bk bk).look k with
       | some y =>
         rw[ht,Ydk]at hz;cases hz;rw[t1 _ ht]at hdd;cases hdd
       | none =>
         rw[ht,Ydd]at hz;rcases hor with h|h
         ·have:=t2 h (by rw[hz];rfl)
          rw[ht]at this;cases this
         ·exact h (hkeep k (hlt k b hz))
      by_cases hkp:keep k=true
      ·rw[if_pos hkp]at hk
       cases hsk:s2.bk.look k with
       | some y =>
         rw[hsk,Ydk,Ydk]at hk;exact hk
       | none =>
         rw[hsk]at hk;exact(lateT hk rfl (.inl hsk)).elim
      ·rw[if_neg hkp]at hk
       exact(lateT hk rfl (.inr hkp)).elim
   have hkc:∀(l:List SA) (p m:List (Nat×Blk)) k,k<c->keepS' c l p m k=true:=by
    intro l p m k hk;unfold keepS';rw[Ybo];exact .inl (by rw[Nat.blt_eq];exact hk)
   cases u with
   | none =>
     have hs:=hsub _ (hkc xs (s2.bk.take (s2.bk.length-bk.length)) s2.bk);exact⟨g3.sub' hs,g4.sub' hs⟩
   | some v =>
     have hs:=hsub _ (hkc xs s2.bk s2.bk);exact⟨g3.sub' hs,g4.sub' hs⟩
  ·cases h
 ·cases h
theorem Zm6 (hm:P.follows .mixedOrders=true) (sp:List (Ctr D P w0 X)) (fx:List (Fct D P w0 X)):∀d,CallFOk D P w0 X (evF P sp fx d)
 | 0=>λys f args bk c th orc r h=>by simp[evF]at h
 | d + 1 => by
   have ih:CallOk D P w0 X ⟨evF P sp fx d,fctRun fx⟩:=⟨Zm6 hm sp fx d,λo get x h=>Zgu h⟩
   have hcc:=Zqh sp fx d;intro ys f args bk c th orc r h hobl bd ρ wc w vals hS hY hlt hth hn hargs;simp only[evF]at h;split at h
   ·rename_i r' hsr
    cases h;unfold specRun at hsr;split at hsr
    ·rename_i p hp
     obtain rfl:=Zj2 hp;exact p.sound _ _ _ _ _ hsr hobl th ρ wc w vals hS hlt hn hargs
    ·cases hsr
   ·split at h
    ·rename_i fn hf
     split at h
     ·rename_i code hb
      have hsz:vals.toArray.size=args.length:=by simp[hargs.len]
      have main:∀{o:Ot} {s':Stt} {q:List Prop} {u:Option Value},evC P ⟨evF P sp fx d,fctRun fx⟩ ys (args.length+(fn.ntmps-args.length)) FU false code ⟨frame0 0 args,bk,c,th,orc,[]⟩=some (o,s',q)->endS P ⟨evF P sp fx d,fctRun fx⟩ ys fn bk c u s' q=some r->
        (∀a w',LeavesInM (WF none) 0 P fn a.tmps (Post D w0 X ρ wc w bk c r) a.defers (modeOf u) w'->bodyPostM (WF none) 0 P fn (Post D w0 X ρ wc w bk c r) o.ex a w')->(u=none->∀v,o≠.pan v)->Calls P f vals.toArray w (Post D w0 X ρ wc w bk c r):=by
       intro o s' q u hev hend hex hou;obtain⟨p1,p2⟩:=Zcf (cs:=⟨evF P sp fx d,fctRun fx⟩) hcc hev;have c2:=Zit (cs:=⟨evF P sp fx d,fctRun fx⟩) hcc hend;have hq:∀p∈q,p:=λp hp=>hobl p (by
        unfold endS at hend;split at hend
        ·cases hend;simp[hp]
        ·split at hend
         ·cases hend;simp[hp]
         ·cases hend
        ·cases hend)
       refine callsIn_WF (ro:=none) (n:=0) |>.1 (callsIn_of_wp_marks hf hb trivial ?_ rfl)
       rw[hsz];refine Zm4 ih hcc hm FU false code _ s' o q bd w.heap.size ρ wc w _ _ none (Yab _) (λ_=>rfl) hev hq hS hY (Zj4 hargs _) rfl (λk j1 j2=>hn k j1 Zo) ?_;intro ρ' wc' w' a' k1 k2 k3 k4;exact hex a' w' (Zvj ih hcc hm hend hobl hlt (λhu=>p2 (hou hu)) hS hn p1 k1 (hY.evo hS k4) k2 k3 k4)
      split at h
      ·cases h
      ·rename_i s' q hev
       exact main hev h (λa w' hl=>hl) (λ_ v=>Zs)
      ·rename_i s' q hev
       exact main hev h (λa w' hl=>hl) (λ_ v=>Zs)
      ·rename_i v s' q hev
       exact main hev h (λa w' hl=>hl) (λhu=>by cases hu)
      ·cases h
     ·cases h
    ·cases h
end
end
section
def AllP:List Prop->Prop
 | []=>True
 | p::r=>p∧AllP r
theorem AllP.all:∀{l:List Prop},AllP l->∀p∈l,p
 | [],_,p,h=>by cases h
 | x :: r, ⟨hx, hr⟩, p, h => by
   rcases Ycp.1 h with rfl|h
   ·exact hx
   ·exact AllP.all hr p h
theorem Zqi {D:Den} {P:Program} (hm:P.follows .mixedOrders=true) {w:World} (sp:List (Ctr D P w (λ_=>False))) (fx:List (Fct D P w (λ_=>False))) {f:FuncId} {d:Nat} {args:List SA} {orc:List (Option Bool)} (V:SV) (L:List Prop)
  (hev:(evF P sp fx d [] f args [] 0 0 orc).map (λr=>(r.v,r.obl,r.pan))=some (V,L,none)) (hL:AllP L) {vals:List Value} (hargs:denAs D (λ_=>none) w args vals) :
  Calls P f vals.toArray w λe w'=>∃v ρ',e=.returned v∧denV D ρ' w' V v∧Below w.heap.size w w':=by
 obtain⟨r,hr,he⟩:=Yad.1 hev;simp only[Yco]at he;obtain⟨rfl,rfl,hpan⟩:=he;have hS:Sat D w (λ_=>False) 0 (λ_=>none) w w []:=⟨Frm.refl _ _,Ext.refl _,(λ_ _ _ _ _ _ h=>by have:=h.1;simp at this),(λ_ _ h=>by cases h),λ_ _ h=>by have:=h.1;simp at this⟩
 refine(Zm6 hm sp fx d [] f args [] 0 0 orc _ hr hL.all 0 (λ_=>none) w w vals hS trivial (λk b hk=>by simp at hk) (Yab _) (λ_ _ _=>rfl) hargs).mono ?_;rintro e w' ⟨u,ρ',wc',hend,hu,k1,k2⟩;unfold OpR.ends at hend;rw[hpan]at hend;exact⟨u,ρ',hend,hu.mono (Nm.le.refl _) k1.ext,⟨k2.os,k2.tape,k2.output,k2.size,λi hi=>k2.loc i hi λk b B hk=>by have:=hk.1;simp at this⟩⟩
section
variable {D:Den} {w0:World} {X:Nat->Prop} {th:Nat} {ρ:Nm} {wc w:World} {bk:List (Nat×Blk)}
theorem Sat.view (h:Sat D w0 X th ρ wc w bk) {k:Nat} (hk:ρ k=none) (T:TypeId) {l:List U} {cs:List Value} {b off:Nat} (hb:b<w.heap.size) (hne:∀j B,ρ j=some B->B.ro=false->B.blk≠b)
  (hr:w.rangeAt b off cs) (hl:denL D ρ wc l cs) (hth:∀j x,bk.look j=some x->j<k) :
  Sat D w0 X (k+1) (addNm ρ k ⟨b,off,true,0,0⟩) wc w ((k,⟨T,l,true,false,false⟩)::bk):=by
 have hle:=Zdx (B:=⟨b,off,true,0,0⟩) hk;have hnew:=Zbf ρ k ⟨b,off,true,0,0⟩;refine⟨h.fr,h.ext,?_,?_,?_⟩
 ·intro j j' x x' B B' hj hj' h1 h2 he
  rcases Zbu hj with ⟨e1,_,_⟩|⟨e1,hj⟩<;>rcases Zbu hj' with ⟨e2,_,_⟩|⟨e2,hj'⟩
  ·exact .inl (by rw[e1,e2])
  ·subst e1
   rw[hnew]at h1;rw[Zax _ _ e2]at h2;cases h1;refine .inr ⟨rfl,?_⟩;cases hro:B'.ro with
   | true=>rfl
   | false=>exact absurd he.symm (hne j' B' h2 hro)
  ·subst e2
   rw[Zax _ _ e1]at h1;rw[hnew]at h2;cases h2;refine .inr ⟨?_,rfl⟩;cases hro:B.ro with
   | true=>rfl
   | false=>exact absurd he (hne j B h1 hro)
  ·rw[Zax _ _ e1]at h1;rw[Zax _ _ e2]at h2
   exact h.inj j j' x x' B B' hj hj' h1 h2 he
 ·intro j B h1
  by_cases e1:j=k
  ·subst e1;rw[hnew]at h1;cases h1;exact hb
  ·rw[Zax _ _ e1]at h1
   exact h.lt j B h1
 ·intro j x hj
  rcases Zbu hj with ⟨rfl,rfl,_⟩|⟨e1,hj⟩
  ·exact⟨_,cs,hnew,.inl ⟨rfl,hr⟩,hl.mono hle (Ext.refl _),(λhh=>by cases hh),(λ_ hh=>Zo),rfl⟩
  ·obtain⟨B,cs',h1,h2,h3,h4,h5,h6⟩:=h.box j x hj
   exact⟨B,cs',hle j B h1,h2,h3.mono hle (Ext.refl _),h4,(λ_ hh=>by have:=hth j x hj.1;omega),h6⟩
end
end
structure Vw where
 T:TypeId
 l:List U
 blk:Nat
 off:Nat
 cs:List Value
def nmV (vs:List Vw):Nm:=λk=>(vs[k]?).map λv=>⟨v.blk,v.off,true,0,0⟩
def bkV:Nat->List Vw->List (Nat×Blk)
 | _,[]=>[]
 | k,v::r=>(k,⟨v.T,v.l,true,false,false⟩)::bkV (k+1) r
theorem Zev:∀{vs:List Vw} {i k:Nat} {b:Blk},(bkV i vs).look k=some b->∃v,i<=k∧vs[k-i]? = some v∧b=⟨v.T,v.l,true,false,false⟩
 | [],i,k,b,h=>by simp[bkV]at h
 | v :: r, i, k, b, h => by
   unfold bkV at h;rw[Zaz]at h;split at h
   ·rename_i e
    subst e;cases h;exact⟨v,Yab _,Zs,rfl⟩
   ·rename_i e
    obtain⟨u,h1,h2,h3⟩:=Zev h;refine⟨u,Zo,?_,h3⟩;rw[show k-i=(k-(i+1))+1 by omega,List.getElem?_cons_succ];exact h2
structure VwOk (D:Den) (w:World) (vs:List Vw) (v:Vw):Prop where
 lt:v.blk<w.heap.size
 rng:w.rangeAt v.blk v.off v.cs
 den:denL D (nmV vs) w v.l v.cs
theorem Zj9 {D:Den} {w:World} {vs:List Vw} (hv:∀v∈vs,VwOk D w vs v):Sat D w (λ_=>False) vs.length (nmV vs) w w (bkV 0 vs):=by
 have ro:∀{k:Nat} {B:Pl},nmV vs k=some B->∃v,vs[k]? = some v∧B=⟨v.blk,v.off,true,0,0⟩:=by
  intro k B h;obtain⟨v,h1,h2⟩:=Yad.1 h;exact⟨v,h1,h2.symm⟩
 refine⟨Frm.refl _ _,Ext.refl _,?_,?_,?_⟩
 ·intro k k' b b' B B' _ _ h1 h2 _
  obtain⟨v,_,rfl⟩:=ro h1;obtain⟨v',_,rfl⟩:=ro h2;exact .inr ⟨rfl,rfl⟩
 ·intro k B h1
  obtain⟨v,h,rfl⟩:=ro h1;exact(hv v (Ych h)).lt
 ·intro k b hk
  obtain⟨v,_,h2,rfl⟩:=Zev hk.1;rw[Nat.sub_zero]at h2;have:=hv v (Ych h2);refine⟨⟨v.blk,v.off,true,0,0⟩,v.cs,by simp[nmV,h2],.inl ⟨rfl,this.rng⟩,this.den,(λh=>by cases h),λ_ h=>?_,rfl⟩;have:=(Yan.1 h2).1;omega
theorem Zuq {D:Den} {P:Program} (hm:P.follows .mixedOrders=true) {w:World} (sp:List (Ctr D P w (λ_=>False))) (fx:List (Fct D P w (λ_=>False))) {f:FuncId} {d n:Nat} {args:List SA} {orc:List (Option Bool)} {vs:List Vw} (bk:List (Nat×Blk)) (hbk:bk=bkV 0 vs) (hn:n=vs.length) (V:SV) (L:List Prop) (W:List (Nat×Blk))
  (hev:(evF P sp fx d [] f args bk n n orc).map (λr=>(r.v,r.obl,r.wr,r.pan))=some (V,L,W,none)) (hL:AllP L) {vals:List Value} (hv:∀v∈vs,VwOk D w vs v) (hargs:denAs D (nmV vs) w args vals) :
  Calls P f vals.toArray w λe w'=>∃v ρ',e=.returned v∧denV D ρ' w' V v∧Below w.heap.size w w'∧(nmV vs).le ρ'∧BkOk D ρ' w' w' (W++bk)∧∀k b B,Liv (W++bk) k b->ρ' k=some B->(b.ro=false->w.heap.size<=B.blk)∧B.blk<w'.heap.size:=by
 obtain⟨r,hr,he⟩:=Yad.1 hev;simp only[Yco]at he;obtain⟨rfl,rfl,rfl,hpan⟩:=he;subst hbk;subst hn;have hlt:∀k b,(bkV 0 vs).look k=some b->k<vs.length:=λk b hk=>by
  obtain⟨v,_,h2,_⟩:=Zev hk;have:=(Yan.1 h2).1;omega
 refine(Zm6 hm sp fx d [] f args _ _ _ orc _ hr hL.all 0 (nmV vs) w w vals (Zj9 hv) trivial hlt (Yab _) (λk h1 _=>by simp[nmV];omega) hargs).mono ?_;rintro e w' ⟨u,ρ',wc',hend,hu,k1,k2⟩;unfold OpR.ends at hend;rw[hpan]at hend;have ef:r.fin (bkV 0 vs)=r.wr++bkV 0 vs:=by unfold OpR.fin;rw[hpan]
 rw[ef]at k1 k2;refine⟨u,ρ',hend,hu.mono (Nm.le.refl _) k1.ext,⟨k2.os,k2.tape,k2.output,k2.size,λi hi=>k2.loc i hi λk b B hk hB hro=>?_⟩,k2.rho,?_,?_⟩
 ·obtain⟨v,_,h2,rfl⟩:=Zev hk.1
  obtain⟨v',_,rfl⟩:=Yad.1 hB;cases hro
 ·intro k b hk hd
  obtain⟨B,cs,h1,h2,h3,h4⟩:=k1.bkOk k b hk hd;exact⟨B,cs,h1,h2,h3.mono (Nm.le.refl _) k1.ext,h4⟩
 ·intro k b B hk hB
  obtain⟨B',cs,h1,h2,h3,h4,_,h6⟩:=k1.box k b hk;cases h1.symm.trans hB;exact⟨λhro=>(h4 hro).elim id False.elim,k1.lt k B hB⟩
end Go.Ex
