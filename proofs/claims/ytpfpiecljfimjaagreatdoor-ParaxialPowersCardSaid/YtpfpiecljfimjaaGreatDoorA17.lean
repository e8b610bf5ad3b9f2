/- Contracts of package paraxial,and a verified evaluator. Part 17 of 26. No condition beside the row. -/
import Derived.Test.YtpfpiecljfimjaaGreatDoorA08
import Derived.Test.YtpfpiecljfimjaaGreatDoorA09
import Derived.Test.YtpfpiecljfimjaaGreatDoorA10
import Derived.Test.YtpfpiecljfimjaaGreatDoorA11
import Derived.Test.YtpfpiecljfimjaaGreatDoorA12
import Derived.Test.YtpfpiecljfimjaaGreatDoorA16
set_option linter.unusedVariables false
set_option linter.unusedSimpArgs false
set_option maxRecDepth 100000
set_option maxHeartbeats 4000000
namespace Go.Ex
open Go.RowKit Go.Mono
section
section
variable {F:Fence} {m:Nat} {P:Program} {b:Frame} {a:Act} {k:List Item} {cs:List Frame} {w:World} {Q:Exit->Act->World->Prop}
theorem Zb8 {c:Code}:step P (lone (b.atR a (.code (.scope c)::k)) cs w)=.next (lone (b.atR a (.code c::.inScope c::k)) cs w):=
 step_lone_go (by simp[stepG,stepG.exec,Frame.atR])
theorem Zi2 {c:Code}:step P (lone (b.atR a (.inScope c::k)) cs w)=.next (lone (b.atR a k) cs w):=
 step_lone_go (by simp[stepG,stepG.exec,Frame.atR])
theorem Zom {c:Code} (h:c.wpIn F m P (Exit.noGoto Q) a w):(Code.scope c).wpIn F m P Q a w:=by
 intro b k cs hro hb hr;have h0:(lone (b.atR a (.code (.scope c)::k)) cs w).fenced P F:=fenced_calm hb hr rfl;obtain⟨e,a₁,w₁,hq,harr⟩:=h b (.inScope c::k) cs hro hb hr;have hx:∀id,exitTo id (.inScope c::k)=exitTo id k:=λid=>by simp[exitTo]
 cases e with
 | normal=>exact⟨.normal,a₁,w₁,hq,.head h0 Zb8 (StepsIn.trans harr (.one (fenced_calm hb hr rfl) Zi2))⟩
 | exit id =>
   exact⟨.exit id,a₁,w₁,hq,λk' hk=>.head h0 Zb8 (harr.1 k' (by rw[hx];exact hk)),
    λhr' hk=>let ⟨k₁,h1,h2⟩:=harr.2 hr' (by rw[hx];exact hk);⟨k₁,h1,.head h0 Zb8 h2⟩⟩
 | goto l=>exact hq.elim
 | ret=>exact⟨_,a₁,w₁,hq,.of_steps (.one h0 Zb8) harr⟩
 | panic ch=>exact⟨_,a₁,w₁,hq,.of_steps (.one h0 Zb8) harr⟩
 | outgrown=>exact⟨_,a₁,w₁,hq,.of_steps (.one h0 Zb8) harr⟩
end
def Pre (o:Ot) (s s':Stt):Prop:=s.c<=s'.c∧((∀v,o≠.pan v)->∃l,s'.bk=l++s.bk)
theorem Pre.refl (o:Ot) (s:Stt):Pre o s s:=⟨Yab _,λ_=>⟨[],rfl⟩⟩
theorem Pre.trans {o o':Ot} {a b c:Stt} (h:Pre o a b) (ho:∀v,o≠.pan v) (g:Pre o' b c):Pre o' a c:=by
 obtain⟨h1,hl⟩:=h;obtain⟨g1,hm⟩:=g;refine⟨Yak h1 g1,λhh=>?_⟩;obtain⟨l,hl⟩:=hl ho;obtain⟨m,hm⟩:=hm hh;exact⟨m++l,by rw[hm,hl,Ybx]⟩
section
variable {D:Den} {P:Program} {w0:World} {X:Nat->Prop} {cs:CallS} {ys:YEnv} {n:Nat}
theorem Zgc {rd:Bool} {ops:Array Oper}:∀{l:List Oper} {s s':Stt} {q:List Prop} {p:Option Value},seqS P cs ys rd ops n l s=some (s',q,p)->Pre (otP p) s s'
 | [],s,s',q,p,h=>by cases h;exact .refl _ _
 | o :: rest, s, s', q, p, h => by
   have hcc:=Zgu h;refine⟨hcc,?_⟩;unfold seqS at h;split at h
   ·split at h
    ·split at h
     ·split at h
      ·cases h
      ·split at h
       ·rename_i s2 q2 p2 h2
        cases h;have k:=(Zgc h2).2;exact k
       ·cases h
     ·split at h
      ·rename_i r cl hr
       split at h
       ·cases h
        exact λhh=>absurd rfl (hh _)
       ·split at h
        ·rename_i s2 q2 p2 h2
         cases h;intro hh;obtain⟨l,hl⟩:=(Zgc h2).2 hh;exact⟨l++r.wr,by rw[hl,Ybx]⟩
        ·cases h
      ·cases h
    ·cases h
   ·split at h
    ·split at h
     ·rename_i s2 q2 p2 h2
      cases h;have k:=(Zgc h2).2;exact k
     ·cases h
    ·cases h
   ·cases h
theorem Zkg {α:Type} (ws:List (List (Nat×α))) (L:Nat->Bool) (l0:List (Nat×α)):∀m,∃l,accAt ws L l0 m=l++l0
 | 0=>⟨[],rfl⟩
 | m + 1 => by
   obtain⟨l,hl⟩:=Zkg ws L l0 m;exact⟨(if L m then ws.getD m [] else[])++l,by show _++accAt ws L l0 m=_;rw[hl,Ybx]⟩
theorem Zq5 {ops:Array Oper} {s s':Stt} {q:List Prop} {p:Option Value} (h:drawS P cs ys ops n s=some (s',q,p)):Pre (otP p) s s':=by
 unfold drawS at h;dsimp only at h;split at h
 ·rename_i rs s2 q2 pn h2
  split at h
  ·have k:=Zfi h2
   split at h
   ·cases h
    obtain⟨l,hl⟩:=Zkg (rs.map (·.wr)) tt s.bk ops.toList.length;exact⟨k.cc,λ_=>⟨l,by rw[<-hl];exact k.bk⟩⟩
   ·split at h
    ·cases h
     exact⟨k.cc,λhh=>absurd rfl (hh _)⟩
    ·cases h
  ·cases h
 ·cases h
theorem Zch:∀{f:Nat} {rd:Bool} {c:Code} {s s':Stt} {o:Ot} {q:List Prop},(∀ys f args bk c th orc r,cs.call ys f args bk c th orc=some r->c<=r.c)->evC P cs ys n f rd c s=some (o,s',q)->Pre o s s':=by
 intro f rd c s s' o q hcs;induction f generalizing rd c s s' o q with
 | zero=>intro h;cases c<;>cases rd<;>simp[evC]at h
 | succ f ih =>
   intro h;cases c with
   | skip=>simp only[evC,Ybp,Yco]at h;obtain⟨_,rfl,_⟩:=h;exact .refl _ _
   | label l=>simp only[evC,Ybp,Yco]at h;obtain⟨_,rfl,_⟩:=h;exact .refl _ _
   | exit id=>simp only[evC,Ybp,Yco]at h;obtain⟨_,rfl,_⟩:=h;exact .refl _ _
   | ret=>simp only[evC,Ybp,Yco]at h;obtain⟨_,rfl,_⟩:=h;exact .refl _ _
   | region id ops draw =>
     simp only[evC]at h;split at h
     ·rename_i s2 q2 p2 h2
      cases h;split at h2
      ·exact Zq5 h2
      ·exact Zgc h2
     ·cases h
   | seq x y =>
     simp only[evC]at h;split at h
     ·rename_i s1 p h1
      split at h
      ·rename_i o2 s2 q2 h2
       cases h;exact(ih h1).trans (λv=>Zs) (ih h2)
      ·cases h
     ·rename_i h1;cases h;exact ih h1
     ·rename_i h1;cases h;exact ih h1
     ·rename_i h1;cases h;exact ih h1
     ·cases h
   | cond c t e =>
     simp only[evC]at h;split at h
     ·exact ih h
     ·cases h
   | block id x =>
     simp only[evC]at h;split at h
     ·rename_i h1;cases h
      have:=ih h1;exact⟨this.1,λ_=>this.2 (λv=>Zs)⟩
     ·rename_i h1;cases h;exact ih h1
     ·rename_i h1;cases h;exact ih h1
     ·rename_i h1;cases h;exact ih h1
     ·cases h
   | scope x=>simp only[evC]at h;exact ih h
   | loop x =>
     simp only[evC]at h;split at h
     ·rename_i s1 p h1
      split at h
      ·rename_i o2 s2 q2 h2
       cases h;exact(ih h1).trans (λv=>Zs) (ih h2)
      ·cases h
     ·rename_i h1;cases h;exact ih h1
     ·rename_i h1;cases h;exact ih h1
     ·rename_i h1;cases h;exact ih h1
     ·cases h
   | rangeFunc g ps assign body =>
     cases rd with
     | true=>simp[evC]at h
     | false =>
       simp only[evC]at h;split at h
       ·split at h
        ·split at h
         ·rename_i r hr
          have:=hcs _ _ _ _ _ _ _ _ hr;split at h
          ·cases h
           exact⟨by dsimp only;omega,λ_=>⟨r.wr,rfl⟩⟩
          ·cases h
           exact⟨by dsimp only;omega,λhh=>absurd rfl (hh _)⟩
         ·cases h
        ·cases h
       ·cases h
   | goto=>cases rd<;>simp[evC]at h
   | refuse=>cases rd<;>simp[evC]at h
theorem Zt9 (hcs:CallOk D P w0 X cs) {bd mm:Nat} (hm:P.follows .mixedOrders=true) {ro:Option Nat} {m:Nat} {ops:Array Oper} {s s':Stt} {q:List Prop} {pn:Option Value} (h:drawS P cs ys ops n s=some (s',q,pn)) (hq:∀p∈q,p) {ρ:Nm} {wc w:World} {a:Act}
  (hS:Sat D w0 X s.th ρ wc w s.bk) (hY:YOk D P w0 X bd ys ρ wc w) (hT:TSat D ρ wc n s.tm a) (hDf:DfOk P mm ρ w s.df a.defers) (hn:∀k,s.c<=k->k<s'.c->ρ k=none) {Q:Exit->Act->World->Prop}
  (hK:Goes D P w0 X mm n ρ wc w s s' (Q (exP pn))) (id:Nat):(Code.region id ops true).wpIn (WF ro) m P Q a w:=by
 unfold drawS at h;dsimp only at h;split at h
 ·rename_i rs s2 q2 pn2 h2
  split at h
  ·rename_i hc
   simp only[Yam,Ybo,Ydz]at hc;obtain⟨⟨hrace,hpre⟩,hcall⟩:=hc;have hR:=Zfi h2;have hlen:rs.length=ops.size:=by rw[hR.len,Yaz]
   have hD:DrawOk ops ⟨s.tm,s.bk,s.c,if ops.toList.any isCall then TH else s.th,s.orc,s.df⟩ rs s2:=by
    refine⟨hrace,λj p hp=>?_,λ⟨o,ho,hoc⟩=>?_⟩
    ·by_cases hj:j<ops.size
     ·have h1:=Ybn.1 hpre j (Yeu.2 hj)
      have h2:=Ybn.1 h1 p hp;exact Nat.blt_eq▸h2
     ·unfold prOf at hp
      rw[Yfj Zo]at hp;cases hp
    ·have hany:ops.toList.any isCall=true:=Yft.2 ⟨o,ho,hoc⟩
     rcases hcall with h|h
     ·rw[hany]at h;cases h
     ·obtain⟨⟨c1,c2⟩,c3⟩:=h
      rw[hany];simp only[if_true];refine⟨Zcy c1,λr hr=>?_⟩;have h3:=Ybn.1 c2 r hr;rw[Yam]at h3;exact⟨Yaa h3.1,Zcy h3.2⟩
   have hS1:Sat D w0 X (if ops.toList.any isCall then TH else s.th) ρ wc w.drew s.bk:=by
    cases hany:ops.toList.any isCall with
    | false=>exact hS.drew
    | true =>
      rcases hcall with h|h
      ·rw[hany]at h;cases h
      ·exact hS.drew.reth (Zcy h.1.1)
   have hacc:∀{α:Type} (ws:List (List (Nat×α))) (l0:List (Nat×α)) (m:Nat),accAt ws (λj=>(Array.replicate ops.size false).getD j false) l0 m=l0:=by
    intro α ws l0 m;induction m with
    | zero=>rfl
    | succ m ih =>
      show(if _ then _ else _)++accAt ws _ l0 m=l0;rw[ih,if_neg]
      ·rfl
      ·by_cases hm:m<ops.size<;>simp[Array.getD,hm]
   obtain⟨hcc,hqq⟩:s2.c=s'.c∧q2=q:=by
    split at h
    ·cases h;exact⟨rfl,rfl⟩
    ·split at h
     ·cases h;exact⟨rfl,rfl⟩
     ·cases h
   rw[<-hqq]at hq;have hdw:Evo ρ wc w s.bk s.c s2.c ρ wc w.drew s.bk:=(Evo.drew ρ wc w s.bk s.c).widen (Yab _) hR.cc;refine wpIn_region_any hm ?_;refine Zt8 (n:=n) hcs hR hD hq (ρ0:=ρ) (wc0:=wc) (w00:=w) (d0:=a.defers) hS.named (λρ' wc' w' bk' e=>hY.evo hS e) ?_ ?_ ops.size _ a _ ρ wc Zs ?_ ?_ ?_ ?_ ?_ rfl ?_ ?_
   ·intro hpn ρ' wc' w' a' k1 k2 k3 k4
    have hpr:=hR.pn0 hpn;rw[hpr]at h;cases h;refine hK ρ' wc' w' a' ?_ k2 (by rw[k3];exact hDf.evo hS k4) k4;cases hany:ops.toList.any isCall with
    | false=>simpa[hany]using k1
    | true =>
      rcases hcall with h|h
      ·rw[hany]at h;cases h
      ·exact k1.reth (Zcy h.2)
   ·intro p pw bR hpr ρ' wc' w' a' k1 k2 k3 k4
    rw[hpr]at h;dsimp only at h;split at h
    ·rename_i hall
     cases h;refine hK ρ' wc' w' a' ?_ k2 (by rw[k3];exact hDf.evo hS k4) k4;rw[Ybo]at hall;cases hany:ops.toList.any isCall with
     | false=>simpa[hany]using k1
     | true =>
       rcases hall with h|h
       ·rw[hany]at h;cases h
       ·exact k1.reth (Zcy h)
    ·cases h
   ·have:∀m,left (λj=>(Array.replicate ops.size false).getD j false) m<=m:=by
     intro m;induction m with
     | zero=>exact Yab _
     | succ m ih=>unfold left;split<;>omega
    exact this _
   ·intro j hj
    by_cases hm:j<ops.size<;>simp[Array.getD,hm]at hj
   ·intro i r _ _
    by_cases hm:i<ops.size<;>simp[Array.getD,hm]
   ·rw[hacc];exact hS1
   ·rw[hacc];exact hT
   ·rw[hacc];exact hdw
   ·intro i r hr _ k h1 h2
    have h3:=hR.rng i r hr;exact hn k (by dsimp only at h3;omega) (by dsimp only at h3 ⊢;omega)
  ·cases h
 ·cases h
end
end
section
theorem Zkh {p:Nat->Prop} (h:∃n,p n):∃n,p n∧∀m,p m->n<=m:=by
 obtain⟨n,hn⟩:=h;induction n using Nat.strongRecOn with
 | _ n ih =>
   by_cases hm:∃m,m<n∧p m
   ·obtain⟨m,h1,h2⟩:=hm
    exact ih m h1 h2
   ·exact⟨n,hn,λm h2=>Nat.le_of_not_lt λh1=>hm ⟨m,h1,h2⟩⟩
section
variable {D:Den} {P:Program} {w0:World} {X:Nat->Prop} {cs:CallS} {ys:YEnv} {n:Nat}
theorem denAs.len {ρ:Nm} {w:World}:∀{l:List SA} {vs:List Value},denAs D ρ w l vs->vs.length=l.length
 | [],vs,e=>by rw[show vs=[] from e];rfl
 | y::l,vs,⟨v,r,e,hv,hr⟩=>by rw[e,Ybm,denAs.len hr];rfl
theorem Znn {ρ:Nm} {w:World}:∀{ps:List Tmp} {args:List SA} {vals:List Value} {tm:List (Nat×SV)} {T:Array Value} {d:List Deferred},TSat D ρ w n tm {tmps:=T,defers:=d}->denAs D ρ w args vals->(ps.all λp=>Nat.blt p n)=true->ps.length=args.length->
  TSat D ρ w n (setPs ps args tm) {tmps:=(ps.zip vals).foldl (λt (q:Tmp×Value)=>t.setIfInBounds q.1 q.2) T,defers:=d}
 | [], args, vals, tm, T, d, h, ha, hp, hl => by
   cases args with
   | nil=>exact h
   | cons=>cases hl
 | p :: ps, args, vals, tm, T, d, h, ha, hp, hl => by
   cases args with
   | nil=>cases hl
   | cons x xs =>
     obtain⟨v,r,rfl,hv,hr⟩:=ha;rw[List.all_cons,Yam]at hp;rw[List.zip_cons_cons,List.foldl_cons];exact Znn (h.put (d:=some p) hp.1 (x:=.a x) hv) hr hp.2 (by simpa using hl)
theorem Zno (hcs : CallOk D P w0 X cs) (hcc : ∀ ys f args bk c th orc r, cs.call ys f args bk c th orc = some r -> c <= r.c) (hm : P.follows .mixedOrders = true) : ∀ (f : Nat) (rd : Bool) (c : Code) (s s' : Stt) (o : Ot) (q : List Prop) (bd mm : Nat) (ρ : Nm) (wc w : World) (a : Act) (Q : Exit -> Act -> World -> Prop) (ro : Option Nat),
  mm<=w.heap.size->(rd=false->ro=none)->evC P cs ys n f rd c s=some (o,s',q)->(∀p∈q,p)->Sat D w0 X s.th ρ wc w s.bk->YOk D P w0 X bd ys ρ wc w->TSat D ρ wc n s.tm a->DfOk P mm ρ w s.df a.defers->(∀k,s.c<=k->k<s'.c->ρ k=none)->
  Goes D P w0 X mm n ρ wc w s s' (Q o.ex)->c.wpIn (WF ro) 0 P Q a w:=by
 intro f;induction f using Nat.strongRecOn with
 | _ f ih =>
   intro rd c s s' o q bd mm ρ wc w a Q ro hmm0 hrd h hq hS hY hT hDf hn hK;cases f with
   | zero=>cases c<;>cases rd<;>simp[evC]at h
   | succ f =>
     have ih':=ih f (Yca f);cases c with
     | skip =>
       simp only[evC,Ybp,Yco]at h;obtain⟨rfl,rfl,rfl⟩:=h;exact wpIn_skip (hK ρ wc w a hS hT hDf (Evo.refl _ _ _ _ _))
     | label l =>
       simp only[evC,Ybp,Yco]at h;obtain⟨rfl,rfl,rfl⟩:=h;exact wpIn_label (hK ρ wc w a hS hT hDf (Evo.refl _ _ _ _ _))
     | exit id =>
       simp only[evC,Ybp,Yco]at h;obtain⟨rfl,rfl,rfl⟩:=h;exact wpIn_exit (hK ρ wc w a hS hT hDf (Evo.refl _ _ _ _ _))
     | ret =>
       simp only[evC,Ybp,Yco]at h;obtain⟨rfl,rfl,rfl⟩:=h;exact wpIn_ret (hK ρ wc w a hS hT hDf (Evo.refl _ _ _ _ _))
     | region id ops draw =>
       simp only[evC]at h;split at h
       ·rename_i s2 q2 p2 h2
        cases h;rw[Zx0]at hK;cases draw with
        | true=>exact Zt9 hcs hm (by simpa using h2) hq hS hY hT hDf hn hK id
        | false=>exact wpIn_region_list (Zi0 hcs hrd (by simpa using h2) hq hS hY hT hDf hn hK)
       ·cases h
     | seq x y =>
       simp only[evC]at h;split at h
       ·rename_i s1 p h1
        split at h
        ·rename_i o2 s2 q2 h2
         cases h;have p1:=Zch hcc h1;have p2:=Zch hcc h2;refine wpIn_seq (ih' rd x s s1 .norm p bd mm ρ wc w a _ ro hmm0 hrd h1 (λp hp=>hq p (by simp[hp])) hS hY hT hDf (λk k1 k2=>hn k k1 (Yaf k2 p2.1)) ?_);intro ρ' wc' w' a' k1 k2 k3 k4;refine ih' rd y s1 _ _ _ bd mm ρ' wc' w' a' Q ro (Yak hmm0 k4.size) hrd h2 (λp hp=>hq p (by simp[hp])) k1 (hY.evo hS k4) k2 k3 (λk j1 j2=>?_) ?_
         ·rw[k4.dom k (.inr j1)];exact hn k (Yak p1.1 j1) j2
         ·intro ρ2 wc2 w2 a2 m1 m2 m3 m4
          exact hK ρ2 wc2 w2 a2 m1 m2 m3 (k4.trans m4 hS.named)
        ·cases h
       ·rename_i id s1 p h1
        cases h;exact wpIn_seq (ih' rd x s _ (.exit id) _ bd mm ρ wc w a _ ro hmm0 hrd h1 hq hS hY hT hDf hn hK)
       ·rename_i s1 p h1
        cases h;exact wpIn_seq (ih' rd x s _ .ret _ bd mm ρ wc w a _ ro hmm0 hrd h1 hq hS hY hT hDf hn hK)
       ·rename_i v s1 p h1
        cases h;exact wpIn_seq (ih' rd x s _ (.pan v) _ bd mm ρ wc w a _ ro hmm0 hrd h1 hq hS hY hT hDf hn hK)
       ·cases h
     | cond c t e =>
       simp only[evC]at h;split at h
       ·rename_i b hb
        have hden:=hT.get hb;have hev:a.eval c=.bool b:=by simpa using hden.1
        exact wpIn_cond hev (ih' rd (if b then t else e) s _ _ _ bd mm ρ wc w a Q ro hmm0 hrd h hq hS hY hT hDf hn hK)
       ·cases h
     | block id x =>
       simp only[evC]at h;split at h
       ·rename_i j s1 p h1
        cases h;refine wpIn_block (ih' rd x s _ (.exit j) _ bd mm ρ wc w a _ ro hmm0 hrd h1 hq hS hY hT hDf hn ?_);intro ρ2 wc2 w2 a2 m1 m2 m3 m4;show(if j=id then Q .normal a2 w2 else Q (.exit j) a2 w2);have:=hK ρ2 wc2 w2 a2 m1 m2 m3 m4;by_cases e:j=id
        ·subst e
         simp only[Nat.beq_refl,if_true]at this;rw[if_pos rfl];exact this
        ·have hb:Nat.beq j id=false:=by
          cases hb:Nat.beq j id with
          | false=>rfl
          | true=>exact absurd (Ybe hb) e
         rw[hb]at this;rw[if_neg e];exact this
       ·rename_i s1 p h1
        cases h;exact wpIn_block (ih' rd x s _ .norm _ bd mm ρ wc w a _ ro hmm0 hrd h1 hq hS hY hT hDf hn hK)
       ·rename_i s1 p h1
        cases h;exact wpIn_block (ih' rd x s _ .ret _ bd mm ρ wc w a _ ro hmm0 hrd h1 hq hS hY hT hDf hn hK)
       ·rename_i v s1 p h1
        cases h;exact wpIn_block (ih' rd x s _ (.pan v) _ bd mm ρ wc w a _ ro hmm0 hrd h1 hq hS hY hT hDf hn hK)
       ·cases h
     | scope x =>
       simp only[evC]at h;refine Zom (ih' rd x s _ o _ bd mm ρ wc w a _ ro hmm0 hrd h hq hS hY hT hDf hn ?_);intro ρ2 wc2 w2 a2 m1 m2 m3 m4;have:=hK ρ2 wc2 w2 a2 m1 m2 m3 m4;cases o<;>exact this
     | loop x =>
       -- the least number of rounds' fuel that leads from a state to the end
       let J:Nat->Act->World->Prop:=λm a w=>m<=f+1∧mm<=w.heap.size∧∃(s s':Stt) (o:Ot) (q:List Prop) (ρ:Nm) (wc:World),evC P cs ys n m rd (.loop x) s=some (o,s',q)∧(∀p∈q,p)∧Sat D w0 X s.th ρ wc w s.bk∧YOk D P w0 X bd ys ρ wc w∧TSat D ρ wc n s.tm a∧DfOk P mm ρ w s.df a.defers∧(∀k,s.c<=k->k<s'.c->ρ k=none)∧
        Goes D P w0 X mm n ρ wc w s s' (Q o.ex)
       have least:∀a w,∃m,(∃m,J m a w)->J m a w∧∀m',J m' a w->m<=m':=λa w=>by
        by_cases hJ:∃m,J m a w
        ·obtain⟨m,h1,h2⟩:=Zkh hJ
         exact⟨m,λ_=>⟨h1,h2⟩⟩
        ·exact⟨0,λh=>absurd h hJ⟩
       refine wpIn_loop (λa w=>∃m,J m a w) (λa w=>Classical.choose (least a w)) ⟨f+1,Yab _,hmm0,s,s',o,q,ρ,wc,h,hq,hS,hY,hT,hDf,hn,hK⟩ ?_;intro a w hI;obtain⟨⟨hle,hmm0,s,s',o,q,ρ,wc,h,hq,hS,hY,hT,hDf,hn,hK⟩,_⟩:=Classical.choose_spec (least a w) hI;generalize hmmm:Classical.choose (least a w)=m at *;cases m with
       | zero=>cases rd<;>simp[evC]at h
       | succ m =>
         have ihm:=ih m Zo;simp only[evC]at h;split at h
         ·rename_i s1 p h1
          split at h
          ·rename_i o2 s2 q2 h2
           cases h;have p1:=Zch hcc h1;have p2:=Zch hcc h2;refine ihm rd x s s1 .norm p bd mm ρ wc w a _ ro hmm0 hrd h1 (λp hp=>hq p (by simp[hp])) hS hY hT hDf (λk k1 k2=>hn k k1 (Yaf k2 p2.1)) ?_;intro ρ' wc' w' a' k1 k2 k3 k4;have hJ:J m a' w':=⟨Zo,Yak hmm0 k4.size,s1,_,_,_,ρ',wc',h2,λp hp=>hq p (by simp[hp]),k1,hY.evo hS k4,k2,k3,λk j1 j2=>by
            rw[k4.dom k (.inr j1)];exact hn k (Yak p1.1 j1) j2,λρ2 wc2 w2 a2 m1 m2 m3 m4=>hK ρ2 wc2 w2 a2 m1 m2 m3 (k4.trans m4 hS.named)⟩
           refine⟨⟨m,hJ⟩,?_⟩;have:=(Classical.choose_spec (least a' w') ⟨m,hJ⟩).2 m hJ;omega
          ·cases h
         ·rename_i id s1 p h1
          cases h;exact ihm rd x s _ (.exit id) _ bd mm ρ wc w a _ ro hmm0 hrd h1 hq hS hY hT hDf hn hK
         ·rename_i s1 p h1
          cases h;exact ihm rd x s _ .ret _ bd mm ρ wc w a _ ro hmm0 hrd h1 hq hS hY hT hDf hn hK
         ·rename_i v s1 p h1
          cases h;exact ihm rd x s _ (.pan v) _ bd mm ρ wc w a _ ro hmm0 hrd h1 hq hS hY hT hDf hn hK
         ·cases h
     | rangeFunc g ps assign body =>
       cases rd with
       | true=>simp[evC]at h
       | false =>
         obtain rfl:=hrd rfl;simp only[evC]at h;split at h
         ·rename_i gf fs caps hg
          split at h
          ·rename_i hc
           rw[Yam]at hc;obtain⟨hen,hall⟩:=hc;split at h
           ·rename_i r hr
            have hbkn:=Zcy hall;have hcr:=hcc _ _ _ _ _ _ _ _ hr;have hsc:s'.c=r.c∧s'.df=.col (s.c+1)::s.df∧q=r.obl:=by
             split at h<;>(cases h;exact⟨rfl,rfl,rfl⟩)
            obtain⟨hsc,hsdf,hqo⟩:=hsc;subst hqo;obtain⟨us,vs,e2,hus,hvs⟩:=Zni (D:=D) (ρ:=ρ) (w:=wc) (v:=a.eval g) hg (λx hx=>hT.get hx);have eg:=λargs w=>Zfg (P:=P) hen args w;obtain⟨k1,E1⟩:=hS.obj (k:=s.c+1) (hn (s.c+1) Zo Zo) (by
             cases hl:s.bk.look (s.c+1) with
             | none=>rfl
             | some b=>have:=hbkn _ _ hl;omega) (.deferred (some []))
            refine wpIn_rangeFunc λfn hfn=>?_;obtain⟨lp,hlp⟩:∃lp:Loop,lp = {state:=.ready,pending:=none,fn,tmps:=a.tmps,params:=ps,assign,body,defers:=w.heap.size}:=⟨_,rfl⟩
            obtain⟨k2,E2⟩:=k1.obj (k:=s.c) (by rw[Za4 _ _ Zo];exact hn s.c Zo Zo) (by
             cases hl:s.bk.look s.c with
             | none=>rfl
             | some b=>have:=hbkn _ _ hl;omega) (.loop lp)
            rw[Yav]at k2 E2;have E12:=(E1.widen (d:=s.c) (d':=s.c+2) Zo Zo).join (E2.widen (d:=s.c) (d':=s.c+2) Zo Zo) hS.named;generalize hρ2:addNm (addNm ρ (s.c+1) ⟨w.heap.size,0,false,0,0⟩) s.c ⟨w.heap.size+1,0,false,0,0⟩=ρ2 at k2 E12;have r1:ρ2 s.c=some ⟨w.heap.size+1,0,false,0,0⟩:=by rw[<-hρ2];exact Zbt _ _ _
            have r2:ρ2 (s.c+1)=some ⟨w.heap.size,0,false,0,0⟩:=by rw[<-hρ2,Za4 _ _ Zo];exact Zbt _ _ _
            have hW:(w.alloc (.deferred (some []))).alloc (.loop {state:=.ready,pending:=none,fn,tmps:=a.tmps,params:=ps,assign,body,defers:=w.heap.size})=(w.alloc (.deferred (some []))).alloc (.loop lp):=by rw[hlp]
            generalize hW1:(w.alloc (.deferred (some []))).alloc (.loop lp)=W1 at k2 E12 hW;have hL1:W1.heap[w.heap.size+1]? = some (.loop lp):=by
             rw[<-hW1];have:=World.alloc_heap_new (w.alloc (.deferred (some []))) (.loop lp);rwa [Yav]at this
            have hK1:W1.heap[w.heap.size]? = some (.deferred (some [])):=by
             rw[<-hW1];exact(Below.heap_alloc _ _ _ Zs).trans (World.alloc_heap_new w _)
            refine⟨w.heap.size+1,[{target:=.collected w.heap.size,args:=#[]}],W1,{target:=.fn (.func gf) vs.toArray,args:=us.toArray++#[.func (.yield (w.heap.size+1)) #[] #[]]},W1,gf,
             us.toArray++#[.func (.yield (w.heap.size+1)) #[] #[]]++vs.toArray,W1,?_,?_,?_,?_,(λhh=>by cases hh),?_⟩
            ·rw[<-hW];exact run_enterLoop_outer _ _ _ _ _
            ·simp only[resolve,e2]
             simp[go_sem]
            ·intro f' hf';trivial
            ·simp[invoke,go_sem,eg]
            ·
             have hY2:YOk D P w0 X (w.heap.size+2) ((s.c,hndS n ps s.tm (evC P cs ys n f true assign) (evC P cs ys n f true body))::ys) ρ2 wc W1:=⟨_,lp,r1,hL1,by have:=hS.fr.size;dsimp only;omega,Yca _,
              (hY.bound (b:=w.heap.size+1) (λk B hB=>by have:=hS.lt k B hB;omega)).evo hS E12,?_⟩
             ·have hargs:denAs D ρ2 wc (fs++(.one (.yld s.c)::capsA caps)) (us++(.func (.yield (w.heap.size+1)) #[] #[]::vs)):=(hus.mono E12.rho (Ext.refl _)).append ⟨_,vs,rfl,⟨_,r1,rfl⟩,Zgb (hvs.mono E12.rho)⟩
              have hcall:=hcs.call _ _ _ _ _ _ _ _ hr hq (w.heap.size+2) ρ2 wc W1 _ ((k2.tmin (c:=s.c+2) (λk b hk=>by have:=hbkn k b hk;omega))) hY2 (λk b hk=>by have:=hbkn k b hk;omega) (Zl2 _ _) (λk h1 h2=>by
               rw[E12.dom k (.inr h1)];exact hn k Zo Zo) hargs
              refine callsIn_WF.2 ?_;have ea:(us.toArray++#[.func (.yield (w.heap.size+1)) #[] #[]]++vs.toArray:Array Value)=(us++(.func (.yield (w.heap.size+1)) #[] #[]::vs):List Value).toArray:=by apply Yee.1;simp
              rw[ea];refine hcall.mono ?_;rintro e W2 ⟨v,ρ',wc',hend,hv,hS2,hE2⟩;have E:=E12.trans hE2 hS.named;have hl2:W2.heap[w.heap.size+1]? = some (.loop lp):=k2.stays hE2 hL1 rfl;have hk2:W2.heap[w.heap.size]? = some (.deferred (some [])):=k2.stays hE2 hK1 rfl;have hT':TSat D ρ' wc' n s.tm {a with defers:=[{target:=.collected w.heap.size,args:=#[]}]++a.defers}:=⟨hT.size,(hT.mono E.rho E.ext).at_⟩
              have hsz0:=hS.fr.size;unfold OpR.ends at hend;split at hend
              ·rename_i hp
               subst hend;rw[hp]at h;cases h;have he:=run_endLoop (P:=P) hl2 (by rw[hlp];simp);have ef:r.fin s.bk=r.wr++s.bk:=by unfold OpR.fin;rw[hp]
               rw[ef]at hS2 E;refine⟨_,_,he,?_⟩;rw[show lp.pending=none from by rw[hlp]];refine hK ρ' wc' _ _ (hS2.putObj hl2 rfl Zo _) hT' ?_ (E.putNew Zo _);refine⟨_,a.defers,rfl,hE2.rho _ _ r2,hmm0,hDf.low hS.lt,(World.putObj_heap_other (by dsimp only;omega)).trans hk2,(hDf.evo hS E).step (Nm.le.refl _) λl _ hl=>?_⟩;rw[World.putObj_heap_other ?_]
               ·exact hl
               ·intro e;subst e;rw[hl2]at hl;cases hl
              ·rename_i p hp
               subst hend;rw[hp]at h;cases h;have ef:r.fin s.bk=r.wr:=by unfold OpR.fin;rw[hp]
               rw[ef]at hS2 E;exact hK ρ' wc' _ _ hS2 hT' ⟨_,a.defers,rfl,hE2.rho _ _ r2,hmm0,hDf.low hS.lt,hk2,hDf.evo hS E⟩ E
             ·
              intro args bk' c' th' orc' r' hh ho ρ' wc' w' vals hle hext hSat hYs hnames hth hfresh hargs hheap;dsimp only at hYs hheap ⊢;unfold hndS at hh;split at hh
              ·rename_i hps
               rw[Yam]at hps;have hlen:=Ybe hps.1;split at hh
               ·rename_i s1 p1 h1
                split at hh
                ·rename_i s2 p2 h2
                 split at hh
                 ·rename_i hdf
                  cases hh;have q1:=Zch hcc h1;have q2:=Zch hcc h2;obtain⟨b1,hb1⟩:=q1.2 (λv=>Zs);obtain⟨b2,hb2⟩:=q2.2 (λv=>Zs);have htake:s2.bk.take (s2.bk.length-bk'.length)++bk'=s2.bk:=by
                   rw[hb2,hb1,<-Ybx,Yay,Ybf,List.take_left]
                  refine⟨_,_,_,_,run_yield (P:=P) hheap (by rw[hlp];simp[hargs.len,hlen]),?_⟩;rw[hlp]at hheap;rw[hlp];refine roundIn_of_wpIn trivial ?_;have hT0:TSat D ρ' wc' n s.tm {tmps:=a.tmps,defers:=[]}:=⟨hT.size,(hT.mono (E12.rho.trans hle) (E12.ext.trans hext)).at_⟩
                  have hT1:=Znn hT0 hargs hps.2 (by rw[Yaz];exact hlen.symm);have hfold:((ps.zip vals.toArray).foldl (λtmps (q:Tmp×Value)=>tmps.setIfInBounds q.1 q.2) a.tmps)=(ps.toList.zip vals).foldl (λt (q:Tmp×Value)=>t.setIfInBounds q.1 q.2) a.tmps:=by
                   rw[<-Array.foldl_toList,Array.toList_zip]
                  show Code.wpIn (WF (some (w.heap.size+1))) 0 P assign _ {tmps:=(ps.zip vals.toArray).foldl (λtmps (q:Tmp×Value)=>tmps.setIfInBounds q.1 q.2) a.tmps,defers:=[]} w';rw[hfold];have hc2:s2.c=s2.c:=rfl;refine ih' true assign _ s1 .norm p1 _ 0 ρ' wc' w' _ _ (some (w.heap.size+1)) (Yat _) (λhh=>by cases hh) h1 (λp hp=>ho p (Ycy _ hp)) hSat hYs hT1 rfl (λk j1 j2=>hfresh k j1 (Yaf j2 q2.1)) ?_;intro ρ1 wc1 w1 a1 S1 T1 D1 Ev1;have hl1:=hSat.stays Ev1 hheap rfl;refine⟨_,run_beginRound hl1 rfl,?_⟩;have hz0:w0.heap.size<=w.heap.size+1:=by have:=hS.fr.size;omega
                  have S1':=S1.putObj hl1 rfl hz0 (.loop {state:=.busy,pending:=none,fn,tmps:=a.tmps,params:=ps,assign,body,defers:=w.heap.size});refine ih' true body s1 s2 .norm p2 _ 0 ρ1 wc1 _ a1 _ (some (w.heap.size+1)) (Yat _) (λhh=>by cases hh) h2 (λp hp=>ho p (Ydv _ hp)) S1' ((hYs.evo hSat Ev1).step (Nm.le.refl _) (Ext.refl _) λl lp hlt hl=>?_) T1 (D1.step (Nm.le.refl _) λl _ hl=>?_) (λk j1 j2=>?_) ?_
                  ·rw[World.putObj_heap_other Zo];exact hl
                  ·rw[World.putObj_heap_other ?_]
                   ·exact hl
                   ·intro e;subst e;rw[hl1]at hl;cases hl
                  ·rw[Ev1.dom k (.inr j1)];exact hfresh k (Yak q1.1 j1) j2
                  ·intro ρ3 wc3 w3 a3 S3 T3 D3 Ev3
                   have hl3:=S1'.stays Ev3 (World.putObj_heap_same (Zam hl1)) rfl;refine⟨_,_,run_endRound (P:=P) none hl3,?_⟩;have S3':=S3.putObj hl3 rfl hz0 (.loop {state:=.ready,pending:=none,fn,tmps:=a.tmps,params:=ps,assign,body,defers:=w.heap.size});refine⟨⟨.bool true,ρ3,wc3,rfl,⟨rfl,rfl⟩,?_,?_⟩,World.putObj_heap_same (Zam hl3)⟩
                   ·show Sat D w0 X s2.th ρ3 wc3 _ (s2.bk.take (s2.bk.length-bk'.length)++bk')
                    rw[htake];exact S3'
                   ·show Evo ρ' wc' w' bk' c' s2.c ρ3 wc3 _ (s2.bk.take (s2.bk.length-bk'.length)++bk')
                    rw[htake];exact Ev1.trans (Ev3.round hl1) hSat.named
                 ·cases hh
                ·cases hh
               ·cases hh
              ·cases hh
           ·cases h
          ·cases h
         ·cases h
     | goto=>cases rd<;>simp[evC]at h
     | refuse=>cases rd<;>simp[evC]at h
end
end
section
structure Ctr (D:Den) (P:Program) (w0:World) (X:Nat->Prop) where
 f:FuncId
 run:List SA->List (Nat×Blk)->Nat->List (Option Bool)->Option OpR
 cc:∀args bk c orc r,run args bk c orc=some r->c<=r.c
 sound:∀args bk c orc r,run args bk c orc=some r->(∀p∈r.obl,p)->∀th ρ wc w vals,Sat D w0 X th ρ wc w bk->(∀k b,bk.look k=some b->k<c)->(∀k,c<=k->k<r.c->ρ k=none)->denAs D ρ wc args vals->
  Calls P f vals.toArray w (Post D w0 X ρ wc w bk c r)
def Ctr.plain {D:Den} {P:Program} {w0:World} {X:Nat->Prop} (f:FuncId) (run:List SA->List (Nat×Blk)->List (Option Bool)->Option (SV×List Prop×List (Option Bool)))
    (sound:∀args bk orc v obl orc',run args bk orc=some (v,obl,orc')->(∀p∈obl,p)->∀ρ w vals,Frm w0 X w->BkOk D ρ w w bk->denAs D ρ w args vals->
     Calls P f vals.toArray w λe w'=>∃u,e=.returned u∧denV D ρ w' v u∧Below w.heap.size w w'):Ctr D P w0 X where
 f:=f
 run:=λargs bk c orc=>match run args bk orc with
  | some (v,obl,orc')=>some ⟨v,[],obl,orc',c,c,none⟩
  | none=>none
 cc:=by
  intro args bk c orc r h;split at h
  ·cases h;exact Yab _
  ·cases h
 sound:=by
  intro args bk c orc r h hobl th ρ wc w vals hS hlt hn hargs;split at h
  ·rename_i v obl orc' hr
   cases h;refine(sound _ _ _ _ _ _ hr hobl ρ w vals hS.fr (λk b hk hd=>?_) (hargs.mono (Nm.le.refl _) hS.ext)).mono ?_
   ·obtain⟨B,cs,h1,h2,h3,h4⟩:=hS.bkOk k b hk hd
    exact⟨B,cs,h1,h2,h3.mono (Nm.le.refl _) hS.ext,h4⟩
   ·rintro e w' ⟨u,rfl,hu,hb⟩
    obtain⟨k1,k2⟩:=hS.call hb c c (λk b hk=>Nat.not_le.2 (hlt k b hk));exact⟨u,ρ,w',rfl,hu,k1,k2⟩
  ·cases h
section
variable {D:Den} {P:Program} {w0:World} {X:Nat->Prop}
def specOf (f:FuncId):List (Ctr D P w0 X)->Option (Ctr D P w0 X)
 | []=>none
 | p::r=>if Nat.beq p.f f then some p else specOf f r
theorem Zki {f:FuncId}:∀{l:List (Ctr D P w0 X)} {p:Ctr D P w0 X},specOf f l=some p->p.f=f
 | [],p,h=>by cases h
 | q :: r, p, h => by
   unfold specOf at h;split at h
   ·rename_i e
    cases h;exact Ybe e
   ·exact Zki h
def frame0 (i:Nat):List SA->List (Nat×SV)
 | []=>[]
 | x::r=>(i,.a x)::frame0 (i+1) r
def resS (P:Program) (s:Stt):List ResultVar->Option (List SA)
 | []=>some []
 | .tmp t :: r => match s.tm.look t with
   | some (.a x)=>(resS P s r).map (x::·)
   | _=>none
 | .cell ad ty :: r => match loadS P ty (s.tm.look ad) s.bk with
   | some (.a x)=>(resS P s r).map (x::·)
   | _=>none
def resV:List SA->SV
 | [x]=>.a x
 | l=>.tup l
def FU:Nat:=100000
def specRun (sp:List (Ctr D P w0 X)) (f:FuncId) (args:List SA) (bk:List (Nat×Blk)) (c:Nat) (orc:List (Option Bool)):Option OpR:=
 match specOf f sp with
 | some p=>p.run args bk c orc
 | none=>none
def dedup (keep:Nat->Bool):List (Nat×Blk)->List Nat->List (Nat×Blk)
 | [],_=>[]
 | p::r,seen=>if mem seen p.1 then dedup keep r seen else if keep p.1 then p::dedup keep r (p.1::seen) else dedup keep r seen
theorem Zc9 (keep:Nat->Bool) (k:Nat):∀(l:List (Nat×Blk)) (seen:List Nat),(dedup keep l seen).look k=if mem seen k=true then none else if keep k=true then l.look k else none
 | [],seen=>by simp[dedup]
 | (k', x) :: r, seen => by
   unfold dedup;dsimp only;split
   ·rename_i hm
    rw[Zc9 keep k r seen,Zat];by_cases e:k=k'
    ·subst e;rw[if_pos hm,if_pos hm]
    ·rw[if_neg e]
   ·rename_i hm
    split
    ·rename_i hk
     rw[Zat,Zat,Zc9 keep k r (k'::seen)];by_cases e:k=k'
     ·subst e;rw[if_pos rfl,if_pos rfl,if_neg hm,if_pos hk]
     ·rw[if_neg e,if_neg e]
      have:(mem (k'::seen) k=true)↔(mem seen k=true):=by
       rw[mem_iff,mem_iff,Ycp];constructor
       ·rintro(h|h)
        ·exact absurd h e
        ·exact h
       ·exact .inr
      simp only[this]
    ·rename_i hk
     rw[Zc9 keep k r seen,Zat];by_cases e:k=k'
     ·subst e;rw[if_neg hk,if_neg hk]
     ·rw[if_neg e]
def tomb:Blk:=⟨0,[],false,true,true⟩
def tombs (m:List (Nat×Blk)):List (Nat×Blk)->List (Nat×Blk)
 | []=>[]
 | p :: r => match m.look p.1 with
   | none=>(p.1,tomb)::tombs m r
   | some _=>tombs m r
theorem Zib (m:List (Nat×Blk)) (k:Nat):∀l:List (Nat×Blk),(∀b,(tombs m l).look k=some b->b.dead=true)∧(m.look k=none->(l.look k).isSome=true->((tombs m l).look k).isSome=true)∧(l.look k=none->(tombs m l).look k=none)
 | []=>⟨λb h=>by simp[tombs]at h,λ_ h=>by simp at h,λ_=>rfl⟩
 | (k', x) :: r => by
   obtain⟨h1,h2,h3⟩:=Zib m k r;unfold tombs;dsimp only;cases hm:m.look k' with
   | none =>
     dsimp only;rw[Zat,Zat];by_cases e:k=k'
     ·rw[if_pos e,if_pos e]
      exact⟨(λb h=>by cases h;rfl),λ_ _=>rfl,λh=>by cases h⟩
     ·rw[if_neg e,if_neg e];exact⟨h1,h2,h3⟩
   | some y =>
     dsimp only;rw[Zat];by_cases e:k=k'
     ·subst e
      exact⟨h1,(λhh=>by rw[hm]at hh;cases hh),λh=>by rw[if_pos rfl]at h;cases h⟩
     ·rw[if_neg e];exact⟨h1,h2,h3⟩
def isRec (o:Oper):Bool:=
 match o.op,o.guard with
 | .call ⟨.builtin .recover,⟨[]⟩,_⟩,none=>true
 | _,_=>false
def purS (P:Program) (n:Nat):List Oper->List (Nat×SV)->Option (List (Nat×SV))
 | [],tm=>some tm
 | o :: r, tm => match o.guard, evPure P o (getS tm) [] with
   | none,some x=>if dstOk n o.dst then purS P n r (putT tm o.dst x) else none
   | _,_=>none
def defS (P:Program) (cs:CallS) (ys:YEnv) (u:Option Value) (f:FuncId) (caps:List (Nat×Nat)) (s:Stt):Option (Stt×List Prop):=
 match P.funcs[f]? with
 | some fn => match fn.body with
   | some (.seq (.region _ ops false) rest) => match ops.toList with
     | o :: os => if isRec o && dstOk ((capsA caps).length + (fn.ntmps - (capsA caps).length)) o.dst && (u.getD .nilIface).oneCell' then
         match purS P ((capsA caps).length+(fn.ntmps-(capsA caps).length)) os (putT (frame0 0 (capsA caps)) o.dst (.a (.one (.val (u.getD .nilIface))))) with
         | some tm => (match evC P cs ys ((capsA caps).length + (fn.ntmps - (capsA caps).length)) FU false rest ⟨tm, s.bk, s.c, s.th, s.orc, []⟩ with
           | some (.norm, s2, q) => (match s2.df, resS P s2 fn.results.toList with
             | [],some _=>some (⟨s.tm,s2.bk,s2.c,s2.th,s2.orc,s.df⟩,q)
             | _,_=>none)
           | some (.ret, s2, q) => (match s2.df, resS P s2 fn.results.toList with
             | [],some _=>some (⟨s.tm,s2.bk,s2.c,s2.th,s2.orc,s.df⟩,q)
             | _,_=>none)
           | _=>none)
         | none=>none
       else none
     | []=>none
   | _=>none
 | none=>none
def leaveS (P:Program) (cs:CallS) (ys:YEnv):List DF->Option Value->Stt->Option (Option Value×Stt×List Prop)
 | [],u,s=>some (u,s,[])
 | .col _::r,u,s=>leaveS P cs ys r u s
 | .clo f caps :: r, u, s => match defS P cs ys u f caps s with
   | some (s1, q) => (match leaveS P cs ys r none s1 with
     | some (u',s2,q2)=>some (u',s2,q++q2)
     | none=>none)
   | none=>none
def keepS' (c:Nat) (l:List SA) (p m:List (Nat×Blk)):Nat->Bool:=
 let rs:=reach m 100000 (l.flatMap idsA++p.flatMap λe=>if Nat.blt e.1 c then e.2.cells.flatMap idsU else[]) []
 λk=>Nat.blt k c || mem rs k
def endS (P:Program) (cs:CallS) (ys:YEnv) (fn:Func) (bk:List (Nat×Blk)) (c:Nat) (u:Option Value) (s':Stt) (q:List Prop):Option OpR:=
 match leaveS P cs ys s'.df u s' with
 | some (some v,s2,q2)=>some ⟨.no,s2.bk,q++q2,s2.orc,s2.c,s2.th,some v⟩
 | some (none, s2, q2) => (match resS P s2 fn.results.toList with
   | some l => some ⟨resV l, (match u with
     | none=>dedup (keepS' c l (s2.bk.take (s2.bk.length-bk.length)) s2.bk) (s2.bk.take (s2.bk.length-bk.length)) []
     | some _=>dedup (keepS' c l s2.bk s2.bk) s2.bk []++tombs s2.bk bk),q++q2,s2.orc,s2.c,s2.th,none⟩
   | none=>none)
 | none=>none
structure Fct (D:Den) (P:Program) (w0:World) (X:Nat->Prop) where
 run:Oper->(Operand->Option SV)->Option SV
 sound:∀o get x,run o get=some x->∀ρ wc w ev,Frm w0 X w->(∀y z,get y=some z->denV D ρ wc z (ev y))->∃v,(execOp ev o).run P w=.ok (.value v) w∧denV D ρ wc x v
def fctRun:List (Fct D P w0 X)->Oper->(Operand->Option SV)->Option SV
 | [],_,_=>none
 | x :: l, o, get => match x.run o get with
   | some v=>some v
   | none=>fctRun l o get
theorem Zgw:∀{l:List (Fct D P w0 X)} {o:Oper} {get:Operand->Option SV} {x:SV},fctRun l o get=some x->∀ρ wc w ev,Frm w0 X w->(∀y z,get y=some z->denV D ρ wc z (ev y))->∃v,(execOp ev o).run P w=.ok (.value v) w∧denV D ρ wc x v
 | [],o,get,x,h=>by unfold fctRun at h;cases h
 | y :: l, o, get, x, h => by
   unfold fctRun at h;split at h
   ·rename_i v hv
    cases h;exact y.sound o get x hv
   ·exact Zgw h
def evF (P : Program) (sp : List (Ctr D P w0 X)) (fx : List (Fct D P w0 X)) : Nat -> CallF
 | 0=>λ_ _ _ _ _ _ _=>none
 | d + 1 => λys f args bk c th orc =>
   match specRun sp f args bk c orc with
   | some r=>some r
   | none => (match P.funcs[f]? with
     | some fn => (match fn.body with
       | some code => (match evC P ⟨evF P sp fx d, fctRun fx⟩ ys (args.length + (fn.ntmps - args.length)) FU false code ⟨frame0 0 args, bk, c, th, orc, []⟩ with
         | some (.exit _,_,_)=>none
         | some (.norm,s',q)=>endS P ⟨evF P sp fx d,fctRun fx⟩ ys fn bk c none s' q
         | some (.ret,s',q)=>endS P ⟨evF P sp fx d,fctRun fx⟩ ys fn bk c none s' q
         | some (.pan v,s',q)=>endS P ⟨evF P sp fx d,fctRun fx⟩ ys fn bk c (some v) s' q
         | none=>none)
       | none=>none)
     | none=>none)
theorem Zkj {ρ:Nm} {w:World}:∀{l:List SA} {vs:List Value} {i t:Nat} {x:SV},denAs D ρ w l vs->(frame0 i l).look t=some x->∃v,i<=t∧vs[t-i]? = some v∧denV D ρ w x v
 | [],vs,i,t,x,h,hx=>by simp[frame0]at hx
 | y :: l, vs, i, t, x, ⟨v, r, e, hv, hr⟩, hx => by
   subst e;unfold frame0 at hx;rw[Zat]at hx;split at hx
   ·rename_i e
    cases hx;subst e;exact⟨v,Yab _,Zs,hv⟩
   ·obtain⟨v',h1,h2,h3⟩:=Zkj hr hx
    refine⟨v',Zo,?_,h3⟩;rw[show t-i=(t-(i+1))+1 by omega,List.getElem?_cons_succ];exact h2
theorem Zkk {ρ:Nm} {w:World} {l:List SA} {vs:List Value} (h:denAs D ρ w l vs) (m:Nat) :
  TSat D ρ w (l.length+m) (frame0 0 l) {tmps:=vs.toArray++Array.replicate m undef,defers:=[]}:=by
 refine⟨by simp[h.len],λt x hx=>?_⟩;obtain⟨v,h1,h2,h3⟩:=Zkj h hx;refine⟨v,?_,h3⟩;have ht:t<vs.length:=by
  have:=(Yan.1 h2).1;omega
 show(vs.toArray++Array.replicate m undef)[t]? = some v;rw[Array.getElem?_append_left (by simpa using ht)];simpa using h2
def resOf (a:Act):ResultVar->Sem Value
 | .tmp t=>pure (a.tmps.getD t undef)
 | .cell ad t=>do loadVar t (<-asAddr (a.tmps.getD ad undef))
theorem Zl5 {ρ:Nm} {wc w:World} {n:Nat} {s:Stt} {a:Act} (hT:TSat D ρ wc n s.tm a) (hB:BkOk D ρ wc w s.bk):∀{l:List ResultVar} {xs:List SA},resS P s l=some xs->
  ∃vs,(l.mapM (resOf a)).run P w=.ok vs w∧denAs D ρ wc xs vs
 | [],xs,h=>by cases h;exact⟨[],rfl,rfl⟩
 | .tmp t :: r, xs, h => by
   unfold resS at h;split at h
   ·rename_i x hx
    obtain⟨ys,hy,rfl⟩:=Yad.1 h;obtain⟨vs,h1,h2⟩:=Zl5 hT hB hy;refine⟨a.tmps.getD t undef::vs,?_,_,_,rfl,hT.get (x:=.tmp t) hx,h2⟩;have h6:(resOf a (.tmp t)).run P w=.ok (a.tmps.getD t undef) w:=rfl;rw[List.mapM_cons];simp only[Yar,h6,h1,Yag,Yau]
   ·cases h
 | .cell ad ty :: r, xs, h => by
   unfold resS at h;split at h
   ·rename_i x hx
    obtain⟨ys,hy,rfl⟩:=Yad.1 h;obtain⟨vs,h1,h2⟩:=Zl5 hT hB hy;obtain⟨v,h3,h4⟩:=Znd (P:=P) (get:=getS s.tm) (ev:=a.eval) (x:=.tmp ad) (λx z hz=>hT.get hz) hB hx;refine⟨v::vs,?_,_,_,rfl,h4,h2⟩;have e:∃p,a.tmps.getD ad undef=.pointer (some p):=by
     have hx':=hx;unfold loadS at hx';split at hx'
     ·rename_i k off hk
      obtain⟨B,hB,e⟩:=hT.get (x:=.tmp ad) hk;have e2:a.eval (.tmp ad)=.pointer (some ⟨B.blk,B.base+off,none⟩):=by simpa using e
      exact⟨_,e2⟩
     ·cases hx'
    obtain⟨p,e⟩:=e;have h5:(loadVar ty p).run P w=.ok v w:=by
     have:a.eval (.tmp ad)=.pointer (some p):=e;rw[this]at h3;exact h3
    have h6:(resOf a (.cell ad ty)).run P w=.ok v w:=by
     show(do loadVar ty (<-asAddr (a.tmps.getD ad undef)):Sem Value).run P w=_;rw[e];exact h5
    rw[List.mapM_cons];simp only[Yar,h6,h1,Yag,Yau]
   ·cases h
theorem Zfj {ρ:Nm} {wc w:World} {n:Nat} {s:Stt} {a:Act} (hT:TSat D ρ wc n s.tm a) (hB:BkOk D ρ wc w s.bk) {fn:Func} {xs:List SA} (h:resS P s fn.results.toList=some xs) :
  ∃v,(results fn a.tmps).run P w=.ok v w∧denV D ρ wc (resV xs) v:=by
 obtain⟨vs,h1,h2⟩:=Zl5 (P:=P) hT hB h
 have hres:results fn a.tmps=(do
   let vs <-fn.results.mapM (resOf a)
   pure (if h:vs.size=1 then vs[0] else .tuple vs)):=by
  unfold results;congr 1
 rw[hres,Array.mapM_eq_mapM_toList];refine⟨if h:vs.toArray.size=1 then vs.toArray[0] else .tuple vs.toArray,?_,?_⟩
 ·simp only[Yar,map_eq_pure_bind,h1,Yag,Yau]
 ·match xs,vs,h2 with
  | [], vs, h2 =>
    obtain rfl:vs=[]:=h2;exact⟨[],rfl,rfl⟩
  | [x], vs, h2 =>
    obtain⟨v,r,e,hv,hr⟩:=h2;obtain rfl:r=[]:=hr;subst e;exact hv
  | x :: y :: l, vs, h2 =>
    have h3:=h2.len;rw[dif_neg (by simp[h3])];exact⟨vs,rfl,h2⟩
variable {cs:CallS} {ys:YEnv} {n:Nat}
theorem Znp (hcc:∀ys f args bk c th orc r,cs.call ys f args bk c th orc=some r->c<=r.c) {u:Option Value} {f:FuncId} {caps:List (Nat×Nat)} {s s':Stt} {q:List Prop} (h:defS P cs ys u f caps s=some (s',q)):s.c<=s'.c∧∃l,s'.bk=l++s.bk:=by
 unfold defS at h;split at h
 ·split at h
  ·split at h
   ·split at h
    ·split at h
     ·split at h
      ·rename_i hev
       split at h
       ·cases h
        have:=Zch hcc hev;exact⟨this.1,this.2 (λv=>Zs)⟩
       ·cases h
      ·rename_i hev
       split at h
       ·cases h
        have:=Zch hcc hev;exact⟨this.1,this.2 (λv=>Zs)⟩
       ·cases h
      ·cases h
     ·cases h
    ·cases h
   ·cases h
  ·cases h
 ·cases h
theorem Zb9 (hcc:∀ys f args bk c th orc r,cs.call ys f args bk c th orc=some r->c<=r.c):∀{df:List DF} {u u':Option Value} {s s':Stt} {q:List Prop},leaveS P cs ys df u s=some (u',s',q)->s.c<=s'.c∧∃l,s'.bk=l++s.bk
 | [],u,u',s,s',q,h=>by cases h;exact⟨Yab _,[],rfl⟩
 | .col _::r,u,u',s,s',q,h=>Zb9 hcc (df:=r) h
 | .clo f caps :: r, u, u', s, s', q, h => by
   unfold leaveS at h;split at h
   ·rename_i s1 q1 h1
    split at h
    ·rename_i u2 s2 q2 h2
     cases h;obtain⟨c1,l1,e1⟩:=Znp hcc h1;obtain⟨c2,l2,e2⟩:=Zb9 hcc h2;exact⟨Yak c1 c2,l2++l1,by rw[e2,e1,Ybx]⟩
    ·cases h
   ·cases h
def modeOf:Option Value->FrameMode
 | none=>.returning
 | some v=>.panicking [{v:=v,recovered:=false}]
theorem Zq6 {ops:Array Oper} {Q:Exit->Act->List Frame->World->Prop} {D:Den} {ρ:Nm} {wc w:World} {c0:List Frame}:∀{l:List Oper} {k:Nat} {tm tm':List (Nat×SV)} {a:Act},purS P n l tm=some tm'->(∀j,l[j]? = ops[k+j]?)->TSat D ρ wc n tm a->
  (∀a',TSat D ρ wc n tm' a'->a'.defers=a.defers->Q .normal a' c0 w)->wpOpsSIn (WF none) 0 P ops Q (List.range' k l.length) a c0 w
 | [],k,tm,tm',a,h,hl,hT,hK=>by cases h;exact hK a hT rfl
 | o :: r, k, tm, tm', a, h, hl, hT, hK => by
   unfold purS at h;split at h
   ·rename_i x hg hx
    split at h
    ·rename_i hd
     have h0:ops[k]? = some o:=by simpa using(hl 0).symm
     obtain⟨v,h1,h2⟩:=Zkc (P:=P) (D:=D) (ρ:=ρ) (wc:=wc) (w:=w) (bk:=[]) (ev:=a.eval) (λx z hz=>hT.get hz) (λk b hk=>by simp at hk) hx;simp only[Ybm,List.range'_succ,wpOpsSIn,h0];refine⟨λ_ _=>trivial,?_⟩;rw[if_pos (by simp[Region.wanted,hg]),h1];refine Zq6 h (λj=>by have:=hl (j+1);simpa[Ybj,Yfb 1 j]using this) (hT.put hd h2) λa' k1 k2=>hK a' k1 (k2.trans ?_);cases o.dst<;>rfl
    ·cases h
   ·cases h
theorem Zl6 {P:Program} {o:Oper} {ev:Operand->Value} {w:World} (h:isRec o=true):(execOp ev o).run P w=.ok .recover w∧o.guard=none:=by
 unfold isRec at h;split at h
 ·rename_i ts ho hg
  refine⟨?_,hg⟩;unfold execOp;simp only[ho,resolve,Yar,Yau,Yag,invoke,builtin]
 ·cases h
theorem Zwc (hcs:CallOk D P w0 X cs) (hcc:∀ys f args bk c th orc r,cs.call ys f args bk c th orc=some r->c<=r.c) (hm:P.follows .mixedOrders=true) {u:Option Value} {f:FuncId} {caps:List (Nat×Nat)} {s s':Stt} {q:List Prop} (h:defS P cs ys u f caps s=some (s',q)) (hq:∀p∈q,p)
  {bd:Nat} {ρ:Nm} {wc w:World} (hS:Sat D w0 X s.th ρ wc w s.bk) (hY:YOk D P w0 X bd ys ρ wc w) (hn:∀k,s.c<=k->k<s'.c->ρ k=none) {vs:List Value} (hvs:adrs ρ caps vs) {R:Ending->FrameMode->World->Prop}
  (hR:∀v u' ρ' wc' w',settle u'=.returning->Sat D w0 X s'.th ρ' wc' w' s'.bk->Evo ρ wc w s.bk s.c s'.c ρ' wc' w' s'.bk->R (.returned v) u' w'):CallsDIn (WF none) 0 P f vs.toArray (modeOf u) w R:=by
 unfold defS at h;split at h
 ·rename_i fn hf
  split at h
  ·rename_i id ops rest hb
   split at h
   ·rename_i o os hops
    split at h
    ·rename_i hc
     rw[Yam,Yam]at hc;obtain⟨⟨hrec,hdst⟩,hone⟩:=hc;split at h
     ·rename_i tm htm
      have hargs:denAs D ρ wc (capsA caps) vs:=Zgb hvs;have hsz:vs.toArray.size=(capsA caps).length:=by simp[hargs.len]
      refine callsDIn_of_wpSIn hf hb trivial λc₀ cs0 hu=>?_;rw[hsz];have hT0:=Zkk (D:=D) (ρ:=ρ) (w:=wc) hargs (fn.ntmps-(capsA caps).length);have hoo:ops[0]? = some o:=by rw[<-Yaq,hops];rfl
      have hlen:ops.size=os.length+1:=by rw[<-Yaz,hops];rfl
      have fin:∀u',settle u'=.returning->wpOpsSIn (WF none) 0 P ops (Exit.thenS (rest.wpSIn (WF none) 0 P (bodyPostS P fn c₀ cs0 R)) (bodyPostS P fn c₀ cs0 R)) (List.range' 1 os.length)
        (({tmps:=vs.toArray++Array.replicate (fn.ntmps-(capsA caps).length) undef,defers:=[]}:Act).put o.dst (u.getD .nilIface)) ({c₀ with mode:=u'}::cs0) w:=by
       intro u' hu';refine Zq6 (D:=D) (ρ:=ρ) (wc:=wc) htm (λj=>?_) (hT0.put hdst ⟨rfl,hone⟩) λa' k1 k2=>?_
       ·rw[<-Yaq,hops,Yfb 1 j,List.getElem?_cons_succ]
       ·have hd0:a'.defers=[]:=k2.trans (by cases o.dst<;>rfl)
        show rest.wpSIn (WF none) 0 P _ a' _ w;refine wpSIn_of_wpIn rfl ?_;split at h
        ·rename_i s2 q2 hev
         split at h
         ·rename_i xs hdf hres
          cases h;refine Zno hcs hcc hm FU false rest _ s2 .norm _ bd 0 ρ wc w a' _ none (Yat _) (λ_=>rfl) hev hq hS hY k1 hd0 hn ?_;intro ρ' wc' w' a2 m1 m2 m3 m4;rw[hdf]at m3;obtain⟨v,hv1,hv2⟩:=Zfj (P:=P) m2 m1.bkOk hres;exact⟨m3,u',rfl,v,hv1,hR v u' ρ' wc' w' hu' m1 m4⟩
         ·cases h
        ·rename_i s2 q2 hev
         split at h
         ·rename_i xs hdf hres
          cases h;refine Zno hcs hcc hm FU false rest _ s2 .ret _ bd 0 ρ wc w a' _ none (Yat _) (λ_=>rfl) hev hq hS hY k1 hd0 hn ?_;intro ρ' wc' w' a2 m1 m2 m3 m4;rw[hdf]at m3;obtain⟨v,hv1,hv2⟩:=Zfj (P:=P) m2 m1.bkOk hres;exact⟨m3,u',rfl,v,hv1,hR v u' ρ' wc' w' hu' m1 m4⟩
         ·cases h
        ·cases h
      apply wpSIn_seq;apply wpSIn_region;rw[hlen,List.range_eq_range',List.range'_succ];simp only[wpOpsSIn,hoo];obtain⟨hrun,hg⟩:=Zl6 (P:=P) (ev:=({tmps:=vs.toArray++Array.replicate (fn.ntmps-(capsA caps).length) undef,defers:=[]}:Act).eval) (w:=w) hrec;refine⟨λ_ _=>trivial,?_⟩;rw[if_pos (by simp[Region.wanted,hg]),hrun];dsimp only;cases u with
      | none =>
        have hr:recoverD (c₀::cs0)=none:=by simp only[recoverD,hu,modeOf]
        rw[hr];have:=fin .returning rfl;rw[show({c₀ with mode:=.returning}:Frame)=c₀ from by
         cases c₀;simp only[modeOf]at hu;subst hu;rfl]at this
        exact this
      | some v =>
        have hr:recoverD (c₀::cs0)=some (v,{c₀ with mode:=.panicking [{v:=v,recovered:=true}]}::cs0):=by simp only[recoverD,hu,modeOf]
        rw[hr];exact fin _ rfl
     ·cases h
    ·cases h
   ·cases h
  ·cases h
 ·cases h
theorem Zep (hcs:CallOk D P w0 X cs) (hcc:∀ys f args bk c th orc r,cs.call ys f args bk c th orc=some r->c<=r.c) (hm:P.follows .mixedOrders=true) {fn:Func} {tmps:Array Value} {R:Ending->World->Prop} {ρB:Nm} {wcB wB:World} {bkB:List (Nat×Blk)} {cB:Nat}
  (hB:∀k b,Liv bkB k b->∃B,ρB k=some B) (h0:w0.heap.size<=wB.heap.size):∀{df:List DF} {u u':Option Value} {s s':Stt} {q:List Prop} {bd:Nat} {ρ:Nm} {wc w:World} {ds:List Deferred},
  leaveS P cs ys df u s=some (u',s',q)->(∀p∈q,p)->Sat D w0 X s.th ρ wc w s.bk->YOk D P w0 X bd ys ρ wc w->DfOk P wB.heap.size ρ w df ds->(∀k,s.c<=k->k<s'.c->ρ k=none)->Evo ρB wcB wB bkB cB s.c ρ wc w s.bk->
  (∀ρ' wc' w',ρ.le ρ'->Ext wc wc'->Sat D w0 X s'.th ρ' wc' w' s'.bk->Evo ρB wcB wB bkB cB s'.c ρ' wc' w' s'.bk->LeavesInM (WF none) 0 P fn tmps R [] (modeOf u') w')->LeavesInM (WF none) 0 P fn tmps R ds (modeOf u) w
 | [], u, u', s, s', q, bd, ρ, wc, w, ds, h, hq, hS, hY, hD, hn, hE, hK => by
   cases h;rw[show ds=[] from hD];exact hK ρ wc w (Nm.le.refl _) (Ext.refl _) hS hE
 | .col k :: r, u, u', s, s', q, bd, ρ, wc, w, ds, h, hq, hS, hY, ⟨B, d, h1, h2, hm0, hb, h3, h4⟩, hn, hE, hK => by
   unfold leaveS at h;subst h1;refine⟨by cases u<;>simp[modeOf],.inl ⟨B.blk,_,rfl,run_takeDeferred h3,?_⟩⟩;refine Zep hcs hcc hm hB h0 h hq (hS.putObj h3 rfl Zo _) (hY.step (Nm.le.refl _) (Ext.refl _) λl lp _ hl=>?_) (h4.step (Nm.le.refl _) λl ⟨x,hx,e⟩ hl=>?_) hn (hE.putNew hm0 _) hK
   ·rw[World.putObj_heap_other ?_]
    ·exact hl
    ·intro e;subst e;rw[h3]at hl;cases hl
   ·rw[World.putObj_heap_other ?_]
    ·exact hl
    ·have:=hb x hx l e
     omega
 | .clo f caps :: r, u, u', s, s', q, bd, ρ, wc, w, ds, h, hq, hS, hY, ⟨vs, d, h1, h2, h3, h4⟩, hn, hE, hK => by
   unfold leaveS at h;subst h1;split at h
   ·rename_i s1 q1 hd
    split at h
    ·rename_i u2 s2 q2 hl
     cases h;have c1:=(Znp hcc hd).1;have c2:=(Zb9 hcc hl).1;refine⟨by cases u<;>simp[modeOf],.inr ⟨(λhh=>by cases hh),.func f,vs.toArray,f,vs.toArray,rfl,?_,λ_ _=>trivial,?_⟩⟩
     ·simp[invoke,Zfg h3]
     ·refine Zwc hcs hcc hm hd (λp hp=>hq p (by simp[hp])) hS hY (λk k1 k2=>hn k k1 Zo) h2 ?_
      intro v u3 ρ' wc' w' hset k1 k2;dsimp only;rw[hset];refine Zep (u:=none) hcs hcc hm hB h0 hl (λp hp=>hq p (by simp[hp])) k1 (hY.evo hS k2) (h4.evo hS k2) (λk j1 j2=>?_) (hE.trans k2 hB) λρ2 wc2 w2 g1 g2 g3 g4=>hK ρ2 wc2 w2 (k2.rho.trans g1) (k2.ext.trans g2) g3 g4;rw[k2.dom k (.inr j1)];exact hn k Zo j2
    ·cases h
   ·cases h
theorem Zon {sp:List (Ctr D P w0 X)} {f:FuncId} {args:List SA} {bk:List (Nat×Blk)} {c:Nat} {orc:List (Option Bool)} {r:OpR} (h:specRun sp f args bk c orc=some r):c<=r.c:=by
 unfold specRun at h;split at h
 ·rename_i p hp
  exact p.cc _ _ _ _ _ h
 ·cases h
theorem Zi3 {cs:CallS} (hcc:∀ys f args bk c th orc r,cs.call ys f args bk c th orc=some r->c<=r.c) {fn:Func} {bk:List (Nat×Blk)} {c:Nat} {u:Option Value} {s':Stt} {q:List Prop} {r:OpR} (h:endS P cs ys fn bk c u s' q=some r):s'.c<=r.c:=by
 unfold endS at h;split at h
 ·rename_i hl
  cases h;exact(Zb9 hcc hl).1
 ·rename_i hl
  split at h
  ·cases h
   exact(Zb9 hcc hl).1
  ·cases h
 ·cases h
theorem Zq7 (sp:List (Ctr D P w0 X)) (fx:List (Fct D P w0 X)):∀d,∀ys f args bk c th orc r,evF P sp fx d ys f args bk c th orc=some r->c<=r.c
 | 0,ys,f,args,bk,c,th,orc,r,h=>by simp[evF]at h
 | d + 1, ys, f, args, bk, c, th, orc, r, h => by
   have hcc:=Zq7 sp fx d;simp only[evF]at h;split at h
   ·rename_i hs
    cases h;exact Zon hs
   ·split at h
    ·split at h
     ·split at h
      ·cases h
      ·rename_i hev
       exact Yak (Zch (cs:=⟨evF P sp fx d,fctRun fx⟩) hcc hev).1 (Zi3 (cs:=⟨evF P sp fx d,fctRun fx⟩) hcc h)
      ·rename_i hev
       exact Yak (Zch (cs:=⟨evF P sp fx d,fctRun fx⟩) hcc hev).1 (Zi3 (cs:=⟨evF P sp fx d,fctRun fx⟩) hcc h)
      ·rename_i hev
       exact Yak (Zch (cs:=⟨evF P sp fx d,fctRun fx⟩) hcc hev).1 (Zi3 (cs:=⟨evF P sp fx d,fctRun fx⟩) hcc h)
      ·cases h
     ·cases h
    ·cases h
theorem Zwd (hcs:CallOk D P w0 X cs) (hcc:∀ys f args bk c th orc r,cs.call ys f args bk c th orc=some r->c<=r.c) (hm:P.follows .mixedOrders=true) {fn:Func} {bk:List (Nat×Blk)} {c:Nat} {u:Option Value} {s':Stt} {q:List Prop} {r:OpR} (h:endS P cs ys fn bk c u s' q=some r) (hq:∀p∈r.obl,p)
  (hlt:∀k b,bk.look k=some b->k<c) (hsuf:u=none->∃l,s'.bk=l++bk) {th:Nat} {ρ:Nm} {wc w:World} (hS:Sat D w0 X th ρ wc w bk) (hn:∀k,c<=k->k<r.c->ρ k=none) (hcs':c<=s'.c)
  {bd:Nat} {ρ':Nm} {wc' w':World} {a:Act} (k1:Sat D w0 X s'.th ρ' wc' w' s'.bk) (hY:YOk D P w0 X bd ys ρ' wc' w') (k2:TSat D ρ' wc' n s'.tm a) (k3:DfOk P w.heap.size ρ' w' s'.df a.defers) (k4:Evo ρ wc w bk c s'.c ρ' wc' w' s'.bk) :
  LeavesInM (WF none) 0 P fn a.tmps (Post D w0 X ρ wc w bk c r) a.defers (modeOf u) w':=by
 have tmS:∀{df:List DF} {u u':Option Value} {s s2:Stt} {q:List Prop},leaveS P cs ys df u s=some (u',s2,q)->s2.tm=s.tm:=by
  intro df;induction df with
  | nil=>intro u u' s s2 q h;cases h;rfl
  | cons x r ih =>
    intro u u' s s2 q h;cases x with
    | col k=>exact ih (by unfold leaveS at h;exact h)
    | clo f caps =>
      unfold leaveS at h;split at h
      ·rename_i s1 q1 hd
       split at h
       ·rename_i hl
        cases h;rw[ih hl];unfold defS at hd;repeat' (split at hd)
        all_goals first|contradiction|(cases hd;rfl)
       ·cases h
      ·cases h
 unfold endS at h;split at h
 ·rename_i v s2 q2 hl
  cases h;have c2:=(Zb9 hcc hl).1;refine Zep hcs hcc hm hS.named hS.fr.size hl (λp hp=>hq p (by simp[hp])) k1 hY k3 (λk j1 j2=>by rw[k4.dom k (.inr j1)];exact hn k Zo j2) k4 ?_;intro ρ2 wc2 w2 g1 g2 g3 g4;exact⟨undef,ρ2,wc2,rfl,trivial,g3,g4⟩
 ·rename_i s2 q2 hl
  split at h
  ·rename_i xs hres
   cases h;obtain⟨c2,l2,hl2⟩:=Zb9 hcc hl;refine Zep hcs hcc hm hS.named hS.fr.size hl (λp hp=>hq p (by simp[hp])) k1 hY k3 (λk j1 j2=>by rw[k4.dom k (.inr j1)];exact hn k Zo j2) k4 ?_;intro ρ2 wc2 w2 g1 g2 g3 g4;have hT2:TSat D ρ2 wc2 n s2.tm {tmps:=a.tmps,defers:=[]}:=by
    rw[tmS hl];exact⟨k2.size,(k2.mono g1 g2).at_⟩
   obtain⟨v,hv1,hv2⟩:=Zfj (P:=P) hT2 g3.bkOk hres;refine⟨v,hv1,v,ρ2,wc2,rfl,hv2,?_⟩
   have hsub:∀keep:Nat->Bool,(∀k,k<c->keep k=true)->Sub' ((match u with
     | none=>dedup keep (s2.bk.take (s2.bk.length-bk.length)) []
     | some _=>dedup keep s2.bk []++tombs s2.bk bk)++bk) s2.bk:=by
    intro keep hkeep k b hk;obtain⟨hk,hdd⟩:=hk;refine⟨?_,hdd⟩;rw[Zba]at hk;cases u with
    | none =>
      dsimp only at hk;obtain⟨l,hl'⟩:=hsuf rfl;have e:s2.bk=(l2++l)++bk:=by rw[hl2,hl',Ybx]
      have e2:s2.bk.take (s2.bk.length-bk.length)=l2++l:=by rw[e,Yay,Ybf,List.take_left]
      rw[e2,Zc9]at hk;rw[e,Zba];simp only[mem,List.any_nil,Ybq,if_false]at hk;by_cases hkp:keep k=true
      ·rw[if_pos hkp]at hk;exact hk
      ·rw[if_neg hkp,Ydd]at hk
       exact absurd (hkeep k (hlt k b hk)) hkp
    | some v =>
      dsimp only at hk;obtain⟨t1,t2,t3⟩:=Zib s2.bk k bk;rw[Zba,Zc9]at hk;simp only[mem,List.any_nil,Ybq,if_false]at hk;have lateT:∀{z:Option Blk},(z.or ((tombs s2.bk bk).look k)).or (bk.look k)=some b->z=none->s2.bk.look k=none∨keep k≠true->False:=by
       intro z hz hzn hor;subst hzn;rw[Ydd]at hz;cases ht:(tombs s2.bk bk).look k with
       | some y =>
         rw[ht,Ydk]at hz;cases hz;rw[t1 _ ht]at hdd;cases hdd
       | none =>
         rw[ht,Ydd]at hz;rcases hor with h|h
         ·have:=t2 h (by rw[hz];rfl)
          rw[ht]at this;cases this
         ·exact h (hkeep k (hlt k b hz))
      by_cases hkp:keep k=true
      ·rw[if_pos hkp]at hk
       cases hsk:s2.bk.look k with
       | some y =>
         rw[hsk,Ydk,Ydk]at hk;exact hk
       | none =>
         rw[hsk]at hk;exact(lateT hk rfl (.inl hsk)).elim
      ·rw[if_neg hkp]at hk
       exact(lateT hk rfl (.inr hkp)).elim
   have hkc:∀(l:List SA) (p m:List (Nat×Blk)) k,k<c->keepS' c l p m k=true:=by
    intro l p m k hk;unfold keepS';rw[Ybo];exact .inl (by rw[Nat.blt_eq];exact hk)
   cases u with
   | none =>
     have hs:=hsub _ (hkc xs (s2.bk.take (s2.bk.length-bk.length)) s2.bk);exact⟨g3.sub' hs,g4.sub' hs⟩
   | some v =>
     have hs:=hsub _ (hkc xs s2.bk s2.bk);exact⟨g3.sub' hs,g4.sub' hs⟩
  ·cases h
 ·cases h
theorem Znq (hm:P.follows .mixedOrders=true) (sp:List (Ctr D P w0 X)) (fx:List (Fct D P w0 X)):∀d,CallFOk D P w0 X (evF P sp fx d)
 | 0=>λys f args bk c th orc r h=>by simp[evF]at h
 | d + 1 => by
   have ih:CallOk D P w0 X ⟨evF P sp fx d,fctRun fx⟩:=⟨Znq hm sp fx d,λo get x h=>Zgw h⟩
   have hcc:=Zq7 sp fx d;intro ys f args bk c th orc r h hobl bd ρ wc w vals hS hY hlt hth hn hargs;simp only[evF]at h;split at h
   ·rename_i r' hsr
    cases h;unfold specRun at hsr;split at hsr
    ·rename_i p hp
     obtain rfl:=Zki hp;exact p.sound _ _ _ _ _ hsr hobl th ρ wc w vals hS hlt hn hargs
    ·cases hsr
   ·split at h
    ·rename_i fn hf
     split at h
     ·rename_i code hb
      have hsz:vals.toArray.size=args.length:=by simp[hargs.len]
      have main:∀{o:Ot} {s':Stt} {q:List Prop} {u:Option Value},evC P ⟨evF P sp fx d,fctRun fx⟩ ys (args.length+(fn.ntmps-args.length)) FU false code ⟨frame0 0 args,bk,c,th,orc,[]⟩=some (o,s',q)->endS P ⟨evF P sp fx d,fctRun fx⟩ ys fn bk c u s' q=some r->
        (∀a w',LeavesInM (WF none) 0 P fn a.tmps (Post D w0 X ρ wc w bk c r) a.defers (modeOf u) w'->bodyPostM (WF none) 0 P fn (Post D w0 X ρ wc w bk c r) o.ex a w')->(u=none->∀v,o≠.pan v)->Calls P f vals.toArray w (Post D w0 X ρ wc w bk c r):=by
       intro o s' q u hev hend hex hou;obtain⟨p1,p2⟩:=Zch (cs:=⟨evF P sp fx d,fctRun fx⟩) hcc hev;have c2:=Zi3 (cs:=⟨evF P sp fx d,fctRun fx⟩) hcc hend;have hq:∀p∈q,p:=λp hp=>hobl p (by
        unfold endS at hend;split at hend
        ·cases hend;simp[hp]
        ·split at hend
         ·cases hend;simp[hp]
         ·cases hend
        ·cases hend)
       refine callsIn_WF (ro:=none) (n:=0) |>.1 (callsIn_of_wp_marks hf hb trivial ?_ rfl)
       rw[hsz];refine Zno ih hcc hm FU false code _ s' o q bd w.heap.size ρ wc w _ _ none (Yab _) (λ_=>rfl) hev hq hS hY (Zkk hargs _) rfl (λk j1 j2=>hn k j1 Zo) ?_;intro ρ' wc' w' a' k1 k2 k3 k4;exact hex a' w' (Zwd ih hcc hm hend hobl hlt (λhu=>p2 (hou hu)) hS hn p1 k1 (hY.evo hS k4) k2 k3 k4)
      split at h
      ·cases h
      ·rename_i s' q hev
       exact main hev h (λa w' hl=>hl) (λ_ v=>Zs)
      ·rename_i s' q hev
       exact main hev h (λa w' hl=>hl) (λ_ v=>Zs)
      ·rename_i v s' q hev
       exact main hev h (λa w' hl=>hl) (λhu=>by cases hu)
      ·cases h
     ·cases h
    ·cases h
end
end
section
def AllP:List Prop->Prop
 | []=>True
 | p::r=>p∧AllP r
theorem AllP.all:∀{l:List Prop},AllP l->∀p∈l,p
 | [],_,p,h=>by cases h
 | x :: r, ⟨hx, hr⟩, p, h => by
   rcases Ycp.1 h with rfl|h
   ·exact hx
   ·exact AllP.all hr p h
theorem Zq8 {D:Den} {P:Program} (hm:P.follows .mixedOrders=true) {w:World} (sp:List (Ctr D P w (λ_=>False))) (fx:List (Fct D P w (λ_=>False))) {f:FuncId} {d:Nat} {args:List SA} {orc:List (Option Bool)} (V:SV) (L:List Prop)
  (hev:(evF P sp fx d [] f args [] 0 0 orc).map (λr=>(r.v,r.obl,r.pan))=some (V,L,none)) (hL:AllP L) {vals:List Value} (hargs:denAs D (λ_=>none) w args vals) :
  Calls P f vals.toArray w λe w'=>∃v ρ',e=.returned v∧denV D ρ' w' V v∧Below w.heap.size w w':=by
 obtain⟨r,hr,he⟩:=Yad.1 hev;simp only[Yco]at he;obtain⟨rfl,rfl,hpan⟩:=he;have hS:Sat D w (λ_=>False) 0 (λ_=>none) w w []:=⟨Frm.refl _ _,Ext.refl _,(λ_ _ _ _ _ _ h=>by have:=h.1;simp at this),(λ_ _ h=>by cases h),λ_ _ h=>by have:=h.1;simp at this⟩
 refine(Znq hm sp fx d [] f args [] 0 0 orc _ hr hL.all 0 (λ_=>none) w w vals hS trivial (λk b hk=>by simp at hk) (Yab _) (λ_ _ _=>rfl) hargs).mono ?_;rintro e w' ⟨u,ρ',wc',hend,hu,k1,k2⟩;unfold OpR.ends at hend;rw[hpan]at hend;exact⟨u,ρ',hend,hu.mono (Nm.le.refl _) k1.ext,⟨k2.os,k2.tape,k2.output,k2.size,λi hi=>k2.loc i hi λk b B hk=>by have:=hk.1;simp at this⟩⟩
section
variable {D:Den} {w0:World} {X:Nat->Prop} {th:Nat} {ρ:Nm} {wc w:World} {bk:List (Nat×Blk)}
end
end
end Go.Ex
namespace Go.Proofs.W
open Go.RowKit Go.Mono
section
open Go.Ex
def LongOk (s:Bool) (n:Nat) (f:Nat->Int):Prop:=Digs f n∧(s=true->0<n)
def BadQ (w:World) (cs:List Value):Prop:=
 ∃(s t:Bool) (p q:Option Addr) (n m c e:Nat) (f g:Nat->Int),cs=[.bool s,.slice p n c,.bool t,.slice q m e]∧SlF w (.slice p n c) n f∧SlF w (.slice q m e) m g∧n<=600∧m<=600∧
   ¬(LongOk s n f∧LongOk t m g∧t=false∧0<m∧gcdZ (vf f n) (vf g m)=1)
def qDen (K:Nat->Value) (hK:∀i,(K i).oneCell'=true):Den where
 K:=K
 kone:=hK
 R:=λw q cs=>QV w (.agg cs.toArray) q
 ext:=λh hx=>h.ext hx
 len:=λh=>by
  obtain⟨p,k,c,p',k',c',e,_⟩:=h;have:=congrArg Value.cells e;simp only[Value.cells]at this;have:=congrArg Array.size this;simpa using this
 one:=λh=>by
  obtain⟨p,k,c,p',k',c',e,_⟩:=h;have:=congrArg Value.cells e;simp only[Value.cells]at this;have:=congrArg Array.toList this;simp only[Yex]at this;rw[this];simp[Value.oneCell']
 S:=λw n v=>(∃p k c,v=.slice p k c)∧Sz 600 w v (n:Int)
 sext:=λh hx=>⟨h.1,h.2.ext hx⟩
 sone:=λh=>by
  obtain⟨⟨p,k,c,rfl⟩,_⟩:=h;simp[Value.oneCell']
 env:=λi=>match K (1000+2*i),K (1001+2*i) with
  | .int _ n,.int _ d=>mkRat n d.toNat
  | _,_=>0
 B:=BadQ
 bext:=λ⟨s,t,p,q,n,m,c,e,f,g,h1,h2,h3,h4⟩ hx=>⟨s,t,p,q,n,m,c,e,f,g,h1,h2.ext hx,h3.ext hx,h4⟩
 blen:=λ⟨s,t,p,q,n,m,c,e,f,g,h1,h2⟩=>by rw[h1];rfl
 bone:=λ⟨s,t,p,q,n,m,c,e,f,g,h1,h2⟩=>by rw[h1];simp[Value.oneCell']
 split:=λh=>by
  obtain⟨p,k,c,p',k',c',e,h2,h3⟩:=h;have:=congrArg Value.cells e;simp only[Value.cells]at this;have:=congrArg Array.toList this;simp only[Yex]at this;exact⟨_,_,this,⟨⟨_,_,_,rfl⟩,h2⟩,⟨_,_,_,rfl⟩,h3⟩
variable {K:Nat->Value} {hK:∀i,(K i).oneCell'=true}
theorem den_quo {ρ:Nm} {w:World} {q:Rat} {v:Value}:denA (qDen K hK) ρ w (.agg [.quo q]) v↔QV w v q:=by
 constructor
 ·rintro⟨cs,e,c,d,e2,hc,hd⟩
  obtain rfl:d=[]:=hd;rw[Ydg]at e2;subst e2;rw[e];exact hc
 ·intro h
  obtain⟨p,k,c,p',k',c',e,h2⟩:=h;refine⟨[.bool (decide (q.num<0)),.slice p k c,.bool false,.slice p' k' c'],e,_,[],(Ydg _).symm,?_,rfl⟩;exact⟨p,k,c,p',k',c',rfl,h2⟩
theorem QV.agg {w:World} {v:Value} {q:Rat} (h:QV w v q):∃C:Array Value,v=.agg C:=by
 obtain⟨p,k,c,p',k',c',e,h2⟩:=h;exact⟨_,e⟩
def asQ (l:List U):Option Rat:=
 match l with
 | [.quo q]=>some q
 | [.val (.bool s), .dig n, .val (.bool false), .dig d] =>
   if hd:d≠0 then if hg:Nat.Coprime n d then bif s&&Nat.beq n 0 then none else some ⟨bif s then -(n:Int) else n,d,hd,by cases s<;>simpa using hg⟩ else none else none
 | _=>none
theorem Zeq {ρ:Nm} {w:World} {l:List U} {q:Rat} (h:asQ l=some q) {v:Value} (hv:denA (qDen K hK) ρ w (.agg l) v):QV w v q:=by
 unfold asQ at h;split at h
 ·cases h
  exact den_quo.1 hv
 ·rename_i s n d
  split at h
  ·rename_i hd
   split at h
   ·rename_i hg
    cases hsn:(s&&Nat.beq n 0) with
    | true=>rw[hsn]at h;cases h
    | false =>
      rw[hsn]at h;cases h;obtain⟨cs,rfl,c1,d1,rfl,⟨rfl,_⟩,c2,d2,rfl,⟨v2,⟨⟨p,k,c,rfl⟩,hs2⟩,rfl⟩,c3,d3,rfl,⟨rfl,_⟩,c4,d4,rfl,⟨v4,⟨⟨p',k',c',rfl⟩,hs4⟩,rfl⟩,hd4⟩:=hv;obtain rfl:d4=[]:=hd4;have hnum:decide ((bif s then -(n:Int) else(n:Int))<0)=s:=by
       cases s with
       | false=>simp
       | true =>
         have:n≠0:=λe=>by subst e;simp at hsn
         simp;omega
      have habs:(bif s then -(n:Int) else(n:Int)).natAbs=n:=by cases s<;>simp
      refine⟨p,k,c,p',k',c',?_,?_,hs4⟩
      ·show Value.agg _=_
       dsimp only;rw[hnum];rfl
      ·dsimp only
       rw[habs];exact hs2
   ·cases h
  ·cases h
 ·cases h
def okV:SA:=.one (.val (.int .i64 0))
def binRun (cl:Bool) (op:Rat->Rat->Rat) (side:Rat->Rat->Option (List Prop)) (args:List SA) (bk:List (Nat×Blk)) (orc:List (Option Bool)):Option (SV×List Prop×List (Option Bool)):=
 match args with
 | [.agg x, .agg y] => match asQ x, asQ y with
   | some a,some b=>(side a b).bind λL=>bif cl then qcase (op a b) λq=>some (.tup [.agg [.quo q],okV],L,orc) else some (.tup [.agg [.quo (op a b)],okV],L,orc)
   | _,_=>none
 | _=>none
def binSpec (cl:Bool) (w0:World) (X:Nat->Prop) (f:FuncId) (op:Rat->Rat->Rat) (side:Rat->Rat->Option (List Prop))
    (h:∀(a b:Rat) (u v:Value) (L:List Prop) (w:World),side a b=some L->(∀p∈L,p)->QV w u a->QV w v b->
     Calls Tryz.prog f #[u,v] w λe w'=>∃r,e=.returned (.tuple #[r,.int .i64 0])∧QV w' r (op a b)∧Below w.heap.size w w'):Ctr (qDen K hK) Tryz.prog w0 X:=.plain f (binRun cl op side)<|by
    intro args bk orc v obl orc' hr hobl ρ w vals hfr hb hargs;unfold binRun at hr;split at hr
    ·rename_i x y
     split at hr
     ·rename_i a b ha hb'
      obtain⟨L,hL,e⟩:=Ybg.1 hr;have e:some (SV.tup [SA.agg [U.quo (op a b)],okV],L,orc)=some (v,obl,orc'):=by
       cases cl with
       | false=>exact e
       | true=>exact(Zit (op a b) (λq=>some (SV.tup [SA.agg [U.quo q],okV],L,orc))).symm.trans e
      cases e;obtain⟨v1,r1,rfl,h1,v2,r2,rfl,h2,h3⟩:=hargs;obtain rfl:r2=[]:=h3;refine(h a b v1 v2 _ w hL hobl (Zeq ha h1) (Zeq hb' h2)).mono ?_;rintro e w' ⟨r,rfl,hr,hbl⟩;exact⟨_,rfl,⟨[r,.int .i64 0],rfl,_,_,rfl,den_quo.2 hr,_,_,rfl,⟨rfl,rfl⟩,rfl⟩,hbl⟩
     ·cases hr
    ·cases hr
structure Side where
 cl:Bool
 fit:Rat->Option (List Prop)
 nz:Rat->Option (List Prop)
 hfit:∀q L,fit q=some L->(∀p∈L,p)->Fits q
 hnz:∀q L,nz q=some L->(∀p∈L,p)->q.num≠0
 pos:Rat->Option (List Prop)
 hpos:∀q L,pos q=some L->(∀p∈L,p)->0<q
def Side.two (S:Side) (a b:Rat):Option (List Prop):=
 match S.nz b,S.fit (a/b) with
 | some L,some M=>some (L++M)
 | _,_=>none
def cAdd (S:Side) (w0:World) (X:Nat->Prop):Ctr (qDen K hK) Tryz.prog w0 X:=binSpec S.cl w0 X 90 (λa b=>a+b) (λa b=>S.fit (a+b)) λa b u v L w hs hL h1 h2=>Zxw a b u v w w (Ext.refl _) h1 h2 (S.hfit _ _ hs hL)
def cSub (S:Side) (w0:World) (X:Nat->Prop):Ctr (qDen K hK) Tryz.prog w0 X:=binSpec S.cl w0 X 91 (λa b=>a-b) (λa b=>S.fit (a-b)) λa b u v L w hs hL h1 h2=>Zqm a b u v w w (Ext.refl _) h1 h2 (S.hfit _ _ hs hL)
def cMul (S:Side) (w0:World) (X:Nat->Prop):Ctr (qDen K hK) Tryz.prog w0 X:=binSpec S.cl w0 X 89 (λa b=>a*b) (λa b=>S.fit (a*b)) λa b u v L w hs hL h1 h2=>Zqn a b u v w w (Ext.refl _) h1 h2 (S.hfit _ _ hs hL)
def cDiv (S:Side) (w0:World) (X:Nat->Prop):Ctr (qDen K hK) Tryz.prog w0 X:=binSpec S.cl w0 X 63 (λa b=>a/b) S.two λa b u v L w hs hL h1 h2=>by
 unfold Side.two at hs;split at hs
 ·rename_i L1 L2 e1 e2
  cases hs;exact Zxx a b u v w w (Ext.refl _) h1 h2 (S.hnz _ _ e1 λp hp=>hL p (Ycy _ hp)) (S.hfit _ _ e2 λp hp=>hL p (Ydv _ hp))
 ·cases hs
def ofRun (args:List SA) (bk:List (Nat×Blk)) (orc:List (Option Bool)):Option (SV×List Prop×List (Option Bool)):=
 match args with
 | [.one (.val (.int .i64 n)),.one (.val (.int .i64 d))]=>if -9223372036854775808<=n∧n<=9223372036854775807∧-9223372036854775808<=d∧d<=9223372036854775807∧d≠0 then qcase (Rat.divInt n d) λq=>some (.tup [.agg [.quo q],okV],[],orc) else none
 | _=>none
def cOf (w0:World) (X:Nat->Prop):Ctr (qDen K hK) Tryz.prog w0 X:=.plain 64 ofRun<|by
    intro args bk orc v obl orc' hr hobl ρ w vals hfr hb hargs;unfold ofRun at hr;split at hr
    ·rename_i n d
     split at hr
     ·rename_i hc
      rw[Zit]at hr;cases hr;obtain⟨v1,r1,rfl,h1,v2,r2,rfl,h2,h3⟩:=hargs;obtain rfl:r2=[]:=h3;obtain rfl:v1=.int .i64 n:=by simpa using h1.1
      obtain rfl:v2=.int .i64 d:=by simpa using h2.1
      refine(Zq9 n d hc.2.2.2.2 w hc.1 hc.2.1 hc.2.2.1 hc.2.2.2.1).mono ?_;rintro e w' ⟨r,rfl,hr,hbl⟩;exact⟨_,rfl,⟨[r,.int .i64 0],rfl,_,_,rfl,den_quo.2 hr,_,_,rfl,⟨rfl,rfl⟩,rfl⟩,hbl⟩
     ·cases hr
    ·cases hr
def sameRun (args:List SA) (bk:List (Nat×Blk)) (orc:List (Option Bool)):Option (SV×List Prop×List (Option Bool)):=
 match args with
 | [.agg x, .agg y] => match asQ x, asQ y with
   | some a,some b=>some (.a (.one (.tst (decide (a=b)))),[],orc)
   | _,_=>none
 | _=>none
def cSame (w0:World) (X:Nat->Prop):Ctr (qDen K hK) Tryz.prog w0 X:=.plain 30 sameRun<|by
    intro args bk orc v obl orc' hr hobl ρ w vals hfr hb hargs;unfold sameRun at hr;split at hr
    ·rename_i x y
     split at hr
     ·rename_i a b ha hb'
      cases hr;obtain⟨v1,r1,rfl,h1,v2,r2,rfl,h2,h3⟩:=hargs;obtain rfl:r2=[]:=h3;refine(Zt2 v1 v2 a b w w (Ext.refl _) (Zeq ha h1) (Zeq hb' h2)).mono ?_;rintro e w' ⟨rfl,hbl⟩;exact⟨_,rfl,rfl,hbl⟩
     ·cases hr
    ·cases hr
def isZ (l:List U):Bool:=
 match l with
 | [.val (.bool false),.val (.slice none 0 0),.val (.bool false),.val (.slice none 0 0)]=>true
 | _=>false
def checkRun (args:List SA) (bk:List (Nat×Blk)) (orc:List (Option Bool)):Option (SV×List Prop×List (Option Bool)):=
 match args with
 | [.agg x] => match asQ x with
   | some a=>some (.a okV,[],orc)
   | none=>if isZ x then some (.a (.one (.val (.int .i64 40))),[],orc) else none
 | _=>none
def cCheck (w0:World) (X:Nat->Prop):Ctr (qDen K hK) Tryz.prog w0 X:=.plain 87 checkRun<|by
    intro args bk orc v obl orc' hr hobl ρ w vals hfr hb hargs;unfold checkRun at hr;split at hr
    ·rename_i x
     obtain⟨v1,r1,rfl,h1,h3⟩:=hargs;obtain rfl:r1=[]:=h3;split at hr
     ·rename_i a ha
      cases hr;refine(Zgp v1 a w w (Ext.refl _) (Zeq ha h1)).mono ?_;rintro e w' ⟨rfl,hbl⟩;exact⟨_,rfl,⟨rfl,rfl⟩,hbl⟩
     ·split at hr
      ·rename_i hz
       cases hr;unfold isZ at hz;split at hz
       ·obtain⟨cs,rfl,c1,d1,rfl,⟨rfl,_⟩,c2,d2,rfl,⟨rfl,_⟩,c3,d3,rfl,⟨rfl,_⟩,c4,d4,rfl,⟨rfl,_⟩,hd4⟩:=h1
        obtain rfl:d4=[]:=hd4;refine(Zrb w).mono ?_;rintro e w' ⟨rfl,hbl⟩;exact⟨_,rfl,⟨rfl,rfl⟩,hbl⟩
       ·cases hz
      ·cases hr
    ·cases hr
def asR (l:List U):Option Rat:=
 match l with
 | [.val (.bool s), .dig n, .dig d] =>
   if hd:d≠0 then if hg:Nat.Coprime n d then some ⟨bif s then -(n:Int) else n,d,hd,by cases s<;>simpa using hg⟩ else none else none
 | _=>none
def toldRun (args:List SA) (bk:List (Nat×Blk)) (orc:List (Option Bool)):Option (SV×List Prop×List (Option Bool)):=
 match args with
 | [.agg x]=>(asR x).bind λq=>qcase q λq=>some (.tup [.agg [.quo q],okV],[],orc)
 | _=>none
def cTold (w0:World) (X:Nat->Prop):Ctr (qDen K hK) Tryz.prog w0 X:=.plain 145 toldRun<|by
    intro args bk orc v obl orc' hr hobl ρ w vals hfr hb hargs;unfold toldRun at hr;split at hr
    ·rename_i x
     obtain⟨q,hq,e⟩:=Ybg.1 hr;rw[Zit]at e;cases e;obtain⟨v1,r1,rfl,h1,h3⟩:=hargs;obtain rfl:r1=[]:=h3;unfold asR at hq;split at hq
     ·rename_i s n d
      split at hq
      ·rename_i hd
       split at hq
       ·rename_i hg
        cases hq;obtain⟨cs,rfl,c1,d1,rfl,⟨rfl,_⟩,c2,d2,rfl,⟨v2,⟨⟨p,k,c,rfl⟩,hs2⟩,rfl⟩,c4,d4,rfl,⟨v4,⟨⟨p',k',c',rfl⟩,hs4⟩,rfl⟩,hd4⟩:=h1;obtain rfl:d4=[]:=hd4;have habs:(bif s then -(n:Int) else(n:Int)).natAbs=n:=by cases s<;>simp
        refine(Zlw 600 s p p' k c k' c' ⟨bif s then -(n:Int) else n,d,hd,by cases s<;>simpa using hg⟩ w w (Ext.refl _) (by cases s<;>constructor<;>intro h<;>first|(cases h;done)|(show -(n:Int)<=0;omega)|(show(0:Int)<=n;omega)) (by dsimp only;rw[habs];exact hs2) hs4 Zd).mono ?_;rintro e w' ⟨p,n',c,q,l,d',rfl,z1,z2,hbl⟩;exact⟨_,rfl,⟨[_,.int .i64 0],rfl,_,_,rfl,den_quo.2 ⟨_,_,_,_,_,_,rfl,z1,z2⟩,_,_,rfl,⟨rfl,rfl⟩,rfl⟩,hbl⟩
       ·cases hq
      ·cases hq
     ·cases hq
    ·cases hr
def fitC (q:Rat):Option (List Prop):=if Nat.blt q.num.natAbs (Nat.pow 10 90)&&Nat.blt q.den (Nat.pow 10 90) then some [] else none
def sideC:Side where
 cl:=true
 fit:=fitC
 nz:=λq=>match q.num with
  | .ofNat 0=>none
  | _=>some []
 hfit:=λq L h _=>by
  unfold fitC at h;split at h
  ·rename_i hc
   rw[Yam,Nat.blt_eq,Nat.blt_eq]at hc;have:pw 10=((Nat.pow 10 90:Nat):Int):=by decide +kernel
   exact Fits.of 10 Zd (by rw[this];exact Int.ofNat_lt.2 hc.1) (by rw[this];exact Int.ofNat_lt.2 hc.2)
  ·cases h
 hnz:=λq L h _=>by
  intro hz;rw[hz]at h;cases h
 pos:=λq=>match q.num with
  | .ofNat (_+1)=>some []
  | _=>none
 hpos:=λq L h _=>by
  split at h
  ·rename_i n e
   rw[Rat.lt_iff,e];simp
  ·cases h
def sideS:Side where
 cl:=false
 fit:=λq=>some [Fits q]
 nz:=λq=>some [q.num≠0]
 hfit:=λq L h hL=>by cases h;exact hL _ Zs
 hnz:=λq L h hL=>by cases h;exact hL _ Zs
 pos:=λq=>some [0<q]
 hpos:=λq L h hL=>by cases h;exact hL _ Zs
def spS (w0:World) (X:Nat->Prop):List (Ctr (qDen K hK) Tryz.prog w0 X):=[cAdd sideS w0 X,cSub sideS w0 X,cMul sideS w0 X,cDiv sideS w0 X,cOf w0 X,cSame w0 X,cCheck w0 X,cTold w0 X]
def spC (w0:World) (X:Nat->Prop):List (Ctr (qDen K hK) Tryz.prog w0 X):=[cAdd sideC w0 X,cSub sideC w0 X,cMul sideC w0 X,cDiv sideC w0 X,cOf w0 X,cSame w0 X,cCheck w0 X,cTold w0 X]
theorem Zd2:Tryz.prog.follows .mixedOrders=true:=Zk
end
end Go.Proofs.W
namespace Go.Ex
open Go.RowKit Go.Mono
structure Vw where
 T:TypeId
 l:List U
 blk:Nat
 off:Nat
 cs:List Value
def nmV (vs:List Vw):Nm:=λk=>(vs[k]?).map λv=>⟨v.blk,v.off,true,0,0⟩
def bkV:Nat->List Vw->List (Nat×Blk)
 | _,[]=>[]
 | k,v::r=>(k,⟨v.T,v.l,true,false,false⟩)::bkV (k+1) r
theorem Zes:∀{vs:List Vw} {i k:Nat} {b:Blk},(bkV i vs).look k=some b->∃v,i<=k∧vs[k-i]? = some v∧b=⟨v.T,v.l,true,false,false⟩
 | [],i,k,b,h=>by simp[bkV]at h
 | v :: r, i, k, b, h => by
   unfold bkV at h;rw[Zat]at h;split at h
   ·rename_i e
    subst e;cases h;exact⟨v,Yab _,Zs,rfl⟩
   ·rename_i e
    obtain⟨u,h1,h2,h3⟩:=Zes h;refine⟨u,Zo,?_,h3⟩;rw[show k-i=(k-(i+1))+1 by omega,List.getElem?_cons_succ];exact h2
structure VwOk (D:Den) (w:World) (vs:List Vw) (v:Vw):Prop where
 lt:v.blk<w.heap.size
 rng:w.rangeAt v.blk v.off v.cs
 den:denL D (nmV vs) w v.l v.cs
theorem Zkq {D:Den} {w:World} {vs:List Vw} (hv:∀v∈vs,VwOk D w vs v):Sat D w (λ_=>False) vs.length (nmV vs) w w (bkV 0 vs):=by
 have ro:∀{k:Nat} {B:Pl},nmV vs k=some B->∃v,vs[k]? = some v∧B=⟨v.blk,v.off,true,0,0⟩:=by
  intro k B h;obtain⟨v,h1,h2⟩:=Yad.1 h;exact⟨v,h1,h2.symm⟩
 refine⟨Frm.refl _ _,Ext.refl _,?_,?_,?_⟩
 ·intro k k' b b' B B' _ _ h1 h2 _
  obtain⟨v,_,rfl⟩:=ro h1;obtain⟨v',_,rfl⟩:=ro h2;exact .inr ⟨rfl,rfl⟩
 ·intro k B h1
  obtain⟨v,h,rfl⟩:=ro h1;exact(hv v (Ych h)).lt
 ·intro k b hk
  obtain⟨v,_,h2,rfl⟩:=Zes hk.1;rw[Nat.sub_zero]at h2;have:=hv v (Ych h2);refine⟨⟨v.blk,v.off,true,0,0⟩,v.cs,by simp[nmV,h2],.inl ⟨rfl,this.rng⟩,this.den,(λh=>by cases h),λ_ h=>?_,rfl⟩;have:=(Yan.1 h2).1;omega
theorem Zet {D:Den} {P:Program} (hm:P.follows .mixedOrders=true) {w:World} (sp:List (Ctr D P w (λ_=>False))) (fx:List (Fct D P w (λ_=>False))) {f:FuncId} {d n:Nat} {args:List SA} {orc:List (Option Bool)} {vs:List Vw} (bk:List (Nat×Blk)) (hbk:bk=bkV 0 vs) (hn:n=vs.length) (V:SV) (L:List Prop) (W:List (Nat×Blk))
  (hev:(evF P sp fx d [] f args bk n n orc).map (λr=>(r.v,r.obl,r.wr,r.pan))=some (V,L,W,none)) (hL:AllP L) {vals:List Value} (hv:∀v∈vs,VwOk D w vs v) (hargs:denAs D (nmV vs) w args vals) :
  Calls P f vals.toArray w λe w'=>∃v ρ',e=.returned v∧denV D ρ' w' V v∧Below w.heap.size w w'∧(nmV vs).le ρ'∧BkOk D ρ' w' w' (W++bk)∧∀k b B,Liv (W++bk) k b->ρ' k=some B->(b.ro=false->w.heap.size<=B.blk)∧B.blk<w'.heap.size:=by
 obtain⟨r,hr,he⟩:=Yad.1 hev;simp only[Yco]at he;obtain⟨rfl,rfl,rfl,hpan⟩:=he;subst hbk;subst hn;have hlt:∀k b,(bkV 0 vs).look k=some b->k<vs.length:=λk b hk=>by
  obtain⟨v,_,h2,_⟩:=Zes hk;have:=(Yan.1 h2).1;omega
 refine(Znq hm sp fx d [] f args _ _ _ orc _ hr hL.all 0 (nmV vs) w w vals (Zkq hv) trivial hlt (Yab _) (λk h1 _=>by simp[nmV];omega) hargs).mono ?_;rintro e w' ⟨u,ρ',wc',hend,hu,k1,k2⟩;unfold OpR.ends at hend;rw[hpan]at hend;have ef:r.fin (bkV 0 vs)=r.wr++bkV 0 vs:=by unfold OpR.fin;rw[hpan]
 rw[ef]at k1 k2;refine⟨u,ρ',hend,hu.mono (Nm.le.refl _) k1.ext,⟨k2.os,k2.tape,k2.output,k2.size,λi hi=>k2.loc i hi λk b B hk hB hro=>?_⟩,k2.rho,?_,?_⟩
 ·obtain⟨v,_,h2,rfl⟩:=Zes hk.1
  obtain⟨v',_,rfl⟩:=Yad.1 hB;cases hro
 ·intro k b hk hd
  obtain⟨B,cs,h1,h2,h3,h4⟩:=k1.bkOk k b hk hd;exact⟨B,cs,h1,h2,h3.mono (Nm.le.refl _) k1.ext,h4⟩
 ·intro k b B hk hB
  obtain⟨B',cs,h1,h2,h3,h4,_,h6⟩:=k1.box k b hk;cases h1.symm.trans hB;exact⟨λhro=>(h4 hro).elim id False.elim,k1.lt k B hB⟩
def litL (K:Nat->Value):List U->Option (List Value)
 | []=>some []
 | .val v::l=>if v.oneCell' then(litL K l).map (v::·) else none
 | .sym z::l=>(litL K l).map (.int .i64 z::·)
 | .tok i::l=>(litL K l).map (K i::·)
 | _=>none
theorem Zeu {D:Den} {ρ:Nm} {w:World}:∀{l:List U} {cs:List Value},litL D.K l=some cs->denL D ρ w l cs∧∀ds,denL D ρ w l ds->ds=cs
 | [],_,h=>by cases h;exact⟨rfl,λ_ h=>h⟩
 | u :: l, cs, h => by
   unfold litL at h;split at h
   ·rename_i e;cases e
   ·rename_i v l' e
    cases e;split at h
    ·rename_i hv
     obtain⟨c,hc,rfl⟩:=Yad.1 h;obtain⟨h1,h2⟩:=Zeu (ρ:=ρ) (w:=w) hc;exact⟨⟨[v],c,rfl,⟨rfl,hv⟩,h1⟩,λds ⟨a,b,e,⟨h3,_⟩,h4⟩=>by rw[e,h3,h2 b h4];rfl⟩
    ·cases h
   ·rename_i z l' e
    cases e;obtain⟨c,hc,rfl⟩:=Yad.1 h;obtain⟨h1,h2⟩:=Zeu (ρ:=ρ) (w:=w) hc;exact⟨⟨[.int .i64 z],c,rfl,rfl,h1⟩,λds ⟨a,b,e,h3,h4⟩=>by rw[e,show a=[.int .i64 z] from h3,h2 b h4];rfl⟩
   ·rename_i i l' e
    cases e;obtain⟨c,hc,rfl⟩:=Yad.1 h;obtain⟨h1,h2⟩:=Zeu (ρ:=ρ) (w:=w) hc;exact⟨⟨[D.K i],c,rfl,rfl,h1⟩,λds ⟨a,b,e,h3,h4⟩=>by rw[e,show a=[D.K i] from h3,h2 b h4];rfl⟩
   ·cases h
theorem Zgd {D:Den} {P:Program} (hm:P.follows .mixedOrders=true) {f:FuncId} {d:Nat} (ins outs:List U) (A B:Array Value)
  (hev:∀w:World,(evF P (w0:=w) (X:=λ_=>False) (D:=D) [] [] d [] f [.agg ins] [] 0 0 []).map (λr=>(r.v,r.obl,r.pan))=some (.a (.agg outs),[],none)) (hi:litL D.K ins=some A.toList) (ho:litL D.K outs=some B.toList) (w:World) :
  Calls P f #[.agg A] w λe w'=>e=.returned (.agg B)∧Below w.heap.size w w':=by
 refine(Zq8 (D:=D) (d:=d) (orc:=[]) (args:=[.agg ins]) hm [] [] (.a (.agg outs)) [] (hev w) trivial (vals:=[.agg A]) ⟨_,_,rfl,⟨A.toList,Zs,(Zeu hi).1⟩,rfl⟩).mono ?_;rintro e w' ⟨v,ρ',rfl,⟨cs,rfl,hv⟩,hb⟩;refine⟨?_,hb⟩;rw[(Zeu ho).2 _ hv]
end Go.Ex
