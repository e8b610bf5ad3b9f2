/- Contracts of package paraxial,and a verified evaluator. Part 17 of 28. No condition beside the row. -/
import Derived.Deep.Upon
import Derived.Laws.AppendOwn
import Derived.OrdersIn
import Derived.RecoverIn
import Derived.RangeFuncLeaves
import Derived.RangeFuncBound
import Derived.RangeFuncCalls
import Derived.RangeFuncNested
import Derived.Deep.MidRow
import Derived.Test.YtfgmlkjibdegfaaGreatDoorA16
set_option linter.unusedVariables false
set_option linter.unusedSimpArgs false
set_option maxRecDepth 100000
set_option maxHeartbeats 4000000
namespace Go.Ex
open Go.RowKit Go.Mono
section
theorem Zbc {α:Type} (l m:List (Nat×α)) (k:Nat):(l++m).look k=(l.look k).or (m.look k):=by
 induction l with
 | nil=>simp
 | cons p r ih =>
   obtain⟨k',x⟩:=p;rw[Ydi,Zaz,Zaz,ih];split<;>rfl
def Sub {α:Type} (l m:List (Nat×α)):Prop:=∀k x,l.look k=some x->m.look k=some x
theorem Sub.liv {l m:List (Nat×Blk)} (h:Sub l m) {k:Nat} {b:Blk} (hk:Liv l k b):Liv m k b:=⟨h k b hk.1,hk.2⟩
section
variable {D:Den} {w0:World} {X:Nat->Prop} {th t':Nat} {ρ ρ':Nm} {wc w wc' w':World} {bk bkR wr F G:List (Nat×Blk)} {c c':Nat}
theorem Sat.sub (h:Sat D w0 X th ρ wc w bk) (hs:Sub bkR bk):Sat D w0 X th ρ wc w bkR:=
 ⟨h.fr,h.ext,λk k' b b' B B' h1 h2=>h.inj k k' b b' B B' (hs.liv h1) (hs.liv h2),h.lt,λk b hk=>h.box k b (hs.liv hk)⟩
theorem Evo.sub (h:Evo ρ wc w bk c c' ρ' wc' w' F) (hs:Sub G F):Evo ρ wc w bk c c' ρ' wc' w' G:=
 ⟨h.rho,h.ext,h.size,h.os,h.tape,h.output,h.loc,λk b hk=>h.ids k b (hs.liv hk),h.cc,h.dom⟩
abbrev Sub' (l m:List (Nat×Blk)):Prop:=∀k b,Liv l k b->Liv m k b
theorem Sat.sub' (h:Sat D w0 X th ρ wc w bk) (hs:Sub' bkR bk):Sat D w0 X th ρ wc w bkR:=
 ⟨h.fr,h.ext,λk k' b b' B B' h1 h2=>h.inj k k' b b' B B' (hs _ _ h1) (hs _ _ h2),h.lt,λk b hk=>h.box k b (hs _ _ hk)⟩
theorem Evo.sub' (h:Evo ρ wc w bk c c' ρ' wc' w' F) (hs:Sub' G F):Evo ρ wc w bk c c' ρ' wc' w' G:=
 ⟨h.rho,h.ext,h.size,h.os,h.tape,h.output,h.loc,λk b hk=>h.ids k b (hs _ _ hk),h.cc,h.dom⟩
theorem Sat.frame (h:Sat D w0 X th ρ wc w bk) (hs:Sub bkR bk) (hf:∀k b,bk.look k=some b->k<th) (g:Sat D w0 X t' ρ' wc' w' F) (e:Evo ρ wc w bkR c c' ρ' wc' w' F) (hc:c'<=th)
  (hG:∀k b,Liv G k b->Liv F k b∨(Liv bk k b∧bkR.look k=none)) :
  Sat D w0 X th ρ' wc' w' G∧Evo ρ wc w bk c c' ρ' wc' w' G:=by
 have mix:∀k k' b b' B B',Liv F k b->Liv bk k' b'->bkR.look k'=none->ρ' k=some B->ρ' k'=some B'->B.blk=B'.blk->B.ro=true∧B'.ro=true:=by
  intro k k' b b' B B' hk hk' hn h1 h2 he;obtain⟨C',hC'⟩:=h.named k' b' hk';have e2:=e.rho k' C' hC';rw[h2]at e2;cases e2;rcases e.ids k b hk with ⟨b0,hb0⟩|⟨_,_,C,hC,hle⟩
  ·obtain⟨C,hC⟩:=h.named k b0 (hs.liv hb0)
   have e1:=e.rho k C hC;rw[h1]at e1;cases e1;rcases h.inj k k' b0 b' B B' (hs.liv hb0) hk' hC hC' he with h7|h7
   ·subst h7
    rw[hb0.1]at hn;cases hn
   ·exact h7
  ·rw[h1]at hC
   cases hC;rcases hle with hle|⟨k0,b0,B0,g1,g2,g3,g4⟩
   ·have:=h.lt k' B' hC'
    omega
   ·rcases h.inj k0 k' b0 b' B0 B' (hs.liv g1) hk' g2 hC' (g4.trans he) with h7|h7
    ·subst h7
     rw[g1.1]at hn;cases hn
    ·rw[g3]at h7;cases h7.1
 refine⟨⟨g.fr,g.ext,?_,g.lt,?_⟩,⟨e.rho,e.ext,e.size,e.os,e.tape,e.output,?_,?_,e.cc,e.dom⟩⟩
 ·intro k k' b b' B B' hk hk' h1 h2 he
  rcases hG k b hk with hk|⟨hk,hn⟩<;>rcases hG k' b' hk' with hk'|⟨hk',hn'⟩
  ·exact g.inj k k' b b' B B' hk hk' h1 h2 he
  ·exact .inr (mix k k' b b' B B' hk hk' hn' h1 h2 he)
  ·exact .inr (mix k' k b' b B' B hk' hk hn h2 h1 he.symm).symm
  ·obtain⟨C,hC⟩:=h.named k b hk
   obtain⟨C',hC'⟩:=h.named k' b' hk';have e1:=e.rho k C hC;have e2:=e.rho k' C' hC';rw[h1]at e1;rw[h2]at e2;cases e1;cases e2;exact h.inj k k' b b' B B' hk hk' hC hC' he
 ·intro k b hk
  rcases hG k b hk with hk|⟨hk,hn⟩
  ·have hkt:k<th:=by
    rcases e.ids k b hk with ⟨b0,hb0⟩|⟨_,h2,_⟩
    ·exact hf k b0 (hs k b0 hb0.1)
    ·omega
   obtain⟨B,cs,h1,h2,h3,h4,h5,h6⟩:=g.box k b hk;exact⟨B,cs,h1,h2,h3,h4,λ_ hx=>absurd hx Zo,h6⟩
  ·obtain⟨B,cs,h1,h2,h3,h4,h5,h6⟩:=h.box k b hk
   have hkt:=hf k b hk.1;refine⟨B,cs,e.rho k B h1,h2.of_block (e.loc B.blk (h.lt k B h1) λk2 b2 B2 hk2 hB hro he=>?_),h3.mono e.rho e.ext,h4,λ_ hx=>absurd hx Zo,h6⟩;rcases h.inj k2 k b2 b B2 B (hs.liv hk2) hk hB h1 he with h7|h7
   ·subst h7
    rw[hk2.1]at hn;cases hn
   ·rw[hro]at h7;cases h7.1
 ·intro i hi hn
  exact e.loc i hi λk b B hk=>hn k b B (hs.liv hk)
 ·intro k b hk
  rcases hG k b hk with hk|⟨hk,hn⟩
  ·rcases e.ids k b hk with ⟨b0,hb0⟩|⟨h1,h2,B,hB,hle⟩
   ·exact .inl ⟨b0,hs.liv hb0⟩
   ·refine .inr ⟨h1,h2,B,hB,hle.imp id λ⟨k0,b0,B0,g1,g2⟩=>⟨k0,b0,B0,hs.liv g1,g2⟩⟩
  ·exact .inl ⟨b,hk⟩
end
structure OpR where
 v:SV
 wr:List (Nat×Blk)
 obl:List Prop
 orc:List (Option Bool)
 c:Nat
 th:Nat
 pan:Option Value:=none
def OpR.fin (r:OpR) (bk:List (Nat×Blk)):List (Nat×Blk):=
 match r.pan with
 | none=>r.wr++bk
 | some _=>r.wr
def OpR.ends (r:OpR) (e:Ending) (v:Value):Prop:=
 match r.pan with
 | none=>e=.returned v
 | some p=>e=.panicked [{v:=p,recovered:=false}]
abbrev YS:=List SA->List (Nat×Blk)->Nat->Nat->List (Option Bool)->Option OpR
abbrev YEnv:=List (Nat×YS)
abbrev CallF:=YEnv->FuncId->List SA->List (Nat×Blk)->Nat->Nat->List (Option Bool)->Option OpR
structure CallS where
 call:CallF
 op:Oper->(Operand->Option SV)->Option SV
def WF (ro:Option Nat):Fence:={fn:=λ_=>True,depth:=none,alive:=false,round:=ro}
theorem callsIn_WF {ro:Option Nat} {n:Nat} {P:Program} {f:FuncId} {args:Array Value} {w:World} {R:Ending->World->Prop}:CallsIn (WF ro) n P f args w R↔Calls P f args w R:=
 callsIn_wide (n:=n)
def Post (D:Den) (w0:World) (X:Nat->Prop) (ρ:Nm) (wc w:World) (bk:List (Nat×Blk)) (c:Nat) (r:OpR) (e:Ending) (w':World):Prop:=
 ∃v ρ' wc',r.ends e v∧denV D ρ' wc' r.v v∧Sat D w0 X r.th ρ' wc' w' (r.fin bk)∧Evo ρ wc w bk c r.c ρ' wc' w' (r.fin bk)
def YOk (D:Den) (P:Program) (w0:World) (X:Nat->Prop):Nat->YEnv->Nm->World->World->Prop
 | _,[],_,_,_=>True
 | bd, (k, h) :: ys, ρ, wc, w => ∃ B lp, ρ k = some B ∧ w.heap[B.blk]? = some (.loop lp) ∧ w0.heap.size <= B.blk ∧ B.blk < bd ∧ YOk D P w0 X B.blk ys ρ wc w ∧
   ∀args bk c th orc r,h args bk c th orc=some r->(∀p∈r.obl,p)->∀ρ' wc' w' vals,ρ.le ρ'->Ext wc wc'->Sat D w0 X th ρ' wc' w' bk->YOk D P w0 X B.blk ys ρ' wc' w'->(∀j x,bk.look j=some x->j<c)->th<=c->
     (∀j,c<=j->j<r.c->ρ' j=none)->denAs D ρ' wc' args vals->w'.heap[B.blk]? = some (.loop lp)->
     ∃fn tmps assign body,(Instr.yield B.blk vals.toArray).run P w'=.ok (.round B.blk fn tmps assign body) w'∧
       RoundIn (WF none) 0 P B.blk fn tmps assign body w' λe w''=>Post D w0 X ρ' wc' w' bk c r e w''∧w''.heap[B.blk]? = some (.loop lp)
def CallFOk (D:Den) (P:Program) (w0:World) (X:Nat->Prop) (cs:CallF):Prop:=
 ∀ys f args bk c th orc r,cs ys f args bk c th orc=some r->(∀p∈r.obl,p)->∀bd ρ wc w vals,Sat D w0 X th ρ wc w bk->YOk D P w0 X bd ys ρ wc w->(∀k b,bk.look k=some b->k<c)->th<=c->(∀k,c<=k->k<r.c->ρ k=none)->denAs D ρ wc args vals->
   Calls P f vals.toArray w (Post D w0 X ρ wc w bk c r)
structure CallOk (D:Den) (P:Program) (w0:World) (X:Nat->Prop) (cs:CallS):Prop where
 call:CallFOk D P w0 X cs.call
 op:∀o get x,cs.op o get=some x->∀ρ wc w ev,Frm w0 X w->(∀y z,get y=some z->denV D ρ wc z (ev y))->∃v,(execOp ev o).run P w=.ok (.value v) w∧denV D ρ wc x v
section
variable {D:Den} {P:Program} {w0:World} {X:Nat->Prop} {th:Nat} {ρ ρ':Nm} {wc w wc' w':World} {bk bk':List (Nat×Blk)} {c c':Nat}
theorem Sat.cells (h:Sat D w0 X th ρ wc w bk) {k:Nat} {b:Blk} {B:Pl} (hk:Liv bk k b) (hB:ρ k=some B) (hro:B.ro=false):∃cs T f,w.heap[B.blk]? = some (.cells cs T f):=by
 obtain⟨B',cs,h1,h2,h3,h4,h5,h6⟩:=h.box k b hk;cases hB.symm.trans h1;rcases h2 with ⟨g,_⟩|⟨_,_,rest,_,_,hb⟩
 ·rw[hro]at g;cases g
 ·exact⟨_,_,_,hb.blk⟩
theorem Sat.stays (h:Sat D w0 X th ρ wc w bk) (e:Evo ρ wc w bk c c' ρ' wc' w' bk') {l:Nat} {o:Obj} (hl:w.heap[l]? = some o) (ho:o.isCells=false):w'.heap[l]? = some o:=by
 rw[e.loc l (Zao hl) ?_]
 ·exact hl
 ·intro k b B hk hB hro he
  obtain⟨cs,T,f,hc⟩:=h.cells hk hB hro;rw[he,hl]at hc;cases hc;cases ho
theorem YOk.step:∀{bd:Nat} {ys:YEnv} {ρ ρ':Nm} {wc w wc' w':World},YOk D P w0 X bd ys ρ wc w->ρ.le ρ'->Ext wc wc'->(∀(l:Nat) (lp:Loop),l<bd->w.heap[l]? = some (Obj.loop lp)->w'.heap[l]? = some (Obj.loop lp))->YOk D P w0 X bd ys ρ' wc' w'
 | _,[],ρ,ρ',wc,w,wc',w',_,_,_,_=>trivial
 | bd, (k, h) :: ys, ρ, ρ', wc, w, wc', w', ⟨B, lp, h2, h3, hsz, hbd, h1, h4⟩, hr, hx, hl =>
   ⟨B,lp,hr k B h2,hl _ _ hbd h3,hsz,hbd,h1.step hr hx (λl lp hlt=>hl l lp (Nat.lt_trans hlt hbd)),λargs bk c th orc r hh ho ρ2 wc2 w2 vals g1 g2=>h4 args bk c th orc r hh ho ρ2 wc2 w2 vals (hr.trans g1) (hx.trans g2)⟩
theorem YOk.bound:∀{bd b:Nat} {ys:YEnv} {ρ:Nm} {wc w:World},YOk D P w0 X bd ys ρ wc w->(∀k B,ρ k=some B->B.blk<b)->YOk D P w0 X b ys ρ wc w
 | _,_,[],_,_,_,_,_=>trivial
 | _,_,(k,h)::ys,ρ,wc,w,⟨B,lp,h2,h3,hsz,hbd,h1,h4⟩,hb=>⟨B,lp,h2,h3,hsz,hb k B h2,h1,h4⟩
theorem YOk.evo {bd:Nat} {ys:YEnv} (h:YOk D P w0 X bd ys ρ wc w) (hS:Sat D w0 X th ρ wc w bk) (e:Evo ρ wc w bk c c' ρ' wc' w' bk'):YOk D P w0 X bd ys ρ' wc' w':=
 h.step e.rho e.ext λl lp _ hl=>hS.stays e hl rfl
end
end
end Go.Ex
namespace Go.Proofs.W
open Go.RowKit Go.Mono
theorem Zqn (B:Nat) (nm:ByteArray) (di pu st pr:Int) (pf pw' ps pc:Option Addr) (nf cf n cw ns cs nc cc:Nat) (X Y:Nat->Int) (w:World)
  (b0:Box w B 249 #[.string nm,.int .i64 di,.int .i64 pu,.int .i64 st,.int .i64 pr,.slice pf nf cf,.slice pw' n cw,.slice ps ns cs,.slice pc nc cc])
  (hr:RdC w pf nf cf 2 (λi j=>if j=0 then .int .i64 (X i) else .int .i64 (Y i)))
  (n1:1<=nf) (n2:nf<=5) (m:Int) (hm:m=if di=0 then 1000000 else 1000000000)
  (l0:∀i,i<nf->(-m<=X i∧X i<=m)∧-m<=Y i∧Y i<=m) (l1:∀i k,k<i->i<nf->¬(X i=X k∧Y i=Y k)) :
  Calls Tryz.prog 207 #[.pointer (some ⟨B,0,none⟩)] w λe w'=>e=.returned (.bool true)∧Below w.heap.size w w':=by
 have cb0:=b0.cell;have m1:0<=m∧m<=1000000000:=by subst hm;split<;>omega
 obtain⟨hc1,hn1,hx⟩:=hr;obtain⟨b,off,rfl,hb,hcell⟩:=hx Zo;clear hx;have hdd:(m=1000000∧di=0)∨(m=1000000000∧(di==0)=false):=by
  subst hm;by_cases hd:di=0
  ·left;simp[hd]
  ·right;simp[hd]
 clear hm;rcases hdd with ⟨rfl,rfl⟩|⟨rfl,hd⟩
 all_goals
  go_enter Tryz.func207,Tryz.ntmps207
  go_wp2
  go_loopw [20] (λa wr=>∃i:Nat,i<=nf∧a=.int .i64 (i:Int)∧Below w.heap.size w wr) (λa _=>(nf-intOf a).toNat)
  case atStart=>exact⟨0,Yat _,rfl,Yae _ _⟩
  case round=>
   obtain⟨i,hi,rfl,hB⟩:=hrel;have hbb:=b0.below hB;have cbb:=hbb.cell;have lbb:=hbb.lt;have hbw:b<wr.heap.size:=Yaf hb hB.size;by_cases hin:i<nf
   ·have hin':(i:Int)<nf:=by omega
    have a0:=(hB.cell hb).trans (hcell i 0 hin Zo);have a1:=(hB.cell hb).trans (hcell i 1 hin Zo);simp only[if_true,Yce,Nat.succ_ne_self,if_false]at a0 a1;replace l0:=Yah l0;replace l1:=Yah l1;replace hcell:=Yah hcell;clear cb0;go_wp2
    refine Zbo λW1 hB1 hs1 bF=>?_;replace hbb:=hbb.below hB1;have hBW:=Zaa hB hB1;clear cbb lbb a0 a1;go_loopw [33] (λa w2=>∃k:Nat,k<=i∧a=.int .i64 (k:Int)∧Below W1.heap.size W1 w2) (λa _=>(i-intOf a).toNat)
    case atStart=>exact⟨0,Yat _,rfl,Yae _ _⟩
    case round=>
     obtain⟨k,hk,rfl,hB2⟩:=hrel;have bF2:=bF.below hB2;have cF:=bF2.cell;have lF:=bF2.lt;have fF:=bF2.frozen;have hBW2:=Zaa hBW hB2;have hbw2:b<wr.heap.size:=Yaf hb hBW2.size;by_cases hki:k<i
     ·have hki':(k:Int)<i:=by omega
      have a0:=(hBW2.cell hb).trans (hcell.out k 0 Zo Zo);have a1:=(hBW2.cell hb).trans (hcell.out k 1 Zo Zo);simp only[if_true,Yce,Nat.succ_ne_self,if_false]at a0 a1;have hne:=l1.out i k hki hin;by_cases hX:X i=X k
      ·have hqx:(X i==X k)=true:=by simpa using hX
       have hqy:(Y i==Y k)=false:=by
        rw[beq_eq_false_iff_ne];exact λh=>hne ⟨hX,h⟩
       replace hX:=Yah hX;replace hne:=Yah hne;go_wp2
       go_roundw
       case rel=>exact⟨k+1,Zo,Zs,Zad hB2 _⟩
       case measure=>simp[intOf];omega
      ·have hqx:(X i==X k)=false:=by rw[beq_eq_false_iff_ne];exact hX
       replace hX:=Yah hX;replace hne:=Yah hne;go_wp2
       go_roundw
       case rel=>exact⟨k+1,Zo,Zs,Zad hB2 _⟩
       case measure=>simp[intOf];omega
     ·obtain rfl:k=i:=by omega
      obtain⟨⟨x1,x2⟩,y1,y2⟩:=l0.out k hin;go_wp2_with first|(go_at_call 206;(with_reducible refine(Zbg (X k) _ _ x1 x2 _).mono ?_);rintro e w' ⟨rfl,rfl⟩)|(go_at_call 206;(with_reducible refine(Zbg (Y k) _ _ y1 y2 _).mono ?_);rintro e w' ⟨rfl,rfl⟩)
      go_roundw
      case rel=>exact⟨k+1,Zo,Zs,hBW2⟩
      case measure=>simp[intOf];omega
   ·obtain rfl:i=nf:=by omega
    have e1:(1:Int)<=i:=Zo;have e2:(i:Int)<=5:=Zo;clear hcell cb0 l0 l1;go_wp2_with (go_at_call 206;refine(Zbg (i:Int) 1 5 e1 e2 _).mono ?_;rintro e w' ⟨rfl,rfl⟩)
    go_ret
    exact⟨rfl,hB⟩
end Go.Proofs.W
namespace Go.Ex
open Go.RowKit Go.Mono
section
def newsS (bk:List (Nat×Blk)) (size:Nat) (x:Option SV):Option (Nat×List U):=
 match x with
 | some (.a (.one (.slc k off n _))) => match bk.look k with
   | some b=>if b.dead then none else(subU b.cells off (n*size)).map (n,·)
   | none=>none
 | some (.a (.one (.sli k off n))) => match bk.look k with
   | some b=>if b.dead then none else(subU b.cells off (n*size)).map (n,·)
   | none=>none
 | some (.a (.one (.own k n _))) => match bk.look k with
   | some b=>if b.dead then none else(subU b.cells 0 (n*size)).map (n,·)
   | none=>none
 | some (.a (.one .emp))=>some (0,[])
 | some (.a (.one (.val (.slice none 0 _))))=>some (0,[])
 | _=>none
section
variable {D:Den} {P:Program} {w0:World} {X:Nat->Prop} {th:Nat} {ρ:Nm} {wc w:World} {bk:List (Nat×Blk)} {c:Nat} {get:Operand->Option SV} {ev:Operand->Value}
theorem Src.of_sub {B:Pl} {T:TypeId} {sp:Bool} {cs:List Value} (hh:Holds w B T sp cs) {l us:List U} (hl:denL D ρ wc l cs) {off n size:Nat} (hs:subU l off (n*size)=some us) {tx e':TypeId} (hk:P.underlying tx=some (.slice e')) (cap:Nat) :
  ∃news,Src P size tx (.slice (some ⟨B.blk,B.base+off,none⟩) n cap) n news w∧denL D ρ wc us news∧news.length=n*size∧(∀m,m<=n->(Builtin.firstCells size m (.slice (some ⟨B.blk,B.base+off,none⟩) n cap)).run P w=.ok (news.take (m*size)).toArray w)∧
    ∀j u,news[j]? = some u->w.cell? ((⟨B.blk,B.base+off,none⟩:Addr).add j)=some u:=by
 obtain⟨h1,h2⟩:=Zf0 hs hl;have key:∀j u,((cs.drop off).take (n*size))[j]? = some u->w.cell? ((⟨B.blk,B.base+off,none⟩:Addr).add j)=some u:=?_
 ·refine⟨_,Src.ofSlice w hk ⟨B.blk,B.base+off,none⟩ n cap _ h2 key h1.ones,h1,h2,λm hm=>?_,key⟩
  have hle:=Ybd size hm;refine run_firstCells_some w size m _ n cap _ (by rw[Ycq,h2];omega) λj u hj=>key j u ?_;rw[Ycv]at hj;split at hj
  ·exact hj
  ·cases hj
 intro j u hj;rw[Yem,Ybj];refine hh.cell ?_;have hjl:j<n*size:=by
  have:=(Yan.1 hj).1;omega
 rw[Ycv,if_pos hjl,Yeh]at hj;simpa using hj
theorem Zmu (hB:BkOk D ρ wc w bk) {x:SV} {v:Value} (hv:denV D ρ wc x v) {size n:Nat} {us:List U} (h:newsS bk size (some x)=some (n,us)) {tx e':TypeId} (hk:P.underlying tx=some (.slice e')) :
  ∃news,Src P size tx v n news w∧denL D ρ wc us news∧news.length=n*size∧∀m,m<=n->(Builtin.firstCells size m v).run P w=.ok (news.take (m*size)).toArray w:=by
 unfold newsS at h;split at h
 ·rename_i k off n' cap e
  cases e;split at h
  ·rename_i b hb
   split at h
   ·cases h
   ·rename_i hd
    obtain⟨m,hm,e2⟩:=Yad.1 h;cases e2;obtain⟨B,cs,h1,h2,h3,h4⟩:=hB k b hb (by simpa using hd);obtain⟨B',hB',e1⟩:=hv;cases h1.symm.trans hB';rw[show v=_ from by simpa using e1];obtain⟨news,q1,q2,q3,q4,_⟩:=Src.of_sub (P:=P) h2 h3 hm hk cap;exact⟨news,q1,q2,q3,q4⟩
  ·cases h
 ·rename_i k off n' e
  cases e;split at h
  ·rename_i b hb
   split at h
   ·cases h
   ·rename_i hd
    obtain⟨m,hm,e2⟩:=Yad.1 h;cases e2;obtain⟨B,cs,h1,h2,h3,h4⟩:=hB k b hb (by simpa using hd);obtain⟨B',cap,hB',hc,e1⟩:=hv;cases h1.symm.trans hB';rw[show v=_ from by simpa using e1];obtain⟨news,q1,q2,q3,q4,_⟩:=Src.of_sub (P:=P) h2 h3 hm hk cap;exact⟨news,q1,q2,q3,q4⟩
  ·cases h
 ·rename_i k n' s e
  cases e;split at h
  ·rename_i b hb
   split at h
   ·cases h
   ·rename_i hd
    obtain⟨m,hm,e2⟩:=Yad.1 h;cases e2;obtain⟨B,cs,h1,h2,h3,h4⟩:=hB k b hb (by simpa using hd);obtain⟨B',hB',_,_,hb0,e1⟩:=hv;cases h1.symm.trans hB';rw[show v=_ from by simpa using e1];obtain⟨news,q1,q2,q3,q4,_⟩:=Src.of_sub (P:=P) h2 h3 hm hk B.cap;rw[hb0]at q1 q4;exact⟨news,q1,q2,q3,q4⟩
  ·cases h
 ·rename_i e
  cases e;cases h;obtain⟨p,cp,hp,e1⟩:=hv;rw[show v=_ from by simpa using e1];refine⟨[],?_,rfl,Zs,λm hm=>?_⟩
  ·cases p with
   | none=>rw[hp rfl];exact Src.ofNil w hk 0
   | some a=>exact Src.ofSlice w hk a 0 cp [] Zs (λj u hj=>by simp at hj) Zs
  ·obtain rfl:m=0:=by omega
   cases p with
   | none=>simpa using run_firstCells_none w size 0 0 cp
   | some a=>simpa using run_firstCells_some w size 0 a 0 cp [] Zs (λj u hj=>by simp at hj)
 ·rename_i cp e
  cases e;cases h;rw[show v=_ from by simpa using hv.1];exact⟨[],Src.ofNil w hk _,rfl,Zs,λm hm=>by simpa using run_firstCells_none w size m 0 _⟩
 ·cases h
def EffOk (D:Den) (P:Program) (w0:World) (X:Nat->Prop) (th:Nat) (ρ:Nm) (wc w:World) (bk:List (Nat×Blk)) (c:Nat) (s:Sem Next) (x:SV) (wr:List (Nat×Blk)) (c':Nat):Prop:=
 ∃nx v w' ρ',s.run P w=.ok nx w'∧(nx=.value v∨(nx=.skip∧v=undef))∧denV D ρ' wc x v∧Sat D w0 X th ρ' wc w' (wr++bk)∧Evo ρ wc w bk c c' ρ' wc w' (wr++bk)
theorem Zlg (h:Sat D w0 X th ρ wc w bk) (hc:ρ c=none) {t tx ty e:TypeId} {i:TypeInfo} {z:Value} (ht:P.underlying t=some (.slice e)) (hi:P.info? e=some i) (hz:i.zero=some z) (hzs:z.cells.size=i.size)
  {base:Option Addr} {sLen sCap:Nat} {olds news:List Value} {lo ln:List U} (hlo:denL D ρ wc lo olds) (hln:denL D ρ wc ln news) (hol:olds.length=sLen*i.size)
  (hold:∀w':World,w'.heap=w.heap->(Builtin.firstCells i.size sLen (.slice base sLen sCap)).run P w'=.ok olds.toArray w') {x:Value} {n:Nat} (hs:Src P i.size tx x n news w) (hnl:news.length=n*i.size)
  (hg:sCap<sLen+n) (h40:sLen+n<=2 ^ 40) (hby:(sLen+n)*i.bytes<=140737488355328) :
  ∃v w' ρ',(Builtin.append_ #[t,tx] ty #[.slice base sLen sCap,x]).run P w=.ok v w'∧denV D ρ' wc (.a (.one (.own c (sLen+n) i.size))) v∧
    Sat D w0 X th ρ' wc w' ((c,⟨e,lo++ln,false,true,false⟩)::bk)∧Evo ρ wc w bk c (c+1) ρ' wc w' ((c,⟨e,lo++ln,false,true,false⟩)::bk):=by
 have hrun:=run_append_grow_src (P:=P) w t tx ty e i z ht hi hz base sLen sCap olds (hold _ rfl) x n news hs hg Zo (growslice_fits hg hby);have hge:=grownCap_ge w (sLen+n) sCap e;generalize grownCap w (sLen+n) sCap e=cap at hrun hge;have hsz:(Builtin.zeroCells z.cells (cap-(sLen+n))).size=(cap-(sLen+n))*i.size:=by rw[size_zeroCells,hzs]
 obtain⟨k1,k2⟩:=(h.drew).alloc hc e true cap (cap*i.size) (l:=lo++ln) (cs:=olds++news) (rest:=(Builtin.zeroCells z.cells (cap-(sLen+n))).toList) (hlo.append hln) (λhh=>by cases hh) (λ_=>by
  simp only[Yay,Yaz,hsz,hol,hnl];rw[<-Nat.add_mul,<-Nat.add_mul];congr 1
  omega)
 have earr:(((olds++news)++(Builtin.zeroCells z.cells (cap-(sLen+n))).toList).toArray:Array Value)=(olds++news).toArray++Builtin.zeroCells z.cells (cap-(sLen+n)):=by
  apply Yee.1;simp
 rw[earr]at k1 k2;exact⟨_,_,_,hrun,⟨_,Zbf _ _ _,hge,rfl,rfl,rfl⟩,k1,(Evo.drew ρ wc w bk c).trans k2 h.named⟩
def infoZ (P:Program) (e:TypeId):Option (Nat×Nat):=
 match P.info? e with
 | some i => match i.zero with
   | some z=>if Nat.beq z.cells.size i.size then some (i.size,i.bytes) else none
   | none=>none
 | none=>none
theorem Zmv {e:TypeId} {s b:Nat} (h:infoZ P e=some (s,b)):∃i z,P.info? e=some i∧i.zero=some z∧z.cells.size=i.size∧i.size=s∧i.bytes=b:=by
 unfold infoZ at h;split at h
 ·rename_i i hi
  split at h
  ·rename_i z hz
   split at h
   ·rename_i hs
    cases h;exact⟨i,z,hi,hz,Ybe hs,rfl,rfl⟩
   ·cases h
  ·cases h
 ·cases h
def small (n bytes:Nat):Bool:=Nat.ble n (2 ^ 40)&&Nat.ble (n*bytes) 140737488355328
end
def Zls (s:Option SV):Option SV:=
 match s with
 | some (.a (.one (.slc k off len cap)))=>if Nat.ble len cap then some (.a (.one (.slc k off len cap))) else none
 | some (.a (.one (.sli k off len)))=>some (.a (.one (.sli k off len)))
 | some (.a (.one (.own k len sz)))=>some (.a (.one (.own k len sz)))
 | some (.a (.one .emp))=>some (.a (.one .emp))
 | some (.a (.one (.val (.slice none 0 0))))=>some (.a (.one (.val (.slice none 0 0))))
 | _=>none
def appendS (P:Program) (t tx:TypeId) (s x:Option SV) (bk:List (Nat×Blk)) (th c:Nat):Option (SV×List (Nat×Blk)×Nat):=
 match P.underlying t,P.underlying tx with
 | some (.slice e), some (.slice _) => match infoZ P e with
   | some (size, bytes) => match newsS bk size x with
     | some (n, us) => if Nat.beq n 0 then (Zls s).map λr => (r, [], c) else match s with
       | some (.a (.one (.slc k off len cap))) => match bk.look k with
         | some b => if b.dead then none else
           if Nat.ble (len+n) cap then(if b.ro || !(b.T != 3 || Nat.ble th k) then none else
            (putX b.cells (off+len*size) us).map λl=>(.a (.one (.slc k off (len+n) cap)),[(k,⟨b.T,l,false,b.sp,false⟩)],c))
           else if small (len+n) bytes then(subU b.cells off (len*size)).map λlo=>(.a (.one (.own c (len+n) size)),[(c,⟨e,lo++us,false,true,false⟩)],c+1) else none
         | none=>none
       | some (.a (.one (.val (.slice none 0 0))))=>if small n bytes then some (.a (.one (.own c n size)),[(c,⟨e,us,false,true,false⟩)],c+1) else none
       | some (.a (.one (.own k len sz))) => match bk.look k with
         | some b => if b.dead || b.ro || !b.sp || !(b.T != 3 || Nat.ble th k) || !Nat.beq b.T e || !Nat.beq sz size || !Nat.beq (widths b.cells) (len * size) || !bk.all (λp => Nat.blt p.1 c) || !small (len + n) bytes then none else
           some (.a (.one (.own c (len+n) size)),[(k,⟨b.T,[],false,true,true⟩),(c,⟨e,b.cells++us,false,true,false⟩)],c+1)
         | none=>none
       | _=>none
     | none=>none
   | none=>none
 | _,_=>none
section
variable {D:Den} {P:Program} {w0:World} {X:Nat->Prop} {th:Nat} {ρ:Nm} {wc w:World} {bk:List (Nat×Blk)} {c:Nat}
theorem Zf4 {n b:Nat} (h:small n b=true):n<=2 ^ 40∧n*b<=140737488355328:=by
 unfold small at h;rw[Yam]at h;exact⟨Yaa h.1,Yaa h.2⟩
theorem Zs7 {s:SV} {r:SV} {v:Value} (h:Zls (some s)=some r) (hv:denV D ρ wc s v):r=s∧∃p n cap,v=.slice p n cap∧n<=cap:=by
 unfold Zls at h;split at h
 ·rename_i e
  cases e;split at h
  ·rename_i hb
   cases h;obtain⟨B,hB,e1⟩:=hv;exact⟨rfl,_,_,_,by simpa using e1,Yaa hb⟩
  ·cases h
 ·rename_i e
  cases e;cases h;obtain⟨B,cp,hB,hc,e1⟩:=hv;exact⟨rfl,_,_,_,by simpa using e1,hc⟩
 ·rename_i e
  cases e;cases h;obtain⟨B,hB,hc,_,_,e1⟩:=hv;exact⟨rfl,_,_,_,by simpa using e1,hc⟩
 ·rename_i e
  cases e;cases h;obtain⟨p,cp,hp,e1⟩:=hv;exact⟨rfl,_,_,_,by simpa using e1,Yat _⟩
 ·rename_i e
  cases e;cases h;exact⟨rfl,_,_,_,by simpa using hv.1,Yab _⟩
 ·cases h
theorem Zmw {k:Nat} {x:Blk} {l:List (Nat×Blk)} (hd:x.dead=true):Sub' ((k,x)::l) l:=λj y hj=>by
 rcases Zbu hj with ⟨_,e,hd'⟩|⟨_,hj⟩
 ·rw[hd]at hd';cases hd'
 ·exact hj
theorem Zny (h:Sat D w0 X th ρ wc w bk) {bkR:List (Nat×Blk)} (hs:Sub bkR bk) {s x:SV} {vs vx:Value} (hvs:denV D ρ wc s vs) (hvx:denV D ρ wc x vx) {t tx ty:TypeId} {r:SV} {wr:List (Nat×Blk)} {c':Nat}
  (ha:appendS P t tx (some s) (some x) bkR th c=some (r,wr,c')) (hn:∀k,c<=k->k<c'->ρ k=none) :
  ∃v w' ρ',(Builtin.append_ #[t,tx] ty #[vs,vx]).run P w=.ok v w'∧denV D ρ' wc r v∧Sat D w0 X th ρ' wc w' (wr++bk)∧Evo ρ wc w bk c c' ρ' wc w' (wr++bk):=by
 have hBk:BkOk D ρ wc w bkR:=λk b hk=>h.bkOk k b (hs k b hk);unfold appendS at ha;split at ha
 ·rename_i e e' ht htx
  split at ha
  ·rename_i size bytes hinf
   obtain⟨i,z,hi,hz,hzs,rfl,rfl⟩:=Zmv hinf;split at ha
   ·rename_i n us hnews
    obtain⟨news,hsrc,hln,hnl,_⟩:=Zmu (P:=P) hBk hvx hnews htx;split at ha
    ·rename_i hn0
     have hn0:=Ybe hn0;subst hn0;obtain⟨r',hr,e1⟩:=Yad.1 ha;cases e1;obtain⟨rfl,p,m,cap,rfl,hle⟩:=Zs7 hr hvs;obtain rfl:news=[]:=List.eq_nil_of_length_eq_zero (by simpa using hnl);exact⟨_,_,ρ,run_append_nothing w t tx ty e i ht hi p m cap hle vx hsrc,hvs,h,Evo.refl _ _ _ _ _⟩
    ·rename_i hn0
     have hnp:0<n:=by
      rcases Yff n with h0|h0
      ·subst h0;simp at hn0
      ·exact h0
     split at ha
     ·rename_i k off len cap e1
      cases e1;obtain⟨B,hB,e2⟩:=hvs;obtain rfl:vs=.slice (some ⟨B.blk,B.base+off,none⟩) len cap:=by simpa using e2
      split at ha
      ·rename_i b hb
       split at ha
       ·cases ha
       ·rename_i hd
        have hliv:Liv bk k b:=⟨hs k b hb,by simpa using hd⟩
        obtain⟨B',cs,h1,h2,h3,h4,h5,h6⟩:=h.box k b hliv;cases hB.symm.trans h1;split at ha
        ·rename_i hroom
         have hroom:=Yaa hroom;split at ha
         ·cases ha
         ·rename_i hT
          simp only[Ybo,Ydz,not_or,Bool.not_eq_true,Bool.or_eq_false_iff,bne_eq_false_iff_eq,Nat.ble_eq,not_and]at hT;obtain⟨hro,hT⟩:=hT;have hro:b.ro=false:=by simpa using hro
          have hT:b.T≠3∨th<=k:=by
           by_cases h3:b.T=3
           ·right
            have:=hT;simp[h3]at this;exact this
           ·exact .inl h3
          obtain⟨l,hl,e3⟩:=Yad.1 ha;cases e3;obtain⟨k1,k2,k3,k4⟩:=h.store hliv hro hl hln hT hB c;refine⟨.slice (some ⟨B.blk,B.base+off,none⟩) (len+n) cap,_,ρ,?_,⟨B,hB,rfl⟩,k1,k2⟩;rw[k4,Yba];refine run_append_room_src w t tx ty e i ht hi B.blk off len cap vx n news hsrc hroom (λj hj=>?_) (λj hj=>?_)
          ·exact(k3 j hj).1
          ·exact(k3 j hj).2
        ·rename_i hroom
         have hroom:cap<len+n:=by
          rcases Ydu cap (len+n) with h|h
          ·exact h
          ·rw[Nat.ble_eq_true_of_le h]at hroom;simp at hroom
         split at ha
         ·rename_i hsm
          obtain⟨g1,g2⟩:=Zf4 hsm;obtain⟨lo,hl,e3⟩:=Yad.1 ha;cases e3;obtain⟨olds,q1,q2,q3,_,q4⟩:=Src.of_sub (P:=P) h2 h3 hl htx cap;refine Zlg h (hn c (Yab _) (Yca _)) ht hi hz hzs q2 hln q3 (λw' hw'=>?_) hsrc hnl hroom g1 g2;refine run_firstCells_some w' _ _ _ _ _ _ q3 λj u hj=>?_;rw[<-q4 j u hj];simp only[World.cell?,hw']
         ·cases ha
      ·cases ha
     ·rename_i e1
      cases e1;obtain rfl:vs=.slice none 0 0:=by simpa using hvs.1
      split at ha
      ·rename_i hsm
       obtain⟨g1,g2⟩:=Zf4 hsm;cases ha;have:=Zlg (sLen:=0) (sCap:=0) (base:=none) (olds:=[]) (lo:=[]) (ty:=ty) h (hn c (Yab _) (Yca _)) ht hi hz hzs rfl hln Zs (λw' _=>run_firstCells_none w' _ _ _ _) hsrc hnl Zo Zo (by rw[Yba];exact g2);simpa using this
      ·cases ha
     ·rename_i k len sz e1
      cases e1;obtain⟨B,hB,hlc,htot,hb0,e2⟩:=hvs;obtain rfl:vs=.slice (some ⟨B.blk,0,none⟩) len B.cap:=by simpa using e2
      split at ha
      ·rename_i b hb
       split at ha
       ·cases ha
       ·rename_i hc
        simp only[Ybo,Ydz,not_or,Bool.not_eq_true,Bool.not_eq_false]at hc;obtain⟨⟨⟨⟨⟨⟨⟨⟨c1,c2⟩,c3⟩,c4⟩,c5⟩,c6⟩,c7⟩,c8⟩,c9⟩:=hc;cases ha;have c5:=Ybe c5;have c6:=Ybe c6;have c7:=Ybe c7;obtain⟨g1,g2⟩:=Zf4 c9;have hT:b.T≠3∨th<=k:=by
         rcases c4 with h|h
         ·exact .inl (by simpa using h)
         ·exact .inr (Yaa h)
        have hliv:Liv bk k b:=⟨hs k b hb,c1⟩
        have hkc:c≠k:=λe=>by
         have:=hn c (Yab _) (Yca _);rw[e,hB]at this;cases this
        obtain⟨B',cs,h1,h2,h3,h4,h5,h6⟩:=h.box k b hliv;cases hB.symm.trans h1;have hcn:=hn c (Yab _) (Yca _);subst c5;subst c6;by_cases hroom:len+n<=B.cap
        ·have hrm:widths b.cells+news.length<=B.tot:=by
          rw[c7,hnl,htot,<-Nat.add_mul];exact Ybd _ hroom
         obtain⟨k1,k2,k3,k4⟩:=h.push hliv c2 c3 hln hT hB hcn hrm hkc;refine⟨.slice (some ⟨B.blk,0,none⟩) (len+n) B.cap,_,_,?_,⟨B,Zbf _ _ _,hroom,htot,hb0,rfl⟩,k1,k2⟩;rw[c7]at k3 ⊢;have:=run_append_room_src w t tx ty b.T i ht hi B.blk 0 len B.cap vx n news hsrc hroom (λj hj=>by rw[Yba];exact(k3 j hj).1) (λj hj=>by rw[Yba];exact(k3 j hj).2);rw[Yba]at this;exact this
        ·have hcs:=h3.len
         obtain⟨v,w',ρ',q1,q2,q3,q4⟩:=Zlg (ty:=ty) (olds:=cs) (base:=some ⟨B.blk,0,none⟩) (sLen:=len) (sCap:=B.cap) h hcn ht hi hz hzs h3 hln (by rw[hcs,c7]) (λw' hw'=>run_firstCells_some w' _ _ _ _ _ _ (by rw[hcs,c7]) λj u hj=>by
          have:=h2.cell hj;rw[hb0,Yba]at this;rw[Yem,Yba,<-this];simp only[World.cell?,hw']) hsrc hnl Zo g1 g2
         exact⟨v,w',ρ',q1,q2,q3.sub' (Zmw rfl),q4.sub' (Zmw rfl)⟩
      ·cases ha
     ·cases ha
   ·cases ha
  ·cases ha
 ·cases ha
end
end
end Go.Ex
namespace Go.Proofs.W
open Go.RowKit Go.Mono
theorem Zvm (n c:Nat) (p:Option Addr) (g:Nat->Nat) (fi ca:Nat->Array Value) (w:World) (hr:RdC w p n c 1 (λi _=>.func (.func (g i)) (fi i) (ca i)))
  (eg:∀i,i<n->∀args w,(callFunc (g i) args).run Tryz.prog w=.ok (.enter (g i) args) w)
  (hc:∀i,i<n->∀W,Below w.heap.size w W->Calls Tryz.prog (g i) (fi i++ca i) W λe w'=>e=.returned (.bool true)∧Below W.heap.size W w') :
  Calls Tryz.prog 202 #[.slice p n c] w λe w'=>e=.returned (.bool true)∧Below w.heap.size w w':=by
 obtain⟨hc1,hn1,hx⟩:=hr;go_enter Tryz.func202,Tryz.ntmps202
 go_wp2
 go_step3
 go_wp2
 go_step3
 go_wp2
 go_loopw [3,8] (λl a wr=>∃k:Nat,k<=n∧l=.bool true∧a=.int .i64 (k:Int)∧Below w.heap.size w wr) (λ_ a _=>(n-intOf a).toNat)
 case atStart=>exact⟨0,Yat _,rfl,rfl,Yae _ _⟩
 case round=>
  obtain⟨k,hk,rfl,rfl,hB⟩:=hrel;by_cases h0:k<n
  ·obtain⟨b,off,rfl,hb,hcell⟩:=hx Zo
   have a1:=(hB.cell hb).trans (hcell k 0 h0 Zo);simp only[Yfk,Yce]at a1;have hck:=hc k h0 wr hB;have egk:=eg k h0;generalize g k=G at *;generalize fi k=FI at *;generalize ca k=CA at *;clear hcell hx hc eg;have h0':(k:Int)<n:=Zo;go_wp2
   refine hck.mono ?_;rintro e w' ⟨rfl,hb'⟩;go_wp2
   go_roundw
   case rel=>exact⟨k+1,Zo,rfl,Zs,Zaa hB hb'⟩
   case measure=>simp[intOf];omega
  ·obtain rfl:k=n:=by omega
   clear hx hc eg;go_wp2
   rw[Exit.noGoto_ret];go_ret
   exact⟨rfl,hB⟩
theorem Zqo (A B:Nat) (nm:ByteArray) (w:World) (a0:Box w A 265 #[.pointer (some ⟨B,0,none⟩)]) (hn:w.cell? ⟨B,0,none⟩=some (.string nm))
  (h0:1<=nm.size) (h1:nm.size<=16) (hl:∀i (hi:i<nm.size),isLetter (nm[i].toNat:Int)) :
  Calls Tryz.prog 203 #[.pointer (some ⟨A,0,none⟩)] w λe w'=>e=.returned (.bool true)∧Below w.heap.size w w':=by
 have ca0:=a0.cell;have hk:=Zqm nm h0 h1 hl w;clear hl h0 h1;go_enter Tryz.func203,Tryz.ntmps203
 go_wp2_with (go_at_call 204;refine hk.mono ?_;rintro e w' ⟨rfl,rfl⟩)
 go_ret
 exact⟨rfl,Yae _ _⟩
theorem Zqp (A B:Nat) (di pu:Int) (w:World) (a0:Box w A 265 #[.pointer (some ⟨B,0,none⟩)]) (h1:w.cell? ⟨B,1,none⟩=some (.int .i64 di)) (h2:w.cell? ⟨B,2,none⟩=some (.int .i64 pu))
  (d0:0<=di) (d1:di<=1000000000) (p0:1<=pu) (p1:pu<=1000000000) :
  Calls Tryz.prog 205 #[.pointer (some ⟨A,0,none⟩)] w λe w'=>e=.returned (.bool true)∧Below w.heap.size w w':=by
 have ca0:=a0.cell;go_enter Tryz.func205,Tryz.ntmps205
 go_wp2_with first|(go_at_call 206;(with_reducible refine(Zbg di _ _ d0 d1 _).mono ?_);rintro e w' ⟨rfl,rfl⟩)|(go_at_call 206;(with_reducible refine(Zbg pu _ _ p0 p1 _).mono ?_);rintro e w' ⟨rfl,rfl⟩)
 go_ret
 exact⟨rfl,Yae _ _⟩
end Go.Proofs.W
namespace Go.Ex
open Go.RowKit Go.Mono
section
def zerosU (P:Program) (e:TypeId) (n:Nat):Option (List U):=
 match (P.info? e).bind (·.zero) with
 | some z=>(λl:List Value=>if l.all (·.oneCell') then some (l.map .val) else none) ((Array.range n).map (z.cells[· % z.cells.size]!)).toList
 | none=>none
theorem Znz {D:Den} {ρ:Nm} {w:World} {x:SA} {v:Value} (h:denA D ρ w x v):(∃cs:Array Value,v=.agg cs)∨v.oneCell'=true:=by
 cases x with
 | one u=>exact .inr (denU.ones h v Zs)
 | agg l=>obtain⟨cs,e,_⟩:=h;exact .inl ⟨_,e⟩
theorem Zgr {P:Program} (w:World) (b o:Nat) (ty:TypeId) (v:Value) (hv:(∃cs:Array Value,v=.agg cs)∨v.oneCell'=true) (ht:w.there b o v.cells.size) (hi:(P.info? ty).map (·.size)=some v.cells.size)
  (h1:∀u∈v.cells.toList,u.oneCell'=true):(Instr.storeAt ty (.pointer (some ⟨b,o,none⟩)) v).run P w=.ok () (w.setCells b o v.cells.toList):=by
 rcases hv with ⟨cs,rfl⟩|hv
 ·exact run_storeAt_mid w b o ty cs ht hi (by rw[Array.all_eq_true_iff_forall_mem];intro u hu;exact h1 u (by simpa[Value.cells]using hu))
 ·rw[Zde hv]at ht hi ⊢
  have:=run_storeAt_mid (P:=P) w b o ty #[v] ht hi (by simpa using hv);rw[<-this];unfold Instr.storeAt storeVar;rw[Zde hv];rfl
def makeS (P:Program) (t:TypeId) (l x:Option SV) (c:Nat):Option (SV×List (Nat×Blk)×Nat):=
 match l,x with
 | some (.a (.one (.val (.int _ (.ofNat n))))), some (.a (.one (.val (.int _ (.ofNat m))))) => match P.underlying t with
   | some (.slice e) => match infoZ P e with
     | some (size, bytes) => if Nat.ble n m && small m bytes then match (P.info? e).bind (·.zero) with
       | some z=>if z.cells.toList.all (·.oneCell') then some (.a (.one (.slc c 0 n m)),[(c,⟨e,(madeCells z.cells (m*size)).toList.map .val,false,false,false⟩)],c+1) else none
       | none=>none
       else none
     | none=>none
   | _=>none
 | _,_=>none
def copyS (P:Program) (t:TypeId) (d x:Option SV) (bk:List (Nat×Blk)) (th c:Nat):Option (SV×List (Nat×Blk)×Nat):=
 match P.underlying t with
 | some (.slice e) => match szOf P e with
   | some size => match d, newsS bk size x with
     | some (.a (.one (.slc k off len cap))), some (n, us) => match bk.look k, takeU us (Nat.min n len * size) with
       | some b, some vs => if b.dead || b.ro || !(b.T != 3 || Nat.ble th k) then none else
         (putX b.cells (off+0) vs).map λl=>(.a (.one (.val (goInt (Nat.min n len)))),[(k,⟨b.T,l,false,b.sp,false⟩)],c)
       | _,_=>none
     | _,_=>none
   | none=>none
 | _=>none
def effS (P:Program) (o:Oper) (get:Operand->Option SV) (bk:List (Nat×Blk)) (th c:Nat):Option (SV×List (Nat×Blk)×Nat):=
 match o.op with
 | .alloc T=>(zeroU P T).map λl=>(.a (.one (.ptr c 0)),[(c,⟨T,l,false,false,false⟩)],c+1)
 | .box T x => match get x with
   | some (.a s)=>some (.a (.one (.ptr c 0)),[(c,⟨T,unitsA s,false,false,false⟩)],c+1)
   | _=>none
 | .buildSlice t len parts => match P.underlying t with
   | some (.slice e) => match szOf P e, partsS get parts.toList with
     | some s, some ps => if len * s <= 2 ^ 24 && len * s != 0 then
       match zerosU P e (len*s) with
       | some z=>(fillS (λi=>some (i*s,s)) z ps).map λm=>(.a (.one (.slc c 0 len len)),[(c,⟨e,m,false,false,false⟩)],c+1)
       | none=>none
       else none
     | _,_=>none
   | _=>none
 | .store t x y => match get x, get y with
   | some (.a (.one (.ptr k off))), some (.a s) => match bk.look k with
     | some b=>if(szOf P t).any (·==widths (unitsA s))&&(b.T != 3 || Nat.ble th k)&&!b.ro&&!b.dead then(putX b.cells off (unitsA s)).map λl=>(.tup [],[(k,⟨b.T,l,false,b.sp,false⟩)],c) else none
     | none=>none
   | _,_=>none
 | .makeSlice t l x=>makeS P t (get l) (get x) c
 | .call ⟨.builtin .append,⟨[s,x]⟩,⟨[t,tx]⟩⟩=>appendS P t tx (get s) (get x) bk th c
 | .call ⟨.builtin .copy, ⟨[d, x]⟩, ⟨[t, tx]⟩⟩ => match P.underlying tx with
   | some (.slice _)=>copyS P t (get d) (get x) bk th c
   | _=>none
 | _=>(evPure P o get bk).map λx=>(x,[],c)
section
variable {D:Den} {P:Program} {w0:World} {X:Nat->Prop} {th:Nat} {ρ:Nm} {wc w:World} {bk bkR:List (Nat×Blk)} {c:Nat} {get:Operand->Option SV} {ev:Operand->Value}
theorem Zf5 (h:Sat D w0 X th ρ wc w bk) (hk:ρ c=none) {T:TypeId} {l:List U} {cells:Array Value} {s:Sem Value} (mk:Addr->Value) (x:SV) (hx:∀B,denV D (addNm ρ c ⟨B,0,false,0,0⟩) wc x (mk ⟨B,0,none⟩))
  (hrun:s.run P w=.ok (mk ⟨w.heap.size,0,none⟩) (w.alloc (.cells cells T))) (hl:denL D ρ wc l cells.toList) {S:Sem Next} (hex:S=do pure (Next.value (<-s))) :
  EffOk D P w0 X th ρ wc w bk c S x [(c,⟨T,l,false,false,false⟩)] (c+1):=by
 obtain⟨k1,k2⟩:=h.alloc hk T false 0 0 (rest:=[]) hl (λ_=>rfl) (λhh=>by cases hh);rw[Ydg,Array.toArray_toList]at k1 k2;refine⟨_,_,_,_,?_,.inl rfl,hx _,k1,k2⟩;rw[hex];simp only[Yar,hrun,Yag,Yau]
theorem Zp7 {z:Value} (hz:z.cells.toList.all (·.oneCell')=true) (n:Nat) (hn:z.cells.size=0->n=0):denL D ρ wc ((madeCells z.cells n).toList.map .val) (madeCells z.cells n).toList:=by
 refine Zdr _ λv hv=>?_;unfold madeCells at hv;simp only[Array.toList_map,Ydl]at hv;obtain⟨i,hi,rfl⟩:=hv;have hi:i<n:=by simpa using hi
 have h0:0<z.cells.size:=by
  rcases Yff z.cells.size with h|h
  ·have:=hn h;omega
  ·exact h
 have hm:=Nat.mod_lt i h0;rw[getElem!_pos z.cells (i%z.cells.size) hm];exact Ybn.1 hz _ Zs
theorem Zs8 (h:Sat D w0 X th ρ wc w bk) (hn:∀k,c<=k->k<c+1->ρ k=none) {t:TypeId} {sl sx x:SV} {vl vx:Value} (hl:denV D ρ wc sl vl) (hx:denV D ρ wc sx vx) {wr:List (Nat×Blk)} {c':Nat}
  (he:makeS P t (some sl) (some sx) c=some (x,wr,c')) {S:Sem Next} (hex:S=do pure (Next.value (<-Instr.makeSlice t vl vx))):EffOk D P w0 X th ρ wc w bk c S x wr c':=by
 unfold makeS at he;split at he
 ·rename_i kl n km m e1 e2
  cases e1;cases e2;obtain rfl:vl=_:=by simpa using hl.1
  obtain rfl:vx=_:=by simpa using hx.1
  split at he
  ·rename_i e hu
   split at he
   ·rename_i size bytes hinf
    obtain⟨i,z,hi,hz,hzs,rfl,rfl⟩:=Zmv hinf;split at he
    ·rename_i hc
     rw[Yam]at hc;obtain⟨g1,g2⟩:=Zf4 hc.2;have g0:=Yaa hc.1;split at he
     ·rename_i z' hz'
      rw[hi]at hz';have hz2:z'=z:=by
       have:i.zero=some z':=hz';rw[hz]at this;cases this;rfl
      subst hz2;split at he
      ·rename_i hall
       cases he;have g3:(i.bytes:Int)*(m:Int)<=281474976710656:=by
        have g4:i.bytes*m<=140737488355328:=by rw[Ycu];exact g2
        have:((i.bytes*m:Nat):Int)<=140737488355328:=Zo;rw[Ycw]at this;omega
       have hrun:=run_make (P:=P) w t e i z' hu hi hz kl km (n:Int) (m:Int) (Int.natCast_nonneg _) Zo g3 Zo;rw[Ycb,Ycb]at hrun;exact Zf5 h (hn c (Yab _) (Yca _)) (λp=>.slice (some p) n m) (.a (.one (.slc c 0 n m))) (λB=>⟨_,Zbf _ _ _,rfl⟩) hrun (Zp7 hall _ (λh0=>by rw[<-hzs,h0];simp)) hex
      ·cases he
     ·cases he
    ·cases he
   ·cases he
  ·cases he
 ·cases he
theorem Zs9 (h:Sat D w0 X th ρ wc w bk) (hs:Sub bkR bk) {t tx ty e':TypeId} (htx:P.underlying tx=some (.slice e')) {sd sx x:SV} {vd vx:Value} (hd:denV D ρ wc sd vd) (hx:denV D ρ wc sx vx) {wr:List (Nat×Blk)} {c':Nat}
  (he:copyS P t (some sd) (some sx) bkR th c=some (x,wr,c')) {S:Sem Next} (hex:S=do pure (Next.value (<-Builtin.copy_ #[t,tx] ty #[vd,vx]))):EffOk D P w0 X th ρ wc w bk c S x wr c':=by
 have hBk:BkOk D ρ wc w bkR:=λk b hk=>h.bkOk k b (hs k b hk);unfold copyS at he;split at he
 ·rename_i e hu
  split at he
  ·rename_i size hz
   split at he
   ·rename_i k off len cap n us e1 hnews
    cases e1;obtain⟨news,hsrc,hln,hnl,hfc⟩:=Zmu (P:=P) hBk hx hnews htx;split at he
    ·rename_i b vs hb htk
     split at he
     ·cases he
     ·rename_i hc
      simp only[Ybo,Ydz,not_or,Bool.not_eq_true,Bool.not_eq_false]at hc;obtain⟨⟨c1,c2⟩,c3⟩:=hc;obtain⟨l,hl,e3⟩:=Yad.1 he;cases e3;obtain⟨B,hB,e2⟩:=hd;obtain rfl:vd=.slice (some ⟨B.blk,B.base+off,none⟩) len cap:=by simpa using e2
      have hT:b.T≠3∨th<=k:=by
       rcases c3 with h|h
       ·exact .inl (by simpa using h)
       ·exact .inr (Yaa h)
      obtain⟨q1,q2⟩:=Zem htk hln;obtain⟨k1,k2,k3,k4⟩:=h.store ⟨hs k b hb,c1⟩ c2 hl q1 hT hB c;obtain⟨i,hi,rfl⟩:=Yad.1 hz;have hcp:=hfc (Nat.min n len) (Nat.min_le_left _ _);have hst:=run_storeCells_cells (P:=P) B.blk off (news.take (Nat.min n len*i.size)) 0 w (by simpa using λj hj=>(k3 j (by simpa using hj)).1) (by simpa using λj hj=>(k3 j (by simpa using hj)).2) q1.ones;rw[Yce]at k1 k2 hst;refine⟨_,goInt (Nat.min n len),_,ρ,?_,.inl rfl,⟨rfl,rfl⟩,k1,k2⟩;rw[hex];have hrun:(Builtin.copy_ #[t,tx] ty #[.slice (some ⟨B.blk,B.base+off,none⟩) len cap,vx]).run P w=.ok (goInt (Nat.min n len)) (w.setCells B.blk off (news.take (Nat.min n len*i.size))):=by
       rw[k4,Yba];simp[Builtin.copy_,run_underlying hu,sizeOf,typeInfo,hi,hsrc.len,hcp,hst]
      simp only[Yar,hrun,Yag,Yau]
    ·cases he
   ·cases he
  ·cases he
 ·cases he
theorem Zvb (h : Sat D w0 X th ρ wc w bk) (hs : Sub bkR bk) (hg : ∀ x z, get x = some z -> denV D ρ wc z (ev x)) {o : Oper} {x : SV} {wr : List (Nat × Blk)} {c' : Nat}
  (he:effS P o get bkR th c=some (x,wr,c')) (hn:∀k,c<=k->k<c'->ρ k=none):EffOk D P w0 X th ρ wc w bk c (execOp ev o) x wr c':=by
 unfold effS at he;split at he
 ·rename_i T ho
  obtain⟨l,hl,e⟩:=Yad.1 he;cases e;obtain⟨i,z,h1,h2,h3⟩:=Zms hl D ρ wc;exact Zf5 h (hn c (Yab _) (Yca _)) (λp=>.pointer (some p)) (.a (.one (.ptr c 0))) (λB=>⟨_,Zbf _ _ _,rfl⟩) (s:=Instr.alloc T true (.tuple #[])) (by simp[Instr.alloc,zeroValue,typeInfo,h1,h2,newVar,newRow]) h3 (by unfold execOp;rw[ho])
 ·rename_i T y ho
  split at he
  ·rename_i s hy
   cases he;have hd:=hg _ _ hy;exact Zf5 h (hn c (Yab _) (Yca _)) (λp=>.pointer (some p)) (.a (.one (.ptr c 0))) (λB=>⟨_,Zbf _ _ _,rfl⟩) (s:=Instr.box T (ev y)) (by simp[Instr.box,newVar,newRow]) (Zfc hd) (by unfold execOp;rw[ho])
  ·cases he
 ·rename_i t len parts ho
  split at he
  ·rename_i e hu
   split at he
   ·rename_i s ps hz hp
    split at he
    ·rename_i hlen
     rw[Yam]at hlen;split at he
     ·rename_i z hzs
      obtain⟨m,hm,e1⟩:=Yad.1 he;cases e1;unfold zerosU at hzs;split at hzs
      ·rename_i zv hzv
       obtain⟨ie,hie,hze⟩:=Ybg.1 hzv;dsimp only at hzs;split at hzs
       ·rename_i hall
        cases hzs;have hps:=Zgq (D:=D) (ρ:=ρ) (w:=wc) hg hp;obtain⟨cells,hf1,hf2⟩:=Zf3 _ hm (Zdr _ λv hv=>Ybn.1 hall v hv) hps;obtain⟨ie',hie',rfl⟩:=Yad.1 hz;cases hie.symm.trans hie';refine Zf5 h (hn c (Yab _) (Yca _)) (λp=>.slice (some p) len len) (.a (.one (.slc c 0 len len))) (λB=>⟨_,Zbf _ _ _,rfl⟩) (s:=Instr.buildSlice t len (parts.map λ(i,x)=>(i,ev x))) ?_ hf2 (by unfold execOp;rw[ho]);refine run_buildSlice w t e len _ cells ie zv hu hie hze (by have:=hlen.1;simp only[decide_eq_true_eq]at this;omega) (by simpa using hlen.2) ?_;rw[<-hf1];congr 1
        simp
       ·cases hzs
      ·cases hzs
     ·cases he
    ·cases he
   ·cases he
  ·cases he
 ·rename_i t y z ho
  split at he
  ·rename_i k off s hy hz
   split at he
   ·rename_i b hb
    split at he
    ·rename_i hc
     rw[Yam,Yam,Yam]at hc;obtain⟨⟨⟨hc1,hc2⟩,hro⟩,hdd⟩:=hc;obtain⟨l,hl,e⟩:=Yad.1 he;cases e;obtain⟨B,hB,e1⟩:=hg _ _ hy;have e2:ev y=.pointer (some ⟨B.blk,B.base+off,none⟩):=by simpa using e1
     have hd:=hg _ _ hz;have hcs:=Zfc hd;obtain⟨sz,hsz,hw⟩:=Option.any_eq_true_iff_get .. |>.1 hc1 |> λ⟨h1,h2⟩=>(⟨_,Option.some_get h1 |>.symm,by simpa using h2⟩:∃sz,szOf P t=some sz∧sz=widths (unitsA s))
     obtain⟨k1,k2,k3,hbase⟩:=h.store ⟨hs k b hb,by simpa using hdd⟩ (by simpa using hro) hl hcs (by
      rw[Ybo]at hc2;rcases hc2 with h|h
      ·exact .inl (by simpa using h)
      ·exact .inr (Yaa h)) hB c
     rw[hbase,Yba]at e2;have hrun:=Zgr (P:=P) w B.blk off t (ev z) (Znz hd) (by rw[<-Yaz];exact k3) (by rw[<-Yaz,hcs.len,<-hw];exact hsz) hcs.ones;refine⟨.skip,undef,_,ρ,?_,.inr ⟨rfl,rfl⟩,⟨[],rfl,rfl⟩,k1,k2⟩;unfold execOp;rw[ho];simp only[e2,Yar,hrun,Yag,Yau]
    ·cases he
   ·cases he
  ·cases he
 ·rename_i t l y ho
  cases hl:get l with
  | none=>rw[hl]at he;simp[makeS]at he
  | some sl =>
    cases hy:get y with
    | none=>rw[hl,hy]at he;unfold makeS at he;split at he<;>first|cases he|(rename_i e;cases e)
    | some sy =>
      rw[hl,hy]at he;have hc':c'=c+1:=by
       unfold makeS at he;repeat' (split at he<;>try cases he)
       rfl
      subst hc';exact Zs8 h hn (hg _ _ hl) (hg _ _ hy) he (by unfold execOp;rw[ho])
 ·rename_i s y t tx ho
  cases hl:get s with
  | none =>
    rw[hl]at he;unfold appendS at he;repeat' (split at he)
    all_goals first|contradiction|(simp[Zls]at he;done)
  | some sl =>
    cases hy:get y with
    | none =>
      rw[hl,hy]at he;unfold appendS at he;have:∀n us size,newsS bkR size none≠some (n,us):=λn us size hh=>by simp[newsS]at hh
      repeat' (split at he)
      all_goals first|contradiction|(exfalso;apply this;assumption)
    | some sy =>
      rw[hl,hy]at he;obtain⟨v,w',ρ',q1,q2,q3,q4⟩:=Zny (ty:=o.type) h hs (hg _ _ hl) (hg _ _ hy) he hn;refine⟨_,v,w',ρ',?_,.inl rfl,q2,q3,q4⟩;unfold execOp;simp only[ho,resolve,Yar,Yau,Yag,invoke,builtin];simp only[Yev,Ybz,Yfp,Yar,q1,Yag,Yau]
 ·rename_i s y t tx ho
  split at he
  ·rename_i e' htx
   cases hl:get s with
   | none =>
     rw[hl]at he;unfold copyS at he;repeat' (split at he)
     all_goals contradiction
   | some sl =>
     cases hy:get y with
     | none =>
       rw[hl,hy]at he;unfold copyS at he;have:∀n us size,newsS bkR size none≠some (n,us):=λn us size hh=>by simp[newsS]at hh
       repeat' (split at he)
       all_goals first|contradiction|(exfalso;apply this;assumption)
     | some sy =>
       rw[hl,hy]at he;have hc':c'=c:=by
        unfold copyS at he;split at he
        ·split at he
         ·split at he
          ·split at he
           ·split at he
            ·cases he
            ·obtain⟨l,hl,e⟩:=Yad.1 he
             cases e;rfl
           ·cases he
          ·cases he
         ·cases he
        ·cases he
       refine Zs9 (ty:=o.type) h hs htx (hg _ _ hl) (hg _ _ hy) he ?_;unfold execOp;simp only[ho,resolve,invoke,builtin,Yev,Ybz,Yfp];rfl
  ·cases he
 ·obtain⟨y,hy,e⟩:=Yad.1 he
  cases e;obtain⟨v,h1,h2⟩:=Zjw (P:=P) hg (λk b hk=>h.bkOk k b (hs k b hk)) hy;exact⟨_,v,w,ρ,h1,.inl rfl,h2,h,Evo.refl _ _ _ _ _⟩
end
end
end Go.Ex
namespace Go.Proofs.W
open Go.RowKit Go.Mono
theorem Zoa (n c:Nat) (p:Option Addr) (A:Nat->Array Value) (hA:∀i,(A i).size=22) (g:Nat) (eg:∀args w,(callFunc g args).run Tryz.prog w=.ok (.enter g args) w) (w:World)
  (h:RdC w p n c 22 (λi j=>(A i).getD j undef))
  (hf:∀i,i<n->∀W,Below w.heap.size w W->Calls Tryz.prog g #[.agg (A i)] W λe w'=>e=.returned (.bool false)∧Below W.heap.size W w') :
  Calls Tryz.prog 241 #[.slice p n c,.func (.func g) #[] #[]] w λe w'=>e=.returned (.int .i64 (-1))∧Below w.heap.size w w':=by
 obtain⟨hc1,hn1,hx1⟩:=h;have hsz:(Tryz.prog.info? 117).map (·.size)=some 22:=Zk;go_enter Tryz.func241,Tryz.ntmps241
 go_wp2
 go_loopw [8] (λa wr=>∃k:Nat,k<=n∧a=.int .i64 (k:Int)∧Below w.heap.size w wr) (λa _=>(n-intOf a).toNat)
 case atStart=>exact⟨0,Yat _,rfl,Yae _ _⟩
 case round=>
  obtain⟨k,hk,rfl,hB⟩:=hrel;by_cases h0:k<n
  ·obtain⟨b,off,rfl,hb,hcell⟩:=hx1 Zo
   have hAk:=hA k;have hrange:wr.rangeAt b (off+k*22) (A k).toList:=λj v hv=>by
    have hj:j<22:=by
     have:=(Yan.1 hv).1;simpa[hAk]using this
    refine((hB.cell hb).trans (hcell k j h0 hj)).trans ?_;rw[Yaq]at hv;rw[Yax,hv];rfl
   have hfk:=hf k h0 wr hB;have hi:(Tryz.prog.info? 117).map (·.size)=some (A k).toList.length:=by rw[hsz];simp[hAk]
   clear hcell hx1 hf hA hAk;generalize A k=AK at *;have h0':(k:Int)<n:=Zo;go_wp2_with (refine wpList_load_mid rfl 117 _ rfl b (off+k*22) rfl AK.toList _ hrange Tryz.underlying117 rfl hi ?_)
   refine hfk.mono ?_;rintro e w' ⟨rfl,hb'⟩;go_wp2
   go_roundw
   case rel=>exact⟨k+1,Zo,Zs,Zaa hB hb'⟩
   case measure=>simp[intOf];omega
  ·obtain rfl:k=n:=by omega
   clear hx1 hf;go_wp2
   go_ret
   exact⟨rfl,hB⟩
theorem Zob (n c:Nat) (p:Option Addr) (A:Nat->Array Value) (hA:∀i,(A i).size=22) (g:Nat) (eg:∀args w,(callFunc g args).run Tryz.prog w=.ok (.enter g args) w) (w:World)
  (h:RdC w p n c 22 (λi j=>(A i).getD j undef))
  (hf:∀i,i<n->∀W,Below w.heap.size w W->Calls Tryz.prog g #[.agg (A i)] W λe w'=>e=.returned (.bool false)∧Below W.heap.size W w') :
  Calls Tryz.prog 223 #[.slice p n c,.func (.func g) #[] #[]] w λe w'=>e=.returned (.bool false)∧Below w.heap.size w w':=by
 have hi:=Zoa n c p A hA g eg w h hf;clear h hf hA;go_enter Tryz.func223,Tryz.ntmps223
 go_wp2_with (go_at_call 241;refine hi.mono ?_;rintro e w' ⟨rfl,hb⟩)
 go_ret
 exact⟨rfl,hb⟩
theorem Zfx:∀args w,(callFunc 221 args).run Tryz.prog w=.ok (.enter 221 args) w:=Go.Proofs.enters_of Tryz.func221 Zk rfl
theorem Box.range {w:World} {B:Nat} {T:TypeId} {cs:Array Value} (b:Box w B T cs):w.rangeAt B 0 cs.toList:=λj v hv=>by
 rw[Yba,b.cell,<-Yaq];exact hv
theorem Zj5 (A:Array Value) (hA:A.size=22) (w:World) (hc:∀W,Below w.heap.size w W->Calls Tryz.prog 222 #[.agg A] W λe w'=>e=.returned (.int .i64 0)∧Below W.heap.size W w') :
  Calls Tryz.prog 221 #[.agg A] w λe w'=>e=.returned (.bool false)∧Below w.heap.size w w':=by
 have hsz:(Tryz.prog.info? 117).map (·.size)=some 22:=Zk;have hi:(Tryz.prog.info? 117).map (·.size)=some A.toList.length:=by rw[hsz];simp[hA]
 go_enter Tryz.func221,Tryz.ntmps221
 go_wp2_with (refine wpList_load_mid rfl 117 _ rfl w.heap.size 0 rfl A.toList _ (Box.range (Box.new w 117 A)) Tryz.underlying117 rfl hi ?_)
 refine(hc _ (Zad (Yae _ _) _)).mono ?_;rintro e w' ⟨rfl,hb⟩;go_wp2
 go_ret
 exact⟨rfl,Zaa (Zad (Yae _ _) _) hb⟩
end Go.Proofs.W
