/- Contracts of package paraxial,and a verified evaluator. Part 20 of 28. No condition beside the row. -/
import Derived.Scope
import Derived.Test.YtfgmlkjibdegfaaGreatDoorA18
set_option linter.unusedVariables false
set_option linter.unusedSimpArgs false
set_option maxRecDepth 100000
set_option maxHeartbeats 4000000
namespace Go.Ex
open Go.RowKit Go.Mono
theorem Sat.congr {D:Den} {w0:World} {X:Nat->Prop} {th:Nat} {ρ:Nm} {wc w:World} {bk bk':List (Nat×Blk)} (h:Sat D w0 X th ρ wc w bk) (he:∀k,bk'.look k=bk.look k):Sat D w0 X th ρ wc w bk':=
 h.sub λk b hk=>by rw[<-he];exact hk
theorem TSat.sub {D:Den} {ρ:Nm} {w:World} {n:Nat} {tm tm':List (Nat×SV)} {a:Act} (h:TSat D ρ w n tm a) (hs:Sub tm' tm):TSat D ρ w n tm' a:=⟨h.size,λt x hl=>h.at_ t x (hs t x hl)⟩
theorem Evo.congr {ρ ρ':Nm} {wc w wc' w':World} {bk b1 b2:List (Nat×Blk)} {c c':Nat} (h:Evo ρ wc w bk c c' ρ' wc' w' b1) (he:∀k,b2.look k=b1.look k):Evo ρ wc w bk c c' ρ' wc' w' b2:=
 h.sub λk b hk=>by rw[<-he];exact hk
theorem Evo.widen {ρ ρ':Nm} {wc w wc' w':World} {bk b1:List (Nat×Blk)} {c c' d d':Nat} (h:Evo ρ wc w bk c c' ρ' wc' w' b1) (h1:d<=c) (h2:c'<=d'):Evo ρ wc w bk d d' ρ' wc' w' b1:=
 ⟨h.rho,h.ext,h.size,h.os,h.tape,h.output,h.loc,λk b hk=>(h.ids k b hk).imp id λ⟨k1,k2,hh⟩=>⟨Zo,Zo,hh⟩,by have:=h.cc;omega,λk hk=>h.dom k Zo⟩
theorem Evo.join {ρ ρ1 ρ2:Nm} {wc w wc1 w1 wc2 w2:World} {bk bk1 bk2:List (Nat×Blk)} {c d:Nat}
  (h:Evo ρ wc w bk c d ρ1 wc1 w1 bk1) (g:Evo ρ1 wc1 w1 bk1 c d ρ2 wc2 w2 bk2) (hlt:∀k b,Liv bk k b->∃B,ρ k=some B):Evo ρ wc w bk c d ρ2 wc2 w2 bk2 where
 rho:=h.rho.trans g.rho
 ext:=h.ext.trans g.ext
 size:=Yak h.size g.size
 os:=g.os.trans h.os
 tape:=g.tape.trans h.tape
 output:=g.output.trans h.output
 loc:=λi hi hn=>by
  rw[g.loc i (Yaf hi h.size) ?_,h.loc i hi hn];intro k b C hk he hro;rcases h.ids k b hk with ⟨b',hb'⟩|⟨_,_,B,hB,hle⟩
  ·obtain⟨B,hB⟩:=hlt k b' hb'
   have:=h.rho k B hB;rw[he]at this;cases this;exact hn k b' C hb' hB hro
  ·rw[he]at hB
   cases hB;rcases hle with hle|⟨k0,b0,B0,h1,h2,h3,h4⟩
   ·omega
   ·rw[<-h4];exact hn k0 b0 B0 h1 h2 h3
 ids:=λk b hk=>by
  rcases g.ids k b hk with ⟨b',hb'⟩|⟨k1,k2,B,hB,hle⟩
  ·rcases h.ids k b' hb' with h2|⟨k1,k2,B,hB,hle⟩
   ·exact .inl h2
   ·exact .inr ⟨k1,k2,B,g.rho k B hB,hle⟩
  ·refine .inr ⟨k1,k2,B,hB,?_⟩
   rcases hle with hle|⟨k0,b0,B0,h1,h2,h3,h4⟩
   ·exact .inl (Yak h.size hle)
   ·rcases h.ids k0 b0 h1 with ⟨b',hb'⟩|⟨_,_,B1,hB1,hle⟩
    ·obtain⟨B1,hB1⟩:=hlt k0 b' hb'
     have:=h.rho k0 B1 hB1;rw[h2]at this;cases this;exact .inr ⟨k0,b',B0,hb',hB1,h3,h4⟩
    ·rw[h2]at hB1
     cases hB1;rw[<-h4];exact hle
 cc:=h.cc
 dom:=λk hk=>(g.dom k hk).trans (h.dom k hk)
theorem Zb0 {α:Type} (f:Nat->Bool) (k:Nat):∀l:List (Nat×α),(l.filter λq=>f q.1).look k=if f k=true then l.look k else none
 | []=>Zs
 | (k', x) :: r => by
   have ih:=Zb0 f k r;rw[List.filter_cons];dsimp only;by_cases h:f k'=true
   ·rw[if_pos h,Zaz,Zaz,ih]
    by_cases e:k=k'
    ·subst e;rw[if_pos rfl,if_pos rfl,if_pos h]
    ·rw[if_neg e,if_neg e]
   ·rw[if_neg h,ih,Zaz]
    by_cases e:k=k'
    ·subst e;rw[if_neg h,if_neg h]
    ·rw[if_neg e]
def left (L:Nat->Bool):Nat->Nat
 | 0=>0
 | m+1=>(if L m then 0 else 1)+left L m
theorem Zqb (L:Nat->Bool) (i:Nat):∀m,left (λj=>j==i || L j) m<=left L m
 | 0=>Yab _
 | m + 1 => by
   have:=Zqb L i m;unfold left;cases hL:L m<;>cases he:(m==i)<;>simp only[hL,he,Bool.or_true,Bool.or_false,Bool.true_or,Yeo,if_true,Ybq,if_false]<;>omega
theorem Zqc {L:Nat->Bool} {i:Nat} (hi:L i=false):∀m,i<m->left (λj=>j==i || L j) m<left L m
 | 0,h=>Zo
 | m + 1, h => by
   unfold left;by_cases e:i=m
   ·subst e
    have:=Zqb L i i;simp only[hi,BEq.rfl,Bool.true_or,if_true,Ybq,if_false];omega
   ·have:=Zqc hi m Zo
    have e':(m==i)=false:=by simp;omega
    simp only[e',Yeo];omega
theorem Zjz {L:Nat->Bool}:∀m,left L m=0->∀j,j<m->L j=true
 | 0,_,j,hj=>Zo
 | m + 1, h, j, hj => by
   unfold left at h;by_cases e:j=m
   ·subst e
    cases hL:L j with
    | true=>rfl
    | false=>rw[hL]at h;simp at h;
   ·exact Zjz m Zo j Zo
theorem Zqd {α:Type} {ws:List (List (Nat×α))} {l0:List (Nat×α)} {L:Nat->Bool} {k:Nat} {b:α}:∀N,(accAt ws L l0 N).look k=some b->l0.look k=some b∨∃j,((ws.getD j []).look k)=some b
 | 0,h=>.inl h
 | N + 1, h => by
   rw[Zb3]at h;split at h
   ·exact .inr ⟨N,h⟩
   ·exact Zqd N h
theorem Zlk {α:Type} {ws:List (List (Nat×α))} {l0:List (Nat×α)} {L:Nat->Bool} {N:Nat} (h:∀j,j<N->L j=true):∀m,m<=N->accAt ws L l0 m=accAt ws tt l0 m
 | 0,_=>rfl
 | m + 1, hm => by
   show(if L m then _ else _)++accAt ws L l0 m=(if tt m then _ else _)++accAt ws tt l0 m;rw[Zlk h m Zo,h m Zo];rfl
theorem Zeq {rs:List Rec} {i t:Nat} (h:wrote (rs.map wT) i t):∃r,rs[i]? = some r∧r.dst=some t:=by
 unfold wrote at h;rw[Yac,Ycj]at h;cases hr:rs[i]? with
 | none=>rw[hr]at h;simp at h
 | some r =>
   rw[hr]at h;simp only[Yfx,Option.getD_some]at h;unfold wT at h;cases hd:r.dst with
   | none=>rw[hd]at h;simp at h
   | some d =>
     rw[hd]at h;dsimp only at h;rw[Zaz]at h;split at h
     ·rename_i e;subst e;exact⟨r,rfl,hd⟩
     ·simp at h
theorem Zer {rs:List Rec} {i k:Nat} (h:wrote (rs.map (·.wr)) i k):∃r,rs[i]? = some r∧k∈keys r.wr:=by
 unfold wrote at h;rw[Yac,Ycj]at h;cases hr:rs[i]? with
 | none=>rw[hr]at h;simp at h
 | some r =>
   rw[hr]at h;obtain⟨b,hb⟩:=Yct.1 h;exact⟨r,rfl,Zm2 hb⟩
theorem Zve {r s:Rec} {t:Nat} (h1:r.dst=some t) (h2:t∈s.tR):conf r s=true:=by
 unfold conf;rw[show inD r.dst s.tR=true from by rw[h1];exact mem_iff.2 h2];simp
theorem Zvf {r s:Rec} {t:Nat} (h1:s.dst=some t) (h2:t∈r.tR):conf r s=true:=by
 unfold conf;rw[show inD s.dst r.tR=true from by rw[h1];exact mem_iff.2 h2];simp
theorem Zvg {r s:Rec} {t:Nat} (h1:r.dst=some t) (h2:s.dst=some t):conf r s=true:=by
 unfold conf;rw[show inD r.dst s.dst.toList=true from by rw[h1,h2];exact mem_iff.2 Zs];simp
theorem Zqe {r s:Rec} {k:Nat} (h1:k∈keys r.wr) (h2:k∈s.bR∨k∈keys s.wr):conf r s=true:=by
 unfold conf;rw[show(keys r.wr).any (λk=>mem s.bR k || mem (keys s.wr) k)=true from Yft.2 ⟨k,h1,by
  rw[Ybo,mem_iff,mem_iff];exact h2⟩]
 simp
theorem Zvh {r s:Rec} {k:Nat} (h1:k∈keys s.wr) (h2:k∈r.bR):conf r s=true:=by
 unfold conf;rw[show(keys s.wr).any (λk=>mem r.bR k)=true from Yft.2 ⟨k,h1,mem_iff.2 h2⟩];simp
section
def isCall (o:Oper):Bool:=
 match o.op with
 | .call c => match c.callee with
   | .value _=>true
   | _=>false
 | _=>false
theorem Zh2 {P:Program} {cs:CallS} {ys:YEnv} {o:Oper} {get:Operand->Option SV} {bk:List (Nat×Blk)} {th c:Nat} {orc:List (Option Bool)} {r:OpR} (he:opS P cs ys o get bk th c orc=some (r,true)):isCall o=true:=by
 unfold opS at he;split at he
 ·cases he
 ·split at he
  ·cases he
  split at he
  ·rename_i f args hc
   unfold callOf at hc;unfold isCall;split at hc
   ·rename_i c ho
    split at hc
    ·rename_i fv hcc
     rw[ho];dsimp only;rw[hcc]
    ·cases hc
   ·cases hc
  ·split at he
   ·rename_i k args hc
    unfold yldOf at hc;unfold isCall;split at hc
    ·rename_i c ho
     split at hc
     ·rename_i fv hcc
      rw[ho];dsimp only;rw[hcc]
     ·cases hc
    ·cases hc
   ·split at he
    ·cases he
    ·split at he
     ·cases he
     split at he
     ·cases he
     ·split at he
      ·split at he
       ·cases he
       ·cases he
      ·cases he
def stB (rs:List Rec) (bk pw:List (Nat×Blk)) (bR:List Nat):List (Nat×Blk):=pw++bk.filter λq=>!mem bR q.1&&rs.all λr=>!mem (keys r.wr) q.1
def stT (rs:List Rec) (tm:List (Nat×SV)):List (Nat×SV):=tm.filter λq=>rs.all λr=>!inD r.dst [q.1]
theorem Zir {α:Type} {ws:List (List (Nat×α))} {l0:List (Nat×α)} {L:Nat->Bool} {k:Nat} (h:∀j,¬wrote ws j k):∀N,(accAt ws L l0 N).look k=l0.look k
 | 0=>rfl
 | N+1=>by rw[Zb3,if_neg (λhh=>h N hh.2),Zir h N]
structure DrawOk (ops:Array Oper) (s:Stt) (rs:List Rec) (s':Stt):Prop where
 race:raceB (prOf ops) rs=true
 pre:∀j,∀q∈prOf ops j,q<j
 call:(∃o∈ops.toList,isCall o=true)->(∀k b,s.bk.look k=some b->k<s.th)∧(∀r∈rs,r.c1<=s.th∧∀k b,r.wr.look k=some b->k<s.th)
section
variable {D:Den} {P:Program} {w0:World} {X:Nat->Prop} {cs:CallS} {ys:YEnv}
theorem Ztb (hcs:CallOk D P w0 X cs) {bd:Nat} {ro:Option Nat} {m:Nat} {ops:Array Oper} {n:Nat} {s s':Stt} {rs:List Rec} {q:List Prop} {pn:Option Value} (hR:RecOk P cs ys ops n ops.toList 0 [] s rs s' q pn) (hD:DrawOk ops s rs s') (hq:∀p∈q,p)
  {Q:Exit->Act->World->Prop} {ρ0:Nm} {wc0 w00:World} {d0:List Deferred} (hnm:∀k b,Liv s.bk k b->∃B,ρ0 k=some B) (hY0:∀ρ' wc' w' bk',Evo ρ0 wc0 w00 s.bk s.c s'.c ρ' wc' w' bk'->YOk D P w0 X bd ys ρ' wc' w')
  (hK:pn=none->∀ρ' wc' w' a',Sat D w0 X s.th ρ' wc' w' s'.bk->TSat D ρ' wc' n s'.tm a'->a'.defers=d0->Evo ρ0 wc0 w00 s.bk s.c s'.c ρ' wc' w' s'.bk->Q .normal a' w')
  (hP:∀p pw bR,panRec rs=some (p,pw,bR)->∀ρ' wc' w' a',Sat D w0 X s.th ρ' wc' w' (stB rs s.bk pw bR)->TSat D ρ' wc' n (stT rs s.tm) a'->a'.defers=d0->Evo ρ0 wc0 w00 s.bk s.c s'.c ρ' wc' w' (stB rs s.bk pw bR)->Q (.panic [{v:=p,recovered:=false}]) a' w') :
  ∀(fuel:Nat) (L:Array Bool) (a:Act) (w:World) (ρ:Nm) (wc:World),L.size=ops.size->left (λj=>L.getD j false) ops.size<=fuel->
    (∀j,L.getD j false=true->∀p∈prOf ops j,L.getD p false=true)->(∀(i:Nat) (r:Rec),rs[i]? = some r->r.kd≠.go->L.getD i false=false)->
    Sat D w0 X s.th ρ wc w (accAt (rs.map (·.wr)) (λj=>L.getD j false) s.bk ops.size)->TSat D ρ wc n (accAt (rs.map wT) (λj=>L.getD j false) s.tm ops.size) a->a.defers=d0->
    Evo ρ0 wc0 w00 s.bk s.c s'.c ρ wc w (accAt (rs.map (·.wr)) (λj=>L.getD j false) s.bk ops.size)->
    (∀(i:Nat) (r:Rec),rs[i]? = some r->L.getD i false=false->∀k,r.c0<=k->k<r.c1->ρ k=none)->wpAnyIn (WF ro) m P .any ops Q fuel L a w:=by
 have hlen:rs.length=ops.size:=by rw[hR.len,Yaz]
 -- a record of nothing that comes up: there is one that panics
 have allgo:pn=none->∀(i:Nat) (r:Rec),rs[i]? = some r->r.kd=.go:=by
  intro hpn i;induction i using Nat.strongRecOn with
  | _ i ih =>
    intro r hr;cases hk:r.kd with
    | go=>rfl
    | pan p pw =>
      have:=hR.uniq i r p pw hr hk;rw[hR.pn0 hpn]at this;cases this
    | never =>
      obtain⟨_,_,o,p,ho,hp,hh⟩:=hR.nev i r hr hk;rcases hh with hh|⟨j,rj,hj,hrj,hkj⟩
      ·cases hh
      ·have hin:p∈prOf ops i:=by
        unfold prOf;rw[Yaq]at ho;rw[ho];exact hp
       have hlt:=hD.pre i p hin;exact absurd (ih j Zo rj hrj) hkj
 -- all are listed: the end
 have done : ∀ (L : Array Bool) (a : Act) (w : World) (ρ : Nm) (wc : World), (∀ j, j < ops.size -> L.getD j false = true) -> (∀ (i : Nat) (r : Rec), rs[i]? = some r -> r.kd ≠ .go -> L.getD i false = false) ->
   Sat D w0 X s.th ρ wc w (accAt (rs.map (·.wr)) (λj=>L.getD j false) s.bk ops.size)->TSat D ρ wc n (accAt (rs.map wT) (λj=>L.getD j false) s.tm ops.size) a->a.defers=d0->
   Evo ρ0 wc0 w00 s.bk s.c s'.c ρ wc w (accAt (rs.map (·.wr)) (λj=>L.getD j false) s.bk ops.size)->Q .normal a w:=by
  intro L a w ρ wc hall hgo hS hT hd hE;have e1:accAt (rs.map (·.wr)) (λj=>L.getD j false) s.bk ops.size=s'.bk:=by
   rw[Zlk (N:=ops.size) hall _ (Yab _),hR.bk,Yaz]
  have e2:accAt (rs.map wT) (λj=>L.getD j false) s.tm ops.size=s'.tm:=by
   rw[Zlk (N:=ops.size) hall _ (Yab _),hR.tm,Yaz]
  rw[e1]at hS hE;rw[e2]at hT;refine hK ?_ ρ wc w a hS hT hd hE;cases hpn:pn with
  | none=>rfl
  | some v =>
    exfalso
    obtain⟨pw,bR,hpr⟩:=hR.pn1 v hpn;have:∀l:List Rec,panRec l=some (v,pw,bR)->∃(i:Nat) (r:Rec),l[i]? = some r∧r.kd≠.go:=by
     intro l;induction l with
     | nil=>intro h;cases h
     | cons r l ih =>
       intro h;unfold panRec at h;split at h
       ·rename_i p pw' hk
        exact⟨0,r,Zs,by rw[hk];intro hh;cases hh⟩
       ·obtain⟨i,r',h1,h2⟩:=ih h
        exact⟨i+1,r',by simpa using h1,h2⟩
    obtain⟨i,r,h1,h2⟩:=this rs hpr;have h3:=hgo i r h1 h2;have h4:=(Yan.1 h1).1;rw[hall i Zo]at h3;cases h3
 -- nothing is ready: all are listed
 have none_:∀(L:Array Bool),L.size=ops.size->Region.ready .any ops L=[]->∀j,j<ops.size->L.getD j false=true:=by
  intro L hsz hr j;induction j using Nat.strongRecOn with
  | _ j ih =>
    intro hj;cases hL:L.getD j false with
    | true=>rfl
    | false =>
      exfalso
      have hmem:j∈Region.ready .any ops L:=by
       rw[mem_ready];refine⟨?_,ops[j],by simp[hj],?_⟩
       ·have:j<L.size:=by omega
        simp[Array.getD,this]at hL ⊢;exact hL
       ·intro e he hb
        have hin:e.on∈prOf ops j:=by
         unfold prOf;rw[Yby hj];unfold predsOf;exact Ydl.2 ⟨e,List.mem_filter.2 ⟨by simpa using he,hb⟩,rfl⟩
        have hlt:=hD.pre j _ hin;exact ih e.on hlt Zo
      rw[hr]at hmem;cases hmem
 intro fuel;induction fuel with
 | zero =>
   intro L a w ρ wc hsz hleft hcl hgo hS hT hd hE hun;have hall:=Zjz ops.size (Nat.le_zero.1 hleft);refine⟨?_,done L a w ρ wc hall hgo hS hT hd hE⟩;apply List.eq_nil_iff_forall_not_mem.2;intro j hj;obtain⟨h1,o,ho,_⟩:=mem_ready.1 hj;have hjs:=(Yeq.1 ho).1;have h2:=hall j hjs;have hjl:j<L.size:=Zo;simp[Array.getD,hjl]at h1 h2;rw[h1]at h2;cases h2
 | succ fuel ih =>
   intro L a w ρ wc hsz hleft hcl hgo hS hT hd hE hun;refine⟨λhr=>done L a w ρ wc (none_ L hsz hr) hgo hS hT hd hE,λi hi=>?_⟩;obtain⟨h1,o,ho,hpre⟩:=mem_ready.1 hi;have his:=(Yeq.1 ho).1;have hil:i<L.size:=Zo;have hLi:L.getD i false=false:=by simp[Array.getD,hil]at h1 ⊢;exact h1
   have hpr:∀p∈prOf ops i,L.getD p false=true:=by
    intro p hp;unfold prOf at hp;rw[ho]at hp;obtain⟨e,he,rfl⟩:=Ydl.1 hp;obtain⟨he1,he2⟩:=List.mem_filter.1 he;exact hpre e (by simpa using he1) he2
   have hir:i<rs.length:=Zo;obtain⟨r,hr⟩:∃r,rs[i]? = some r:=⟨rs[i],by simp[hir]⟩
   by_cases hnv:r.kd=.never
   ·exfalso
    obtain⟨_,_,o',p,ho',hp,hh⟩:=hR.nev i r hr hnv;rcases hh with hh|⟨j,rj,hj,hrj,hkj⟩
    ·cases hh
    ·have hin:p∈prOf ops i:=by
      unfold prOf;rw[Yaq]at ho';rw[ho'];exact hp
     have h3:=hpr p hin;have h4:=hgo j rj hrj hkj;rw[Yba]at hj;rw[hj,h4]at h3;cases h3
   obtain⟨o',ho',hst⟩:=hR.step i r hr hnv;have hoo:o'=o:=by
    rw[Yaq,ho]at ho';cases ho';rfl
   subst hoo;obtain⟨hdok,orc,orc',ps,b,hw,hps,hcase⟩:=hst
   -- who touches what this one touches
   have before:∀j s2,j<i->rs[j]? = some s2->conf s2 r=true->L.getD j false=true:=λj s2 hj hs2 hc=>
    Zm1 (L:=λj=>L.getD j false=true) hD.race hj hs2 hr hc hcl hpr
   have after:∀j s2,i<j->rs[j]? = some s2->conf r s2=true->L.getD j false=false:=λj s2 hj hs2 hc=>by
    cases hLj:L.getD j false with
    | false=>rfl
    | true =>
      have:=Zm1 (L:=λj=>L.getD j false=true) hD.race hj hr hs2 hc hcl (hcl j hLj);rw[hLi]at this;cases this
   have subT:Sub (some_ r.tR (accAt (rs.map wT) tt s.tm i)) (accAt (rs.map wT) (λj=>L.getD j false) s.tm ops.size):=by
    intro t x hx;rw[Zdf]at hx;split at hx
    ·rename_i ht
     have ht':t∈r.tR:=mem_iff.1 ht;rw[Zm0 hLi ?_ ?_ _ (Nat.le_of_lt his)]
     ·exact hx
     ·intro j hj hwr
      obtain⟨s2,hs2,hd2⟩:=Zeq hwr;exact before j s2 hj hs2 (Zve hd2 ht')
     ·intro j hj hwr
      obtain⟨s2,hs2,hd2⟩:=Zeq hwr;exact after j s2 hj hs2 (Zvf hd2 ht')
    ·cases hx
   have subB:Sub (some_ r.bR (accAt (rs.map (·.wr)) tt s.bk i)) (accAt (rs.map (·.wr)) (λj=>L.getD j false) s.bk ops.size):=by
    intro t x hx;rw[Zdf]at hx;split at hx
    ·rename_i ht
     have ht':t∈r.bR:=mem_iff.1 ht;rw[Zm0 hLi ?_ ?_ _ (Nat.le_of_lt his)]
     ·exact hx
     ·intro j hj hwr
      obtain⟨s2,hs2,hd2⟩:=Zer hwr;exact before j s2 hj hs2 (Zqe hd2 (.inl ht'))
     ·intro j hj hwr
      obtain⟨s2,hs2,hd2⟩:=Zer hwr;exact after j s2 hj hs2 (Zvh hd2 ht')
    ·cases hx
   have addT:∀k,(accAt (rs.map wT) (λj=>j==i || L.getD j false) s.tm ops.size).look k=(wT r++accAt (rs.map wT) (λj=>L.getD j false) s.tm ops.size).look k:=by
    intro k;rw[Zp9 hLi ?_ _ his,Zbc]
    ·rw[Yac,Ycj,hr];rfl
    ·intro j hj h1 h2
     obtain⟨s1,hs1,hd1⟩:=Zeq h1;obtain⟨s2,hs2,hd2⟩:=Zeq h2;rw[hr]at hs1;cases hs1;exact after j s2 hj hs2 (Zvg hd1 hd2)
   have addB:∀k,(accAt (rs.map (·.wr)) (λj=>j==i || L.getD j false) s.bk ops.size).look k=(r.wr++accAt (rs.map (·.wr)) (λj=>L.getD j false) s.bk ops.size).look k:=by
    intro k;rw[Zp9 hLi ?_ _ his,Zbc]
    ·rw[Yac,Ycj,hr];rfl
    ·intro j hj h1 h2
     obtain⟨s1,hs1,hd1⟩:=Zer h1;obtain⟨s2,hs2,hd2⟩:=Zer h2;rw[hr]at hs1;cases hs1;exact after j s2 hj hs2 (Zqe hd1 (.inr hd2))
   have hL':∀j,(L.setIfInBounds i true).getD j false=(j==i || L.getD j false):=by
    intro j;by_cases e:j=i
    ·subst e;simp[Array.getD,hil]
    ·have e':(j==i)=false:=by simpa using e
     rw[getD_set_ne false (λh=>e h.symm),e',Yeo]
   have hLf:(λj=>(L.setIfInBounds i true).getD j false)=λj=>j==i || L.getD j false:=funext hL'
   have hTr:TSat D ρ wc n (some_ r.tR (accAt (rs.map wT) tt s.tm i)) a:=hT.sub subT;have hwant:=Zep hTr hw (λp hp=>hq p (hps p hp));have hrng:=hR.rng i r hr;have hY:=hY0 ρ wc w _ hE
   -- what follows,once it is done
   have next:r.kd=.go->r.dst=o'.dst->∀(ρ':Nm) (wc' w':World) (v:Value),denV D ρ' wc' r.v v->Sat D w0 X s.th ρ' wc' w' (r.wr++accAt (rs.map (·.wr)) (λj=>L.getD j false) s.bk ops.size)->
     Evo ρ wc w (accAt (rs.map (·.wr)) (λj=>L.getD j false) s.bk ops.size) r.c0 r.c1 ρ' wc' w' (r.wr++accAt (rs.map (·.wr)) (λj=>L.getD j false) s.bk ops.size)->
     wpAnyIn (WF ro) m P .any ops Q fuel (L.setIfInBounds i true) (a.put o'.dst v) w':=by
    intro hkd hrd ρ' wc' w' v hv hS' hE';refine ih _ _ w' ρ' wc' (by simpa using hsz) ?_ ?_ ?_ ?_ ?_ ?_ ?_ ?_
    ·rw[hLf]
     have:=Zqc (L:=λj=>L.getD j false) hLi ops.size his;omega
    ·intro j hj p hp
     rw[hL']at hj ⊢;by_cases e:j=i
     ·subst e;rw[hpr p hp,Bool.or_true]
     ·have e':(j==i)=false:=by simpa using e
      rw[e',Yeo]at hj;rw[hcl j hj p hp,Bool.or_true]
    ·intro j rj hj hk
     rw[hL',hgo j rj hj hk,Bool.or_false];by_cases e:j=i
     ·subst e
      rw[hr]at hj;cases hj;exact absurd hkd hk
     ·simpa using e
    ·rw[hLf];exact hS'.congr addB
    ·rw[hLf]
     have h3:=(hT.mono hE'.rho hE'.ext).put hdok hv;rw[<-hrd,Zlj]at h3;rw[<-hrd];exact h3.sub λk x hk=>by rw[<-addT];exact hk
    ·rw[<-hd];cases o'.dst<;>rfl
    ·rw[hLf];exact(hE.join (hE'.widen hrng.1 hrng.2.2) hnm).congr addB
    ·intro j rj hj hLj k h1 h2
     rw[hL']at hLj;have e:j≠i:=by intro e;subst e;simp at hLj
     have e':(j==i)=false:=by simpa using e
     rw[e',Yeo]at hLj;rw[hE'.dom k ?_]
     ·exact hun j rj hj hLj k h1 h2
     ·rcases Nat.lt_or_gt_of_ne e with h|h
      ·have:=hR.ord j i rj r h hj hr;left;omega
      ·have:=hR.ord i j r rj h hr hj;right;omega
   have names:isCall o'=true->(∀k b,(accAt (rs.map (·.wr)) (λj=>L.getD j false) s.bk ops.size).look k=some b->k<s.th)∧r.c1<=s.th:=by
    intro hic;obtain⟨c1,c2⟩:=hD.call ⟨o',by rw[Array.mem_toList_iff];exact Array.mem_of_getElem? ho,hic⟩;refine⟨λk b hk=>?_,(c2 r (Ych hr)).1⟩;rcases Zqd _ hk with h|⟨j,h⟩
    ·exact c1 k b h
    ·rw[Yac,Ycj]at h
     cases hrj:rs[j]? with
     | none=>rw[hrj]at h;simp at h
     | some rj=>rw[hrj]at h;exact(c2 rj (Ych hrj)).2 k b h
   unfold wpOpIn;rw[ho];dsimp only;rw[hwant];rcases hcase with ⟨hkd,hrd,rfl,x,cl,hop,e0,e1,e2,e3,hob⟩|⟨hkd,hrd,rfl,e1,e2,e3⟩|⟨pv,pw,hkd,hdn,hwn,rfl,x,cl,hop,e0,e2,e3,hob⟩
   ·rw[if_pos rfl]
    have ef:x.fin (accAt (rs.map (·.wr)) (λj=>L.getD j false) s.bk ops.size)=r.wr++accAt (rs.map (·.wr)) (λj=>L.getD j false) s.bk ops.size:=by
     unfold OpR.fin;rw[e0,<-e2]
    have efR:x.fin (some_ r.bR (accAt (rs.map (·.wr)) tt s.bk i))=r.wr++some_ r.bR (accAt (rs.map (·.wr)) tt s.bk i):=by
     unfold OpR.fin;rw[e0,<-e2]
    refine Zmz (G:=r.wr++accAt (rs.map (·.wr)) (λj=>L.getD j false) s.bk ops.size) (th':=s.th) hcs hY hS subB (λx z hz=>hTr.get hz) hop (λp hp=>hq p (hob p hp)) (λk h1 h2=>hun i r hr hLi k h1 (by rw[<-e3];exact h2)) ?_ (λ_ ht=>⟨rfl,.inl ⟨e0,by rw[e2]⟩⟩) ?_ (λp hp=>by rw[e0]at hp;cases hp)
    ·intro hcl' _ ρ' wc' w' hS' hE'
     subst hcl';obtain⟨n1,n2⟩:=names (Zh2 hop);rw[efR]at hS' hE';exact hS.frame subB n1 hS' hE' (by rw[e3];exact n2) λk b hk=>by
      obtain⟨hk,hdd⟩:=hk;rw[Zbc]at hk;cases hwk:r.wr.look k with
      | some b' =>
        rw[hwk,Ydk]at hk;exact .inl ⟨by rw[Zbc,hwk,Ydk];exact hk,hdd⟩
      | none =>
        rw[hwk,Ydd]at hk;cases hR':(some_ r.bR (accAt (rs.map (·.wr)) tt s.bk i)).look k with
        | some b' =>
          have:=subB k b' hR';rw[hk]at this;cases this;exact .inl ⟨by rw[Zbc,hwk,Ydd];exact hR',hdd⟩
        | none=>exact .inr ⟨⟨hk,hdd⟩,rfl⟩
    ·intro _ ρ' wc' w' v hv hS' hE'
     rw[e1]at hv;rw[e3]at hE';exact next hkd hrd ρ' wc' w' v hv hS' hE'
   ·rw[if_neg Zs]
    refine⟨λ_ _=>trivial,?_⟩;refine next hkd hrd ρ wc w undef (by rw[e1];exact Zgt) (by rw[e2];exact hS) ?_;rw[e2,e3];exact Evo.refl _ _ _ _ _
   ·rw[if_pos rfl]
    have hpan:=hR.uniq i r pv pw hr hkd;have efR:x.fin (some_ r.bR (accAt (rs.map (·.wr)) tt s.bk i))=pw:=by
     unfold OpR.fin;rw[e0];exact e2
    have hsubst:Sub' (stB rs s.bk pw r.bR) (pw++(accAt (rs.map (·.wr)) (λj=>L.getD j false) s.bk ops.size).filter λq=>!mem r.bR q.1):=by
     intro k b hk;obtain⟨hk,hdd⟩:=hk;refine⟨?_,hdd⟩;unfold stB at hk;rw[Zbc]at hk ⊢;cases hwk:pw.look k with
     | some b'=>rw[hwk,Ydk]at hk;rw[Ydk];exact hk
     | none =>
       rw[hwk,Ydd]at hk;rw[Ydd];rw[Zb0 (λk=>!mem r.bR k&&rs.all λr=>!mem (keys r.wr) k)]at hk;rw[Zb0 (λk=>!mem r.bR k)];split at hk
       ·rename_i hc
        rw[Yam]at hc;rw[if_pos hc.1,Zir]
        ·exact hk
        ·intro j hwr
         obtain⟨rj,hrj,hkj⟩:=Zer hwr;have:=Ybn.1 hc.2 rj (Ych hrj);rw[mem_iff.2 hkj]at this;cases this
       ·cases hk
    refine Zmz (G:=pw++(accAt (rs.map (·.wr)) (λj=>L.getD j false) s.bk ops.size).filter λq=>!mem r.bR q.1) (th':=s.th) hcs hY hS subB (λx z hz=>hTr.get hz) hop (λp hp=>hq p (hob p hp)) (λk h1 h2=>hun i r hr hLi k h1 (by rw[<-e3];exact h2)) ?_ (λ_ ht=>⟨rfl,.inr ⟨by rw[e0];simp,λhw k b hk=>?_⟩⟩) (λhn=>by rw[e0]at hn;cases hn) ?_
    ·intro hcl' _ ρ' wc' w' hS' hE'
     subst hcl';obtain⟨n1,n2⟩:=names (Zh2 hop);rw[efR]at hS' hE';exact hS.frame subB n1 hS' hE' (by rw[e3];exact n2) λk b hk=>by
      obtain⟨hk,hdd⟩:=hk;rw[Zbc]at hk;cases hwk:pw.look k with
      | some b' =>
        rw[hwk,Ydk]at hk;exact .inl ⟨hwk.trans hk,hdd⟩
      | none =>
        rw[hwk,Ydd,Zb0 (λk=>!mem r.bR k)]at hk;split at hk
        ·rename_i hc
         refine .inr ⟨⟨hk,hdd⟩,?_⟩;rw[Zdf,if_neg];intro hm;rw[hm]at hc;cases hc
        ·cases hk
    ·rw[e2]at hw
     obtain⟨hk,hdd⟩:=hk;refine⟨?_,hdd⟩;rw[Zbc]at hk;cases hwk:pw.look k with
     | some b' =>
       first|rw[hwk,Ydk]at hk|rw[Ydk]at hk
       rw[hw]at hwk;rw[<-hk];exact subB k b' hwk
     | none =>
       first|rw[hwk,Ydd,Zb0 (λk=>!mem r.bR k)]at hk|rw[Ydd,Zb0 (λk=>!mem r.bR k)]at hk
       split at hk
       ·exact hk
       ·cases hk
    ·intro p' hp' ρ' wc' w' hS' hE'
     rw[e0]at hp';cases hp';rw[e3]at hE';refine hP pv pw r.bR hpan ρ' wc' w' a (hS'.sub' hsubst) ((hT.mono hE'.rho hE'.ext).sub λt y hy=>?_) hd ((hE.join (hE'.widen hrng.1 hrng.2.2) hnm).sub' hsubst);unfold stT at hy;rw[Zb0 (λt=>rs.all λr=>!inD r.dst [t])]at hy;split at hy
     ·rename_i hc
      rw[Zir]
      ·exact hy
      ·intro j hwr
       obtain⟨rj,hrj,hdj⟩:=Zeq hwr;have:=Ybn.1 hc rj (Ych hrj);rw[hdj]at this;simp[inD,mem]at this
     ·cases hy
end
end
section
section
variable {D:Den} {P:Program} {w0:World} {X:Nat->Prop} {th:Nat} {ρ ρ1 ρ2:Nm} {wc w wc1 w1 wc2 w2 w3:World} {bk bk1 bk2:List (Nat×Blk)} {c c1 c2:Nat}
theorem Sat.obj (h:Sat D w0 X th ρ wc w bk) {k:Nat} (hk:ρ k=none) (hkb:bk.look k=none) (o:Obj) :
  Sat D w0 X th (addNm ρ k ⟨w.heap.size,0,false,0,0⟩) wc (w.alloc o) bk∧Evo ρ wc w bk k (k+1) (addNm ρ k ⟨w.heap.size,0,false,0,0⟩) wc (w.alloc o) bk:=by
 have hle:=Zdx (B:=⟨w.heap.size,0,false,0,0⟩) hk;have hb:Below w.heap.size w (w.alloc o):=Zad (Yae _ _) _;have ne:∀{j b},Liv bk j b->j≠k:=λhj e=>by subst e;rw[hj.1]at hkb;cases hkb
 refine⟨⟨⟨h.fr.os,h.fr.tape,h.fr.output,Yak h.fr.size hb.size,λi hi hx=>(hb.block i (Yaf hi h.fr.size)).trans (h.fr.block i hi hx)⟩,
  h.ext.alloc _,?_,?_,?_⟩,⟨hle,Ext.refl _,hb.size,rfl,rfl,rfl,λi hi _=>hb.block i hi,λj b hj=>.inl ⟨b,hj⟩,Zo,λj hj=>Zax _ _ Zo⟩⟩
 ·intro j j' b b' B B' hj hj' h1 h2 he
  rw[Zax _ _ (ne hj)]at h1;rw[Zax _ _ (ne hj')]at h2;exact h.inj j j' b b' B B' hj hj' h1 h2 he
 ·intro j B h1
  by_cases e1:j=k
  ·subst e1;rw[Zbf]at h1;cases h1;simp
  ·rw[Zax _ _ e1]at h1
   exact Yaf (h.lt j B h1) hb.size
 ·intro j b hj
  obtain⟨B,cs',h1,h2,h3,h4,h5,h6⟩:=h.box j b hj;exact⟨B,cs',hle j B h1,h2.of_block (hb.block _ (h.lt j B h1)),h3.mono hle (Ext.refl _),h4,h5,h6⟩
theorem Sat.putObj (h:Sat D w0 X th ρ wc w bk) {l:Nat} {o:Obj} (hl:w.heap[l]? = some o) (ho:o.isCells=false) (h0:w0.heap.size<=l) (o':Obj):Sat D w0 X th ρ wc (w.putObj l o') bk:=by
 refine⟨⟨h.fr.os,h.fr.tape,h.fr.output,by simpa using h.fr.size,λi hi hx=>?_⟩,⟨by simpa using h.ext.size,λj ds fr hj=>?_⟩,h.inj,λk B hB=>by simpa using h.lt k B hB,λk b hk=>?_⟩
 ·rw[World.putObj_heap_other Zo]
  exact h.fr.block i hi hx
 ·have h7:=h.ext.kept j ds fr hj
  rw[World.putObj_heap_other ?_]
  ·exact h7
  ·intro e
   subst e;rw[h7]at hl;cases hl;cases ho
 ·obtain⟨B,cs',h1,h2,h3,h4,h5,h6⟩:=h.box k b hk
  refine⟨B,cs',h1,?_,h3,h4,h5,h6⟩;by_cases e:B.blk=l
  ·rcases h2 with ⟨g,hr⟩|⟨g,h00,rest,q1,q2,hb⟩
   ·refine .inl ⟨g,λj v hj=>?_⟩
    have:=hr j v hj;unfold World.cell? at this;rw[show((⟨B.blk,B.base+j,none⟩:Addr).block)=B.blk from rfl,e,hl]at this;cases o<;>first|cases this|cases ho
   ·have:=hb.blk
    rw[e,hl]at this;cases this;cases ho
  ·exact h2.of_block (World.putObj_heap_other e)
theorem Evo.putNew (h:Evo ρ wc w bk c c1 ρ1 wc1 w1 bk1) {l:Nat} (hl:w.heap.size<=l) (o:Obj):Evo ρ wc w bk c c1 ρ1 wc1 (w1.putObj l o) bk1:=
 ⟨h.rho,h.ext,by simpa using h.size,h.os,h.tape,h.output,λi hi hn=>(World.putObj_heap_other Zo).trans (h.loc i hi hn),h.ids,h.cc,h.dom⟩
theorem Evo.round {l:Nat} {o o1:Obj} (h:Evo ρ wc (w.putObj l o) bk c c1 ρ1 wc1 w1 bk1) (hl:w.heap[l]? = some o1):Evo ρ wc w bk c c1 ρ1 wc1 (w1.putObj l o1) bk1:=by
 have hlt:=Zao hl;refine⟨h.rho,h.ext,by simpa using h.size,h.os,h.tape,h.output,λi hi hn=>?_,λk b hk=>?_,h.cc,h.dom⟩
 ·by_cases e:i=l
  ·subst e
   rw[World.putObj_heap_same (by have:=h.size;rw[World.putObj_size]at this;omega),hl]
  ·rw[World.putObj_heap_other e,h.loc i (by simpa using hi) hn,World.putObj_heap_other e]
 ·have:=h.ids k b hk
  rwa [World.putObj_size]at this
end
def TH:Nat:=2 ^ 200
def preOk (ops:Array Oper):Bool:=(List.range ops.size).all λj=>(prOf ops j).all λq=>Nat.blt q j
def drawS (P:Program) (cs:CallS) (ys:YEnv) (ops:Array Oper) (n:Nat) (s:Stt):Option (Stt×List Prop×Option Value):=
 let hc:=ops.toList.any isCall
 match recS P cs ys ops n ops.toList 0 [] ⟨s.tm,s.bk,s.c,if hc then TH else s.th,s.orc,s.df⟩ with
 | some (rs, s', q, pn) => if raceB (prOf ops) rs && preOk ops && (!hc || (s.bk.all (λp => Nat.blt p.1 TH) && rs.all (λr => Nat.ble r.c1 TH && r.wr.all (λp => Nat.blt p.1 TH)) && s'.bk.all (λp => Nat.blt p.1 s'.c))) then
   (match panRec rs with
   | none=>some (⟨s'.tm,s'.bk,s'.c,if hc then s'.c else s.th,s'.orc,s.df⟩,q,none)
   | some (p,pw,bR)=>if !hc || (stB rs s.bk pw bR).all (λp=>Nat.blt p.1 s'.c) then some (⟨stT rs s.tm,stB rs s.bk pw bR,s'.c,if hc then s'.c else s.th,s'.orc,s.df⟩,q,some p) else none) else none
 | none=>none
inductive Ot where
 | norm
 | exit (id:Nat)
 | ret
 | pan (v:Value)
def Ot.ex:Ot->Exit
 | .norm=>.normal
 | .exit id=>.exit id
 | .ret=>.ret
 | .pan v=>.panic [{v:=v,recovered:=false}]
def otP:Option Value->Ot
 | none=>.norm
 | some v=>.pan v
theorem Zw5 (p:Option Value):(otP p).ex=exP p:=by cases p<;>rfl
def setPs:List Tmp->List SA->List (Nat×SV)->List (Nat×SV)
 | p::ps,x::xs,tm=>setPs ps xs ((p,.a x)::tm)
 | _,_,tm=>tm
def hndS (n:Nat) (ps:Array Tmp) (tm:List (Nat×SV)) (A B:Stt->Option (Ot×Stt×List Prop)):YS:=λargs bk c th orc=>
 if Nat.beq args.length ps.size&&ps.toList.all (λp=>Nat.blt p n) then
  match A ⟨setPs ps.toList args tm,bk,c,th,orc,[]⟩ with
  | some (.norm, s1, p) => (match B s1 with
    | some (.norm, s2, q) => (match s2.df with
      | []=>some ⟨.a (.one (.val (.bool true))),s2.bk.take (s2.bk.length-bk.length),p++q,s2.orc,s2.c,s2.th,none⟩
      | _::_=>none)
    | _=>none)
  | _=>none
 else none
def evC (P:Program) (cs:CallS) (ys:YEnv) (n:Nat):Nat->Bool->Code->Stt->Option (Ot×Stt×List Prop)
 | 0,_,_,_=>none
 | _+1,_,.skip,s=>some (.norm,s,[])
 | _+1,_,.label _,s=>some (.norm,s,[])
 | _ + 1, rd, .region _ ops draw, s => match (if draw then drawS P cs ys ops n s else seqS P cs ys rd ops n ops.toList s) with
   | some (s',q,p)=>some (otP p,s',q)
   | none=>none
 | f + 1, rd, .seq x y, s => match evC P cs ys n f rd x s with
   | some (.norm, s1, p) => (match evC P cs ys n f rd y s1 with
     | some (o,s2,q)=>some (o,s2,p++q)
     | none=>none)
   | some (.exit id,s1,p)=>some (.exit id,s1,p)
   | some (.ret,s1,p)=>some (.ret,s1,p)
   | some (.pan v,s1,p)=>some (.pan v,s1,p)
   | none=>none
 | f + 1, rd, .cond c t e, s => match getS s.tm c with
   | some (.a (.one (.val (.bool b))))=>evC P cs ys n f rd (if b then t else e) s
   | _=>none
 | f + 1, rd, .block id x, s => match evC P cs ys n f rd x s with
   | some (.exit j,s',q)=>some (if Nat.beq j id then .norm else .exit j,s',q)
   | some (.norm,s',q)=>some (.norm,s',q)
   | some (.ret,s',q)=>some (.ret,s',q)
   | some (.pan v,s',q)=>some (.pan v,s',q)
   | none=>none
 | f+1,rd,.scope x,s=>evC P cs ys n f rd x s
 | f + 1, rd, .loop x, s => match evC P cs ys n f rd x s with
   | some (.norm, s1, p) => (match evC P cs ys n f rd (.loop x) s1 with
     | some (o,s2,q)=>some (o,s2,p++q)
     | none=>none)
   | some (.exit id,s1,p)=>some (.exit id,s1,p)
   | some (.ret,s1,p)=>some (.ret,s1,p)
   | some (.pan v,s1,p)=>some (.pan v,s1,p)
   | none=>none
 | _+1,_,.exit id,s=>some (.exit id,s,[])
 | _+1,_,.ret,s=>some (.ret,s,[])
 | f + 1, false, .rangeFunc g ps assign body, s => match rngOf (getS s.tm g) with
   | some (gf, fs, caps) => if entersB P gf && s.bk.all (λp => Nat.blt p.1 s.c) then
     (match cs.call ((s.c,hndS n ps s.tm (evC P cs ys n f true assign) (evC P cs ys n f true body))::ys) gf (fs++(.one (.yld s.c)::capsA caps)) s.bk (s.c+2) (tmin s.th (s.c+2)) s.orc with
     | some r => (match r.pan with
       | none=>some (.norm,⟨s.tm,r.wr++s.bk,r.c,r.th,r.orc,.col (s.c+1)::s.df⟩,r.obl)
       | some p=>some (.pan p,⟨s.tm,r.wr,r.c,r.th,r.orc,.col (s.c+1)::s.df⟩,r.obl))
     | none=>none) else none
   | _=>none
 | _,_,_,_=>none
end
section
section
variable {F:Fence} {m:Nat} {P:Program} {b:Frame} {a:Act} {k:List Item} {cs:List Frame} {w:World} {Q:Exit->Act->World->Prop}
theorem Zb9 {c:Code}:step P (lone (b.atR a (.code (.scope c)::k)) cs w)=.next (lone (b.atR a (.code c::.inScope c::k)) cs w):=
 step_lone_go (by simp[stepG,stepG.exec,Frame.atR])
theorem Zis {c:Code}:step P (lone (b.atR a (.inScope c::k)) cs w)=.next (lone (b.atR a k) cs w):=
 step_lone_go (by simp[stepG,stepG.exec,Frame.atR])
theorem Zn0 {c:Code} (h:c.wpIn F m P (Exit.noGoto Q) a w):(Code.scope c).wpIn F m P Q a w:=by
 intro b k cs hro hb hr;have h0:(lone (b.atR a (.code (.scope c)::k)) cs w).fenced P F:=fenced_calm hb hr rfl;obtain⟨e,a₁,w₁,hq,harr⟩:=h b (.inScope c::k) cs hro hb hr;have hx:∀id,exitTo id (.inScope c::k)=exitTo id k:=λid=>by simp[exitTo]
 cases e with
 | normal=>exact⟨.normal,a₁,w₁,hq,.head h0 Zb9 (StepsIn.trans harr (.one (fenced_calm hb hr rfl) Zis))⟩
 | exit id =>
   exact⟨.exit id,a₁,w₁,hq,λk' hk=>.head h0 Zb9 (harr.1 k' (by rw[hx];exact hk)),
    λhr' hk=>let ⟨k₁,h1,h2⟩:=harr.2 hr' (by rw[hx];exact hk);⟨k₁,h1,.head h0 Zb9 h2⟩⟩
 | goto l=>exact hq.elim
 | ret=>exact⟨_,a₁,w₁,hq,.of_steps (.one h0 Zb9) harr⟩
 | panic ch=>exact⟨_,a₁,w₁,hq,.of_steps (.one h0 Zb9) harr⟩
 | outgrown=>exact⟨_,a₁,w₁,hq,.of_steps (.one h0 Zb9) harr⟩
end
def Pre (o:Ot) (s s':Stt):Prop:=s.c<=s'.c∧((∀v,o≠.pan v)->∃l,s'.bk=l++s.bk)
theorem Pre.refl (o:Ot) (s:Stt):Pre o s s:=⟨Yab _,λ_=>⟨[],rfl⟩⟩
theorem Pre.trans {o o':Ot} {a b c:Stt} (h:Pre o a b) (ho:∀v,o≠.pan v) (g:Pre o' b c):Pre o' a c:=by
 obtain⟨h1,hl⟩:=h;obtain⟨g1,hm⟩:=g;refine⟨Yak h1 g1,λhh=>?_⟩;obtain⟨l,hl⟩:=hl ho;obtain⟨m,hm⟩:=hm hh;exact⟨m++l,by rw[hm,hl,Ybx]⟩
section
variable {D:Den} {P:Program} {w0:World} {X:Nat->Prop} {cs:CallS} {ys:YEnv} {n:Nat}
theorem Zf7 {rd:Bool} {ops:Array Oper}:∀{l:List Oper} {s s':Stt} {q:List Prop} {p:Option Value},seqS P cs ys rd ops n l s=some (s',q,p)->Pre (otP p) s s'
 | [],s,s',q,p,h=>by cases h;exact .refl _ _
 | o :: rest, s, s', q, p, h => by
   have hcc:=Zgs h;refine⟨hcc,?_⟩;unfold seqS at h;split at h
   ·split at h
    ·split at h
     ·split at h
      ·cases h
      ·split at h
       ·rename_i s2 q2 p2 h2
        cases h;have k:=(Zf7 h2).2;exact k
       ·cases h
     ·split at h
      ·rename_i r cl hr
       split at h
       ·cases h
        exact λhh=>absurd rfl (hh _)
       ·split at h
        ·rename_i s2 q2 p2 h2
         cases h;intro hh;obtain⟨l,hl⟩:=(Zf7 h2).2 hh;exact⟨l++r.wr,by rw[hl,Ybx]⟩
        ·cases h
      ·cases h
    ·cases h
   ·split at h
    ·split at h
     ·rename_i s2 q2 p2 h2
      cases h;have k:=(Zf7 h2).2;exact k
     ·cases h
    ·cases h
   ·cases h
theorem Zj0 {α:Type} (ws:List (List (Nat×α))) (L:Nat->Bool) (l0:List (Nat×α)):∀m,∃l,accAt ws L l0 m=l++l0
 | 0=>⟨[],rfl⟩
 | m + 1 => by
   obtain⟨l,hl⟩:=Zj0 ws L l0 m;exact⟨(if L m then ws.getD m [] else[])++l,by show _++accAt ws L l0 m=_;rw[hl,Ybx]⟩
theorem Zqf {ops:Array Oper} {s s':Stt} {q:List Prop} {p:Option Value} (h:drawS P cs ys ops n s=some (s',q,p)):Pre (otP p) s s':=by
 unfold drawS at h;dsimp only at h;split at h
 ·rename_i rs s2 q2 pn h2
  split at h
  ·have k:=Zff h2
   split at h
   ·cases h
    obtain⟨l,hl⟩:=Zj0 (rs.map (·.wr)) tt s.bk ops.toList.length;exact⟨k.cc,λ_=>⟨l,by rw[<-hl];exact k.bk⟩⟩
   ·split at h
    ·cases h
     exact⟨k.cc,λhh=>absurd rfl (hh _)⟩
    ·cases h
  ·cases h
 ·cases h
theorem Zcf:∀{f:Nat} {rd:Bool} {c:Code} {s s':Stt} {o:Ot} {q:List Prop},(∀ys f args bk c th orc r,cs.call ys f args bk c th orc=some r->c<=r.c)->evC P cs ys n f rd c s=some (o,s',q)->Pre o s s':=by
 intro f rd c s s' o q hcs;induction f generalizing rd c s s' o q with
 | zero=>intro h;cases c<;>cases rd<;>simp[evC]at h
 | succ f ih =>
   intro h;cases c with
   | skip=>simp only[evC,Ybp,Yco]at h;obtain⟨_,rfl,_⟩:=h;exact .refl _ _
   | label l=>simp only[evC,Ybp,Yco]at h;obtain⟨_,rfl,_⟩:=h;exact .refl _ _
   | exit id=>simp only[evC,Ybp,Yco]at h;obtain⟨_,rfl,_⟩:=h;exact .refl _ _
   | ret=>simp only[evC,Ybp,Yco]at h;obtain⟨_,rfl,_⟩:=h;exact .refl _ _
   | region id ops draw =>
     simp only[evC]at h;split at h
     ·rename_i s2 q2 p2 h2
      cases h;split at h2
      ·exact Zqf h2
      ·exact Zf7 h2
     ·cases h
   | seq x y =>
     simp only[evC]at h;split at h
     ·rename_i s1 p h1
      split at h
      ·rename_i o2 s2 q2 h2
       cases h;exact(ih h1).trans (λv=>Zs) (ih h2)
      ·cases h
     ·rename_i h1;cases h;exact ih h1
     ·rename_i h1;cases h;exact ih h1
     ·rename_i h1;cases h;exact ih h1
     ·cases h
   | cond c t e =>
     simp only[evC]at h;split at h
     ·exact ih h
     ·cases h
   | block id x =>
     simp only[evC]at h;split at h
     ·rename_i h1;cases h
      have:=ih h1;exact⟨this.1,λ_=>this.2 (λv=>Zs)⟩
     ·rename_i h1;cases h;exact ih h1
     ·rename_i h1;cases h;exact ih h1
     ·rename_i h1;cases h;exact ih h1
     ·cases h
   | scope x=>simp only[evC]at h;exact ih h
   | loop x =>
     simp only[evC]at h;split at h
     ·rename_i s1 p h1
      split at h
      ·rename_i o2 s2 q2 h2
       cases h;exact(ih h1).trans (λv=>Zs) (ih h2)
      ·cases h
     ·rename_i h1;cases h;exact ih h1
     ·rename_i h1;cases h;exact ih h1
     ·rename_i h1;cases h;exact ih h1
     ·cases h
   | rangeFunc g ps assign body =>
     cases rd with
     | true=>simp[evC]at h
     | false =>
       simp only[evC]at h;split at h
       ·split at h
        ·split at h
         ·rename_i r hr
          have:=hcs _ _ _ _ _ _ _ _ hr;split at h
          ·cases h
           exact⟨by dsimp only;omega,λ_=>⟨r.wr,rfl⟩⟩
          ·cases h
           exact⟨by dsimp only;omega,λhh=>absurd rfl (hh _)⟩
         ·cases h
        ·cases h
       ·cases h
   | goto=>cases rd<;>simp[evC]at h
   | refuse=>cases rd<;>simp[evC]at h
theorem Ztc (hcs:CallOk D P w0 X cs) {bd mm:Nat} (hm:P.follows .mixedOrders=true) {ro:Option Nat} {m:Nat} {ops:Array Oper} {s s':Stt} {q:List Prop} {pn:Option Value} (h:drawS P cs ys ops n s=some (s',q,pn)) (hq:∀p∈q,p) {ρ:Nm} {wc w:World} {a:Act}
  (hS:Sat D w0 X s.th ρ wc w s.bk) (hY:YOk D P w0 X bd ys ρ wc w) (hT:TSat D ρ wc n s.tm a) (hDf:DfOk P mm ρ w s.df a.defers) (hn:∀k,s.c<=k->k<s'.c->ρ k=none) {Q:Exit->Act->World->Prop}
  (hK:Goes D P w0 X mm n ρ wc w s s' (Q (exP pn))) (id:Nat):(Code.region id ops true).wpIn (WF ro) m P Q a w:=by
 unfold drawS at h;dsimp only at h;split at h
 ·rename_i rs s2 q2 pn2 h2
  split at h
  ·rename_i hc
   simp only[Yam,Ybo,Ydz]at hc;obtain⟨⟨hrace,hpre⟩,hcall⟩:=hc;have hR:=Zff h2;have hlen:rs.length=ops.size:=by rw[hR.len,Yaz]
   have hD:DrawOk ops ⟨s.tm,s.bk,s.c,if ops.toList.any isCall then TH else s.th,s.orc,s.df⟩ rs s2:=by
    refine⟨hrace,λj p hp=>?_,λ⟨o,ho,hoc⟩=>?_⟩
    ·by_cases hj:j<ops.size
     ·have h1:=Ybn.1 hpre j (Yeu.2 hj)
      have h2:=Ybn.1 h1 p hp;exact Nat.blt_eq▸h2
     ·unfold prOf at hp
      rw[Yfj Zo]at hp;cases hp
    ·have hany:ops.toList.any isCall=true:=Yft.2 ⟨o,ho,hoc⟩
     rcases hcall with h|h
     ·rw[hany]at h;cases h
     ·obtain⟨⟨c1,c2⟩,c3⟩:=h
      rw[hany];simp only[if_true];refine⟨Zc1 c1,λr hr=>?_⟩;have h3:=Ybn.1 c2 r hr;rw[Yam]at h3;exact⟨Yaa h3.1,Zc1 h3.2⟩
   have hS1:Sat D w0 X (if ops.toList.any isCall then TH else s.th) ρ wc w.drew s.bk:=by
    cases hany:ops.toList.any isCall with
    | false=>exact hS.drew
    | true =>
      rcases hcall with h|h
      ·rw[hany]at h;cases h
      ·exact hS.drew.reth (Zc1 h.1.1)
   have hacc:∀{α:Type} (ws:List (List (Nat×α))) (l0:List (Nat×α)) (m:Nat),accAt ws (λj=>(Array.replicate ops.size false).getD j false) l0 m=l0:=by
    intro α ws l0 m;induction m with
    | zero=>rfl
    | succ m ih =>
      show(if _ then _ else _)++accAt ws _ l0 m=l0;rw[ih,if_neg]
      ·rfl
      ·by_cases hm:m<ops.size<;>simp[Array.getD,hm]
   obtain⟨hcc,hqq⟩:s2.c=s'.c∧q2=q:=by
    split at h
    ·cases h;exact⟨rfl,rfl⟩
    ·split at h
     ·cases h;exact⟨rfl,rfl⟩
     ·cases h
   rw[<-hqq]at hq;have hdw:Evo ρ wc w s.bk s.c s2.c ρ wc w.drew s.bk:=(Evo.drew ρ wc w s.bk s.c).widen (Yab _) hR.cc;refine wpIn_region_any hm ?_;refine Ztb (n:=n) hcs hR hD hq (ρ0:=ρ) (wc0:=wc) (w00:=w) (d0:=a.defers) hS.named (λρ' wc' w' bk' e=>hY.evo hS e) ?_ ?_ ops.size _ a _ ρ wc Zs ?_ ?_ ?_ ?_ ?_ rfl ?_ ?_
   ·intro hpn ρ' wc' w' a' k1 k2 k3 k4
    have hpr:=hR.pn0 hpn;rw[hpr]at h;cases h;refine hK ρ' wc' w' a' ?_ k2 (by rw[k3];exact hDf.evo hS k4) k4;cases hany:ops.toList.any isCall with
    | false=>simpa[hany]using k1
    | true =>
      rcases hcall with h|h
      ·rw[hany]at h;cases h
      ·exact k1.reth (Zc1 h.2)
   ·intro p pw bR hpr ρ' wc' w' a' k1 k2 k3 k4
    rw[hpr]at h;dsimp only at h;split at h
    ·rename_i hall
     cases h;refine hK ρ' wc' w' a' ?_ k2 (by rw[k3];exact hDf.evo hS k4) k4;rw[Ybo]at hall;cases hany:ops.toList.any isCall with
     | false=>simpa[hany]using k1
     | true =>
       rcases hall with h|h
       ·rw[hany]at h;cases h
       ·exact k1.reth (Zc1 h)
    ·cases h
   ·have:∀m,left (λj=>(Array.replicate ops.size false).getD j false) m<=m:=by
     intro m;induction m with
     | zero=>exact Yab _
     | succ m ih=>unfold left;split<;>omega
    exact this _
   ·intro j hj
    by_cases hm:j<ops.size<;>simp[Array.getD,hm]at hj
   ·intro i r _ _
    by_cases hm:i<ops.size<;>simp[Array.getD,hm]
   ·rw[hacc];exact hS1
   ·rw[hacc];exact hT
   ·rw[hacc];exact hdw
   ·intro i r hr _ k h1 h2
    have h3:=hR.rng i r hr;exact hn k (by dsimp only at h3;omega) (by dsimp only at h3 ⊢;omega)
  ·cases h
 ·cases h
end
end
end Go.Ex
