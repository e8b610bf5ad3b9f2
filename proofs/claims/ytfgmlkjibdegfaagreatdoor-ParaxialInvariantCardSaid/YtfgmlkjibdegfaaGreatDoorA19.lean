/- Contracts of package paraxial,and a verified evaluator. Part 19 of 28. No condition beside the row. -/
import Derived.Test.YtfgmlkjibdegfaaGreatDoorA05
import Derived.Test.YtfgmlkjibdegfaaGreatDoorA13
import Derived.Test.YtfgmlkjibdegfaaGreatDoorA17
import Derived.Test.YtfgmlkjibdegfaaGreatDoorA18
set_option linter.unusedVariables false
set_option linter.unusedSimpArgs false
set_option maxRecDepth 100000
set_option maxHeartbeats 4000000
namespace Go.Ex
open Go.RowKit Go.Mono
theorem Sat.congr {D:Den} {w0:World} {X:Nat->Prop} {th:Nat} {ρ:Nm} {wc w:World} {bk bk':List (Nat×Blk)} (h:Sat D w0 X th ρ wc w bk) (he:∀k,bk'.look k=bk.look k):Sat D w0 X th ρ wc w bk':=
 h.sub λk b hk=>by rw[<-he];exact hk
theorem TSat.sub {D:Den} {ρ:Nm} {w:World} {n:Nat} {tm tm':List (Nat×SV)} {a:Act} (h:TSat D ρ w n tm a) (hs:Sub tm' tm):TSat D ρ w n tm' a:=⟨h.size,λt x hl=>h.at_ t x (hs t x hl)⟩
theorem Evo.congr {ρ ρ':Nm} {wc w wc' w':World} {bk b1 b2:List (Nat×Blk)} {c c':Nat} (h:Evo ρ wc w bk c c' ρ' wc' w' b1) (he:∀k,b2.look k=b1.look k):Evo ρ wc w bk c c' ρ' wc' w' b2:=
 h.sub λk b hk=>by rw[<-he];exact hk
theorem Evo.widen {ρ ρ':Nm} {wc w wc' w':World} {bk b1:List (Nat×Blk)} {c c' d d':Nat} (h:Evo ρ wc w bk c c' ρ' wc' w' b1) (h1:d<=c) (h2:c'<=d'):Evo ρ wc w bk d d' ρ' wc' w' b1:=
 ⟨h.rho,h.ext,h.size,h.os,h.tape,h.output,h.loc,λk b hk=>(h.ids k b hk).imp id λ⟨k1,k2,hh⟩=>⟨Zo,Zo,hh⟩,by have:=h.cc;omega,λk hk=>h.dom k Zo⟩
theorem Evo.join {ρ ρ1 ρ2:Nm} {wc w wc1 w1 wc2 w2:World} {bk bk1 bk2:List (Nat×Blk)} {c d:Nat}
  (h:Evo ρ wc w bk c d ρ1 wc1 w1 bk1) (g:Evo ρ1 wc1 w1 bk1 c d ρ2 wc2 w2 bk2) (hlt:∀k b,Liv bk k b->∃B,ρ k=some B):Evo ρ wc w bk c d ρ2 wc2 w2 bk2 where
 rho:=h.rho.trans g.rho
 ext:=h.ext.trans g.ext
 size:=Yak h.size g.size
 os:=g.os.trans h.os
 tape:=g.tape.trans h.tape
 output:=g.output.trans h.output
 loc:=λi hi hn=>by
  rw[g.loc i (Yaf hi h.size) ?_,h.loc i hi hn];intro k b C hk he hro;rcases h.ids k b hk with ⟨b',hb'⟩|⟨_,_,B,hB,hle⟩
  ·obtain⟨B,hB⟩:=hlt k b' hb'
   have:=h.rho k B hB;rw[he]at this;cases this;exact hn k b' C hb' hB hro
  ·rw[he]at hB
   cases hB;rcases hle with hle|⟨k0,b0,B0,h1,h2,h3,h4⟩
   ·omega
   ·rw[<-h4];exact hn k0 b0 B0 h1 h2 h3
 ids:=λk b hk=>by
  rcases g.ids k b hk with ⟨b',hb'⟩|⟨k1,k2,B,hB,hle⟩
  ·rcases h.ids k b' hb' with h2|⟨k1,k2,B,hB,hle⟩
   ·exact .inl h2
   ·exact .inr ⟨k1,k2,B,g.rho k B hB,hle⟩
  ·refine .inr ⟨k1,k2,B,hB,?_⟩
   rcases hle with hle|⟨k0,b0,B0,h1,h2,h3,h4⟩
   ·exact .inl (Yak h.size hle)
   ·rcases h.ids k0 b0 h1 with ⟨b',hb'⟩|⟨_,_,B1,hB1,hle⟩
    ·obtain⟨B1,hB1⟩:=hlt k0 b' hb'
     have:=h.rho k0 B1 hB1;rw[h2]at this;cases this;exact .inr ⟨k0,b',B0,hb',hB1,h3,h4⟩
    ·rw[h2]at hB1
     cases hB1;rw[<-h4];exact hle
 cc:=h.cc
 dom:=λk hk=>(g.dom k hk).trans (h.dom k hk)
theorem Zb0 {α:Type} (f:Nat->Bool) (k:Nat):∀l:List (Nat×α),(l.filter λq=>f q.1).look k=if f k=true then l.look k else none
 | []=>Zs
 | (k', x) :: r => by
   have ih:=Zb0 f k r;rw[List.filter_cons];dsimp only;by_cases h:f k'=true
   ·rw[if_pos h,Zaz,Zaz,ih]
    by_cases e:k=k'
    ·subst e;rw[if_pos rfl,if_pos rfl,if_pos h]
    ·rw[if_neg e,if_neg e]
   ·rw[if_neg h,ih,Zaz]
    by_cases e:k=k'
    ·subst e;rw[if_neg h,if_neg h]
    ·rw[if_neg e]
def left (L:Nat->Bool):Nat->Nat
 | 0=>0
 | m+1=>(if L m then 0 else 1)+left L m
theorem Zqb (L:Nat->Bool) (i:Nat):∀m,left (λj=>j==i || L j) m<=left L m
 | 0=>Yab _
 | m + 1 => by
   have:=Zqb L i m;unfold left;cases hL:L m<;>cases he:(m==i)<;>simp only[hL,he,Bool.or_true,Bool.or_false,Bool.true_or,Yeo,if_true,Ybq,if_false]<;>omega
theorem Zqc {L:Nat->Bool} {i:Nat} (hi:L i=false):∀m,i<m->left (λj=>j==i || L j) m<left L m
 | 0,h=>Zo
 | m + 1, h => by
   unfold left;by_cases e:i=m
   ·subst e
    have:=Zqb L i i;simp only[hi,BEq.rfl,Bool.true_or,if_true,Ybq,if_false];omega
   ·have:=Zqc hi m Zo
    have e':(m==i)=false:=by simp;omega
    simp only[e',Yeo];omega
theorem Zjz {L:Nat->Bool}:∀m,left L m=0->∀j,j<m->L j=true
 | 0,_,j,hj=>Zo
 | m + 1, h, j, hj => by
   unfold left at h;by_cases e:j=m
   ·subst e
    cases hL:L j with
    | true=>rfl
    | false=>rw[hL]at h;simp at h;
   ·exact Zjz m Zo j Zo
theorem Zqd {α:Type} {ws:List (List (Nat×α))} {l0:List (Nat×α)} {L:Nat->Bool} {k:Nat} {b:α}:∀N,(accAt ws L l0 N).look k=some b->l0.look k=some b∨∃j,((ws.getD j []).look k)=some b
 | 0,h=>.inl h
 | N + 1, h => by
   rw[Zb3]at h;split at h
   ·exact .inr ⟨N,h⟩
   ·exact Zqd N h
theorem Zlk {α:Type} {ws:List (List (Nat×α))} {l0:List (Nat×α)} {L:Nat->Bool} {N:Nat} (h:∀j,j<N->L j=true):∀m,m<=N->accAt ws L l0 m=accAt ws tt l0 m
 | 0,_=>rfl
 | m + 1, hm => by
   show(if L m then _ else _)++accAt ws L l0 m=(if tt m then _ else _)++accAt ws tt l0 m;rw[Zlk h m Zo,h m Zo];rfl
theorem Zeq {rs:List Rec} {i t:Nat} (h:wrote (rs.map wT) i t):∃r,rs[i]? = some r∧r.dst=some t:=by
 unfold wrote at h;rw[Yac,Ycj]at h;cases hr:rs[i]? with
 | none=>rw[hr]at h;simp at h
 | some r =>
   rw[hr]at h;simp only[Yfx,Option.getD_some]at h;unfold wT at h;cases hd:r.dst with
   | none=>rw[hd]at h;simp at h
   | some d =>
     rw[hd]at h;dsimp only at h;rw[Zaz]at h;split at h
     ·rename_i e;subst e;exact⟨r,rfl,hd⟩
     ·simp at h
theorem Zer {rs:List Rec} {i k:Nat} (h:wrote (rs.map (·.wr)) i k):∃r,rs[i]? = some r∧k∈keys r.wr:=by
 unfold wrote at h;rw[Yac,Ycj]at h;cases hr:rs[i]? with
 | none=>rw[hr]at h;simp at h
 | some r =>
   rw[hr]at h;obtain⟨b,hb⟩:=Yct.1 h;exact⟨r,rfl,Zm2 hb⟩
theorem Zve {r s:Rec} {t:Nat} (h1:r.dst=some t) (h2:t∈s.tR):conf r s=true:=by
 unfold conf;rw[show inD r.dst s.tR=true from by rw[h1];exact mem_iff.2 h2];simp
theorem Zvf {r s:Rec} {t:Nat} (h1:s.dst=some t) (h2:t∈r.tR):conf r s=true:=by
 unfold conf;rw[show inD s.dst r.tR=true from by rw[h1];exact mem_iff.2 h2];simp
theorem Zvg {r s:Rec} {t:Nat} (h1:r.dst=some t) (h2:s.dst=some t):conf r s=true:=by
 unfold conf;rw[show inD r.dst s.dst.toList=true from by rw[h1,h2];exact mem_iff.2 Zs];simp
theorem Zqe {r s:Rec} {k:Nat} (h1:k∈keys r.wr) (h2:k∈s.bR∨k∈keys s.wr):conf r s=true:=by
 unfold conf;rw[show(keys r.wr).any (λk=>mem s.bR k || mem (keys s.wr) k)=true from Yft.2 ⟨k,h1,by
  rw[Ybo,mem_iff,mem_iff];exact h2⟩]
 simp
theorem Zvh {r s:Rec} {k:Nat} (h1:k∈keys s.wr) (h2:k∈r.bR):conf r s=true:=by
 unfold conf;rw[show(keys s.wr).any (λk=>mem r.bR k)=true from Yft.2 ⟨k,h1,mem_iff.2 h2⟩];simp
end Go.Ex
namespace Go.Mono
open Go.RowKit
instance (m z:Int):Decidable (In m z):=inferInstanceAs (Decidable (_∧_))
instance (z:Int):Decidable (isLetter z):=inferInstanceAs (Decidable (_∨_))
instance (s:ByteArray):Decidable (NameOk s):=inferInstanceAs (Decidable (_∧_∧_))
structure Lns where
 nm:ByteArray
 di:Int
 pu:Int
 st:Int
 pr:Int
 nf:Nat
 X:Nat->Int
 Y:Nat->Int
 nw:Nat
 L:Nat->Int
 W:Nat->Int
 ns:Nat
 S:Nat->Srf
 ix:Nat->Nat->Int
structure Plc where
 pf:Option Addr
 cf:Nat
 pw:Option Addr
 cw:Nat
 ps:Option Addr
 cs:Nat
 pc:Option Addr
 cc:Nat
 cp:Nat->Option Addr
 cl:Nat->Nat
 pi:Option Addr
 ci:Nat
 pI:Nat->Option Addr
 cI:Nat->Nat
def Lns.lvals (a:Lns) (q:Plc):Array Value:=
 #[.string a.nm,.int .i64 a.di,.int .i64 a.pu,.int .i64 a.st,.int .i64 a.pr,.slice q.pf a.nf q.cf,.slice q.pw a.nw q.cw,.slice q.ps a.ns q.cs,.slice q.pc 0 q.cc]
def Lns.ovals (a:Lns) (q:Plc):Array Value:=
 #[.string a.nm,.int .i64 a.di,.int .i64 a.pu,.int .i64 a.st,.int .i64 a.pr,.slice q.pf a.nf q.cf,.slice q.pw a.nw q.cw,.slice q.ps a.ns q.cs,.slice q.pc 0 q.cc,.slice q.pi a.ns q.ci]
structure LnsAt (w:World) (a:Lns) (q:Plc):Prop where
 fields:RdC w q.pf a.nf q.cf 2 (λi j=>if j=0 then .int .i64 (a.X i) else .int .i64 (a.Y i))
 waves:RdC w q.pw a.nw q.cw 2 (λi j=>if j=0 then .int .i64 (a.L i) else .int .i64 (a.W i))
 surfs:RdC w q.ps a.ns q.cs 22 (λi j=>((a.S i).cs (q.cp i) (q.cl i)).getD j undef)
 coat:∀i,i<a.ns->CoatAt w (q.cp i) (q.cl i) (a.S i).co
theorem LnsAt.below {w w':World} {a:Lns} {q:Plc} (h:LnsAt w a q) (hB:Below w.heap.size w w'):LnsAt w' a q:=⟨h.fields.below hB,h.waves.below hB,h.surfs.below hB,λi hi=>(h.coat i hi).below hB⟩
structure OptAt (w:World) (a:Lns) (q:Plc):Prop extends LnsAt w a q where
 index:RdC w q.pi a.ns q.ci 1 (λi _=>.slice (q.pI i) a.nw (q.cI i))
 row:∀i,i<a.ns->RdF w (q.pI i) a.nw (q.cI i) (a.ix i)
theorem OptAt.below {w w':World} {a:Lns} {q:Plc} (h:OptAt w a q) (hB:Below w.heap.size w w'):OptAt w' a q:=⟨h.toLnsAt.below hB,h.index.below hB,λi hi=>(h.row i hi).below hB⟩
structure Lns.ok (a:Lns):Prop where
 name:NameOk a.nm
 di:0<=a.di∧a.di<=1000000000
 pu:1<=a.pu∧a.pu<=1000000000
 nf:1<=a.nf∧a.nf<=5
 fr:∀i,i<a.nf->In (if a.di=0 then 1000000 else 1000000000) (a.X i)∧In (if a.di=0 then 1000000 else 1000000000) (a.Y i)
 fd:∀i k,k<i->i<a.nf->¬(a.X i=a.X k∧a.Y i=a.Y k)
 nw:1<=a.nw∧a.nw<=5
 pr:0<=a.pr∧a.pr<=a.nw-1
 wl:∀i,i<a.nw->300000<=a.L i∧a.L i<=2500000
 wm:∀i,i+1<a.nw->a.L i<a.L (i+1)
 ww:∀i,i<a.nw->1<=a.W i∧a.W i<=100
 ns:2<=a.ns∧a.ns<=16
 st:0<=a.st∧a.st<=a.ns-2
 sok:∀i,i<a.ns->(a.S i).ok
 image:(a.S (a.ns-1)).kind=1∧(a.S (a.ns-1)).glass = {data:=#[]}∧(a.S (a.ns-1)).thick=0∧(a.S (a.ns-1)).order=0∧(a.S (a.ns-1)).co=[]
 stop:(a.S a.st.toNat).kind≠3
def Lns.through (a:Lns) (i:Nat):Prop:=(a.S i).glass=mirror∨(a.S i).kind=3∨(a.S i).kind=4∨i+1=a.ns
def Lns.ahead (a:Lns) (i j:Nat):Int:=if i=0 then 10000000 else a.ix (i-1) j
structure Lns.opt (a:Lns):Prop where
 base:Lns.ok a
 ir:∀i j,i<a.ns->j<a.nw->10000000<=a.ix i j∧a.ix i j<=40000000
 it:∀i j,i<a.ns->a.through i->j<a.nw->a.ix i j=a.ahead i j
 ia:∀i j,i<a.ns->¬a.through i->(a.S i).glass = {data:=#[]}->j<a.nw->a.ix i j=10000000
end Go.Mono
namespace Go.Ex
open Go.RowKit Go.Mono
section
def isCall (o:Oper):Bool:=
 match o.op with
 | .call c => match c.callee with
   | .value _=>true
   | _=>false
 | _=>false
theorem Zh2 {P:Program} {cs:CallS} {ys:YEnv} {o:Oper} {get:Operand->Option SV} {bk:List (Nat×Blk)} {th c:Nat} {orc:List (Option Bool)} {r:OpR} (he:opS P cs ys o get bk th c orc=some (r,true)):isCall o=true:=by
 unfold opS at he;split at he
 ·cases he
 ·split at he
  ·cases he
  split at he
  ·rename_i f args hc
   unfold callOf at hc;unfold isCall;split at hc
   ·rename_i c ho
    split at hc
    ·rename_i fv hcc
     rw[ho];dsimp only;rw[hcc]
    ·cases hc
   ·cases hc
  ·split at he
   ·rename_i k args hc
    unfold yldOf at hc;unfold isCall;split at hc
    ·rename_i c ho
     split at hc
     ·rename_i fv hcc
      rw[ho];dsimp only;rw[hcc]
     ·cases hc
    ·cases hc
   ·split at he
    ·cases he
    ·split at he
     ·cases he
     split at he
     ·cases he
     ·split at he
      ·split at he
       ·cases he
       ·cases he
      ·cases he
def stB (rs:List Rec) (bk pw:List (Nat×Blk)) (bR:List Nat):List (Nat×Blk):=pw++bk.filter λq=>!mem bR q.1&&rs.all λr=>!mem (keys r.wr) q.1
def stT (rs:List Rec) (tm:List (Nat×SV)):List (Nat×SV):=tm.filter λq=>rs.all λr=>!inD r.dst [q.1]
theorem Zir {α:Type} {ws:List (List (Nat×α))} {l0:List (Nat×α)} {L:Nat->Bool} {k:Nat} (h:∀j,¬wrote ws j k):∀N,(accAt ws L l0 N).look k=l0.look k
 | 0=>rfl
 | N+1=>by rw[Zb3,if_neg (λhh=>h N hh.2),Zir h N]
structure DrawOk (ops:Array Oper) (s:Stt) (rs:List Rec) (s':Stt):Prop where
 race:raceB (prOf ops) rs=true
 pre:∀j,∀q∈prOf ops j,q<j
 call:(∃o∈ops.toList,isCall o=true)->(∀k b,s.bk.look k=some b->k<s.th)∧(∀r∈rs,r.c1<=s.th∧∀k b,r.wr.look k=some b->k<s.th)
section
variable {D:Den} {P:Program} {w0:World} {X:Nat->Prop} {cs:CallS} {ys:YEnv}
theorem Ztb (hcs:CallOk D P w0 X cs) {bd:Nat} {ro:Option Nat} {m:Nat} {ops:Array Oper} {n:Nat} {s s':Stt} {rs:List Rec} {q:List Prop} {pn:Option Value} (hR:RecOk P cs ys ops n ops.toList 0 [] s rs s' q pn) (hD:DrawOk ops s rs s') (hq:∀p∈q,p)
  {Q:Exit->Act->World->Prop} {ρ0:Nm} {wc0 w00:World} {d0:List Deferred} (hnm:∀k b,Liv s.bk k b->∃B,ρ0 k=some B) (hY0:∀ρ' wc' w' bk',Evo ρ0 wc0 w00 s.bk s.c s'.c ρ' wc' w' bk'->YOk D P w0 X bd ys ρ' wc' w')
  (hK:pn=none->∀ρ' wc' w' a',Sat D w0 X s.th ρ' wc' w' s'.bk->TSat D ρ' wc' n s'.tm a'->a'.defers=d0->Evo ρ0 wc0 w00 s.bk s.c s'.c ρ' wc' w' s'.bk->Q .normal a' w')
  (hP:∀p pw bR,panRec rs=some (p,pw,bR)->∀ρ' wc' w' a',Sat D w0 X s.th ρ' wc' w' (stB rs s.bk pw bR)->TSat D ρ' wc' n (stT rs s.tm) a'->a'.defers=d0->Evo ρ0 wc0 w00 s.bk s.c s'.c ρ' wc' w' (stB rs s.bk pw bR)->Q (.panic [{v:=p,recovered:=false}]) a' w') :
  ∀(fuel:Nat) (L:Array Bool) (a:Act) (w:World) (ρ:Nm) (wc:World),L.size=ops.size->left (λj=>L.getD j false) ops.size<=fuel->
    (∀j,L.getD j false=true->∀p∈prOf ops j,L.getD p false=true)->(∀(i:Nat) (r:Rec),rs[i]? = some r->r.kd≠.go->L.getD i false=false)->
    Sat D w0 X s.th ρ wc w (accAt (rs.map (·.wr)) (λj=>L.getD j false) s.bk ops.size)->TSat D ρ wc n (accAt (rs.map wT) (λj=>L.getD j false) s.tm ops.size) a->a.defers=d0->
    Evo ρ0 wc0 w00 s.bk s.c s'.c ρ wc w (accAt (rs.map (·.wr)) (λj=>L.getD j false) s.bk ops.size)->
    (∀(i:Nat) (r:Rec),rs[i]? = some r->L.getD i false=false->∀k,r.c0<=k->k<r.c1->ρ k=none)->wpAnyIn (WF ro) m P .any ops Q fuel L a w:=by
 have hlen:rs.length=ops.size:=by rw[hR.len,Yaz]
 -- a record of nothing that comes up: there is one that panics
 have allgo:pn=none->∀(i:Nat) (r:Rec),rs[i]? = some r->r.kd=.go:=by
  intro hpn i;induction i using Nat.strongRecOn with
  | _ i ih =>
    intro r hr;cases hk:r.kd with
    | go=>rfl
    | pan p pw =>
      have:=hR.uniq i r p pw hr hk;rw[hR.pn0 hpn]at this;cases this
    | never =>
      obtain⟨_,_,o,p,ho,hp,hh⟩:=hR.nev i r hr hk;rcases hh with hh|⟨j,rj,hj,hrj,hkj⟩
      ·cases hh
      ·have hin:p∈prOf ops i:=by
        unfold prOf;rw[Yaq]at ho;rw[ho];exact hp
       have hlt:=hD.pre i p hin;exact absurd (ih j Zo rj hrj) hkj
 -- all are listed: the end
 have done : ∀ (L : Array Bool) (a : Act) (w : World) (ρ : Nm) (wc : World), (∀ j, j < ops.size -> L.getD j false = true) -> (∀ (i : Nat) (r : Rec), rs[i]? = some r -> r.kd ≠ .go -> L.getD i false = false) ->
   Sat D w0 X s.th ρ wc w (accAt (rs.map (·.wr)) (λj=>L.getD j false) s.bk ops.size)->TSat D ρ wc n (accAt (rs.map wT) (λj=>L.getD j false) s.tm ops.size) a->a.defers=d0->
   Evo ρ0 wc0 w00 s.bk s.c s'.c ρ wc w (accAt (rs.map (·.wr)) (λj=>L.getD j false) s.bk ops.size)->Q .normal a w:=by
  intro L a w ρ wc hall hgo hS hT hd hE;have e1:accAt (rs.map (·.wr)) (λj=>L.getD j false) s.bk ops.size=s'.bk:=by
   rw[Zlk (N:=ops.size) hall _ (Yab _),hR.bk,Yaz]
  have e2:accAt (rs.map wT) (λj=>L.getD j false) s.tm ops.size=s'.tm:=by
   rw[Zlk (N:=ops.size) hall _ (Yab _),hR.tm,Yaz]
  rw[e1]at hS hE;rw[e2]at hT;refine hK ?_ ρ wc w a hS hT hd hE;cases hpn:pn with
  | none=>rfl
  | some v =>
    exfalso
    obtain⟨pw,bR,hpr⟩:=hR.pn1 v hpn;have:∀l:List Rec,panRec l=some (v,pw,bR)->∃(i:Nat) (r:Rec),l[i]? = some r∧r.kd≠.go:=by
     intro l;induction l with
     | nil=>intro h;cases h
     | cons r l ih =>
       intro h;unfold panRec at h;split at h
       ·rename_i p pw' hk
        exact⟨0,r,Zs,by rw[hk];intro hh;cases hh⟩
       ·obtain⟨i,r',h1,h2⟩:=ih h
        exact⟨i+1,r',by simpa using h1,h2⟩
    obtain⟨i,r,h1,h2⟩:=this rs hpr;have h3:=hgo i r h1 h2;have h4:=(Yan.1 h1).1;rw[hall i Zo]at h3;cases h3
 -- nothing is ready: all are listed
 have none_:∀(L:Array Bool),L.size=ops.size->Region.ready .any ops L=[]->∀j,j<ops.size->L.getD j false=true:=by
  intro L hsz hr j;induction j using Nat.strongRecOn with
  | _ j ih =>
    intro hj;cases hL:L.getD j false with
    | true=>rfl
    | false =>
      exfalso
      have hmem:j∈Region.ready .any ops L:=by
       rw[mem_ready];refine⟨?_,ops[j],by simp[hj],?_⟩
       ·have:j<L.size:=by omega
        simp[Array.getD,this]at hL ⊢;exact hL
       ·intro e he hb
        have hin:e.on∈prOf ops j:=by
         unfold prOf;rw[Yby hj];unfold predsOf;exact Ydl.2 ⟨e,List.mem_filter.2 ⟨by simpa using he,hb⟩,rfl⟩
        have hlt:=hD.pre j _ hin;exact ih e.on hlt Zo
      rw[hr]at hmem;cases hmem
 intro fuel;induction fuel with
 | zero =>
   intro L a w ρ wc hsz hleft hcl hgo hS hT hd hE hun;have hall:=Zjz ops.size (Nat.le_zero.1 hleft);refine⟨?_,done L a w ρ wc hall hgo hS hT hd hE⟩;apply List.eq_nil_iff_forall_not_mem.2;intro j hj;obtain⟨h1,o,ho,_⟩:=mem_ready.1 hj;have hjs:=(Yeq.1 ho).1;have h2:=hall j hjs;have hjl:j<L.size:=Zo;simp[Array.getD,hjl]at h1 h2;rw[h1]at h2;cases h2
 | succ fuel ih =>
   intro L a w ρ wc hsz hleft hcl hgo hS hT hd hE hun;refine⟨λhr=>done L a w ρ wc (none_ L hsz hr) hgo hS hT hd hE,λi hi=>?_⟩;obtain⟨h1,o,ho,hpre⟩:=mem_ready.1 hi;have his:=(Yeq.1 ho).1;have hil:i<L.size:=Zo;have hLi:L.getD i false=false:=by simp[Array.getD,hil]at h1 ⊢;exact h1
   have hpr:∀p∈prOf ops i,L.getD p false=true:=by
    intro p hp;unfold prOf at hp;rw[ho]at hp;obtain⟨e,he,rfl⟩:=Ydl.1 hp;obtain⟨he1,he2⟩:=List.mem_filter.1 he;exact hpre e (by simpa using he1) he2
   have hir:i<rs.length:=Zo;obtain⟨r,hr⟩:∃r,rs[i]? = some r:=⟨rs[i],by simp[hir]⟩
   by_cases hnv:r.kd=.never
   ·exfalso
    obtain⟨_,_,o',p,ho',hp,hh⟩:=hR.nev i r hr hnv;rcases hh with hh|⟨j,rj,hj,hrj,hkj⟩
    ·cases hh
    ·have hin:p∈prOf ops i:=by
      unfold prOf;rw[Yaq]at ho';rw[ho'];exact hp
     have h3:=hpr p hin;have h4:=hgo j rj hrj hkj;rw[Yba]at hj;rw[hj,h4]at h3;cases h3
   obtain⟨o',ho',hst⟩:=hR.step i r hr hnv;have hoo:o'=o:=by
    rw[Yaq,ho]at ho';cases ho';rfl
   subst hoo;obtain⟨hdok,orc,orc',ps,b,hw,hps,hcase⟩:=hst
   -- who touches what this one touches
   have before:∀j s2,j<i->rs[j]? = some s2->conf s2 r=true->L.getD j false=true:=λj s2 hj hs2 hc=>
    Zm1 (L:=λj=>L.getD j false=true) hD.race hj hs2 hr hc hcl hpr
   have after:∀j s2,i<j->rs[j]? = some s2->conf r s2=true->L.getD j false=false:=λj s2 hj hs2 hc=>by
    cases hLj:L.getD j false with
    | false=>rfl
    | true =>
      have:=Zm1 (L:=λj=>L.getD j false=true) hD.race hj hr hs2 hc hcl (hcl j hLj);rw[hLi]at this;cases this
   have subT:Sub (some_ r.tR (accAt (rs.map wT) tt s.tm i)) (accAt (rs.map wT) (λj=>L.getD j false) s.tm ops.size):=by
    intro t x hx;rw[Zdf]at hx;split at hx
    ·rename_i ht
     have ht':t∈r.tR:=mem_iff.1 ht;rw[Zm0 hLi ?_ ?_ _ (Nat.le_of_lt his)]
     ·exact hx
     ·intro j hj hwr
      obtain⟨s2,hs2,hd2⟩:=Zeq hwr;exact before j s2 hj hs2 (Zve hd2 ht')
     ·intro j hj hwr
      obtain⟨s2,hs2,hd2⟩:=Zeq hwr;exact after j s2 hj hs2 (Zvf hd2 ht')
    ·cases hx
   have subB:Sub (some_ r.bR (accAt (rs.map (·.wr)) tt s.bk i)) (accAt (rs.map (·.wr)) (λj=>L.getD j false) s.bk ops.size):=by
    intro t x hx;rw[Zdf]at hx;split at hx
    ·rename_i ht
     have ht':t∈r.bR:=mem_iff.1 ht;rw[Zm0 hLi ?_ ?_ _ (Nat.le_of_lt his)]
     ·exact hx
     ·intro j hj hwr
      obtain⟨s2,hs2,hd2⟩:=Zer hwr;exact before j s2 hj hs2 (Zqe hd2 (.inl ht'))
     ·intro j hj hwr
      obtain⟨s2,hs2,hd2⟩:=Zer hwr;exact after j s2 hj hs2 (Zvh hd2 ht')
    ·cases hx
   have addT:∀k,(accAt (rs.map wT) (λj=>j==i || L.getD j false) s.tm ops.size).look k=(wT r++accAt (rs.map wT) (λj=>L.getD j false) s.tm ops.size).look k:=by
    intro k;rw[Zp9 hLi ?_ _ his,Zbc]
    ·rw[Yac,Ycj,hr];rfl
    ·intro j hj h1 h2
     obtain⟨s1,hs1,hd1⟩:=Zeq h1;obtain⟨s2,hs2,hd2⟩:=Zeq h2;rw[hr]at hs1;cases hs1;exact after j s2 hj hs2 (Zvg hd1 hd2)
   have addB:∀k,(accAt (rs.map (·.wr)) (λj=>j==i || L.getD j false) s.bk ops.size).look k=(r.wr++accAt (rs.map (·.wr)) (λj=>L.getD j false) s.bk ops.size).look k:=by
    intro k;rw[Zp9 hLi ?_ _ his,Zbc]
    ·rw[Yac,Ycj,hr];rfl
    ·intro j hj h1 h2
     obtain⟨s1,hs1,hd1⟩:=Zer h1;obtain⟨s2,hs2,hd2⟩:=Zer h2;rw[hr]at hs1;cases hs1;exact after j s2 hj hs2 (Zqe hd1 (.inr hd2))
   have hL':∀j,(L.setIfInBounds i true).getD j false=(j==i || L.getD j false):=by
    intro j;by_cases e:j=i
    ·subst e;simp[Array.getD,hil]
    ·have e':(j==i)=false:=by simpa using e
     rw[getD_set_ne false (λh=>e h.symm),e',Yeo]
   have hLf:(λj=>(L.setIfInBounds i true).getD j false)=λj=>j==i || L.getD j false:=funext hL'
   have hTr:TSat D ρ wc n (some_ r.tR (accAt (rs.map wT) tt s.tm i)) a:=hT.sub subT;have hwant:=Zep hTr hw (λp hp=>hq p (hps p hp));have hrng:=hR.rng i r hr;have hY:=hY0 ρ wc w _ hE
   -- what follows,once it is done
   have next:r.kd=.go->r.dst=o'.dst->∀(ρ':Nm) (wc' w':World) (v:Value),denV D ρ' wc' r.v v->Sat D w0 X s.th ρ' wc' w' (r.wr++accAt (rs.map (·.wr)) (λj=>L.getD j false) s.bk ops.size)->
     Evo ρ wc w (accAt (rs.map (·.wr)) (λj=>L.getD j false) s.bk ops.size) r.c0 r.c1 ρ' wc' w' (r.wr++accAt (rs.map (·.wr)) (λj=>L.getD j false) s.bk ops.size)->
     wpAnyIn (WF ro) m P .any ops Q fuel (L.setIfInBounds i true) (a.put o'.dst v) w':=by
    intro hkd hrd ρ' wc' w' v hv hS' hE';refine ih _ _ w' ρ' wc' (by simpa using hsz) ?_ ?_ ?_ ?_ ?_ ?_ ?_ ?_
    ·rw[hLf]
     have:=Zqc (L:=λj=>L.getD j false) hLi ops.size his;omega
    ·intro j hj p hp
     rw[hL']at hj ⊢;by_cases e:j=i
     ·subst e;rw[hpr p hp,Bool.or_true]
     ·have e':(j==i)=false:=by simpa using e
      rw[e',Yeo]at hj;rw[hcl j hj p hp,Bool.or_true]
    ·intro j rj hj hk
     rw[hL',hgo j rj hj hk,Bool.or_false];by_cases e:j=i
     ·subst e
      rw[hr]at hj;cases hj;exact absurd hkd hk
     ·simpa using e
    ·rw[hLf];exact hS'.congr addB
    ·rw[hLf]
     have h3:=(hT.mono hE'.rho hE'.ext).put hdok hv;rw[<-hrd,Zlj]at h3;rw[<-hrd];exact h3.sub λk x hk=>by rw[<-addT];exact hk
    ·rw[<-hd];cases o'.dst<;>rfl
    ·rw[hLf];exact(hE.join (hE'.widen hrng.1 hrng.2.2) hnm).congr addB
    ·intro j rj hj hLj k h1 h2
     rw[hL']at hLj;have e:j≠i:=by intro e;subst e;simp at hLj
     have e':(j==i)=false:=by simpa using e
     rw[e',Yeo]at hLj;rw[hE'.dom k ?_]
     ·exact hun j rj hj hLj k h1 h2
     ·rcases Nat.lt_or_gt_of_ne e with h|h
      ·have:=hR.ord j i rj r h hj hr;left;omega
      ·have:=hR.ord i j r rj h hr hj;right;omega
   have names:isCall o'=true->(∀k b,(accAt (rs.map (·.wr)) (λj=>L.getD j false) s.bk ops.size).look k=some b->k<s.th)∧r.c1<=s.th:=by
    intro hic;obtain⟨c1,c2⟩:=hD.call ⟨o',by rw[Array.mem_toList_iff];exact Array.mem_of_getElem? ho,hic⟩;refine⟨λk b hk=>?_,(c2 r (Ych hr)).1⟩;rcases Zqd _ hk with h|⟨j,h⟩
    ·exact c1 k b h
    ·rw[Yac,Ycj]at h
     cases hrj:rs[j]? with
     | none=>rw[hrj]at h;simp at h
     | some rj=>rw[hrj]at h;exact(c2 rj (Ych hrj)).2 k b h
   unfold wpOpIn;rw[ho];dsimp only;rw[hwant];rcases hcase with ⟨hkd,hrd,rfl,x,cl,hop,e0,e1,e2,e3,hob⟩|⟨hkd,hrd,rfl,e1,e2,e3⟩|⟨pv,pw,hkd,hdn,hwn,rfl,x,cl,hop,e0,e2,e3,hob⟩
   ·rw[if_pos rfl]
    have ef:x.fin (accAt (rs.map (·.wr)) (λj=>L.getD j false) s.bk ops.size)=r.wr++accAt (rs.map (·.wr)) (λj=>L.getD j false) s.bk ops.size:=by
     unfold OpR.fin;rw[e0,<-e2]
    have efR:x.fin (some_ r.bR (accAt (rs.map (·.wr)) tt s.bk i))=r.wr++some_ r.bR (accAt (rs.map (·.wr)) tt s.bk i):=by
     unfold OpR.fin;rw[e0,<-e2]
    refine Zmz (G:=r.wr++accAt (rs.map (·.wr)) (λj=>L.getD j false) s.bk ops.size) (th':=s.th) hcs hY hS subB (λx z hz=>hTr.get hz) hop (λp hp=>hq p (hob p hp)) (λk h1 h2=>hun i r hr hLi k h1 (by rw[<-e3];exact h2)) ?_ (λ_ ht=>⟨rfl,.inl ⟨e0,by rw[e2]⟩⟩) ?_ (λp hp=>by rw[e0]at hp;cases hp)
    ·intro hcl' _ ρ' wc' w' hS' hE'
     subst hcl';obtain⟨n1,n2⟩:=names (Zh2 hop);rw[efR]at hS' hE';exact hS.frame subB n1 hS' hE' (by rw[e3];exact n2) λk b hk=>by
      obtain⟨hk,hdd⟩:=hk;rw[Zbc]at hk;cases hwk:r.wr.look k with
      | some b' =>
        rw[hwk,Ydk]at hk;exact .inl ⟨by rw[Zbc,hwk,Ydk];exact hk,hdd⟩
      | none =>
        rw[hwk,Ydd]at hk;cases hR':(some_ r.bR (accAt (rs.map (·.wr)) tt s.bk i)).look k with
        | some b' =>
          have:=subB k b' hR';rw[hk]at this;cases this;exact .inl ⟨by rw[Zbc,hwk,Ydd];exact hR',hdd⟩
        | none=>exact .inr ⟨⟨hk,hdd⟩,rfl⟩
    ·intro _ ρ' wc' w' v hv hS' hE'
     rw[e1]at hv;rw[e3]at hE';exact next hkd hrd ρ' wc' w' v hv hS' hE'
   ·rw[if_neg Zs]
    refine⟨λ_ _=>trivial,?_⟩;refine next hkd hrd ρ wc w undef (by rw[e1];exact Zgt) (by rw[e2];exact hS) ?_;rw[e2,e3];exact Evo.refl _ _ _ _ _
   ·rw[if_pos rfl]
    have hpan:=hR.uniq i r pv pw hr hkd;have efR:x.fin (some_ r.bR (accAt (rs.map (·.wr)) tt s.bk i))=pw:=by
     unfold OpR.fin;rw[e0];exact e2
    have hsubst:Sub' (stB rs s.bk pw r.bR) (pw++(accAt (rs.map (·.wr)) (λj=>L.getD j false) s.bk ops.size).filter λq=>!mem r.bR q.1):=by
     intro k b hk;obtain⟨hk,hdd⟩:=hk;refine⟨?_,hdd⟩;unfold stB at hk;rw[Zbc]at hk ⊢;cases hwk:pw.look k with
     | some b'=>rw[hwk,Ydk]at hk;rw[Ydk];exact hk
     | none =>
       rw[hwk,Ydd]at hk;rw[Ydd];rw[Zb0 (λk=>!mem r.bR k&&rs.all λr=>!mem (keys r.wr) k)]at hk;rw[Zb0 (λk=>!mem r.bR k)];split at hk
       ·rename_i hc
        rw[Yam]at hc;rw[if_pos hc.1,Zir]
        ·exact hk
        ·intro j hwr
         obtain⟨rj,hrj,hkj⟩:=Zer hwr;have:=Ybn.1 hc.2 rj (Ych hrj);rw[mem_iff.2 hkj]at this;cases this
       ·cases hk
    refine Zmz (G:=pw++(accAt (rs.map (·.wr)) (λj=>L.getD j false) s.bk ops.size).filter λq=>!mem r.bR q.1) (th':=s.th) hcs hY hS subB (λx z hz=>hTr.get hz) hop (λp hp=>hq p (hob p hp)) (λk h1 h2=>hun i r hr hLi k h1 (by rw[<-e3];exact h2)) ?_ (λ_ ht=>⟨rfl,.inr ⟨by rw[e0];simp,λhw k b hk=>?_⟩⟩) (λhn=>by rw[e0]at hn;cases hn) ?_
    ·intro hcl' _ ρ' wc' w' hS' hE'
     subst hcl';obtain⟨n1,n2⟩:=names (Zh2 hop);rw[efR]at hS' hE';exact hS.frame subB n1 hS' hE' (by rw[e3];exact n2) λk b hk=>by
      obtain⟨hk,hdd⟩:=hk;rw[Zbc]at hk;cases hwk:pw.look k with
      | some b' =>
        rw[hwk,Ydk]at hk;exact .inl ⟨hwk.trans hk,hdd⟩
      | none =>
        rw[hwk,Ydd,Zb0 (λk=>!mem r.bR k)]at hk;split at hk
        ·rename_i hc
         refine .inr ⟨⟨hk,hdd⟩,?_⟩;rw[Zdf,if_neg];intro hm;rw[hm]at hc;cases hc
        ·cases hk
    ·rw[e2]at hw
     obtain⟨hk,hdd⟩:=hk;refine⟨?_,hdd⟩;rw[Zbc]at hk;cases hwk:pw.look k with
     | some b' =>
       first|rw[hwk,Ydk]at hk|rw[Ydk]at hk
       rw[hw]at hwk;rw[<-hk];exact subB k b' hwk
     | none =>
       first|rw[hwk,Ydd,Zb0 (λk=>!mem r.bR k)]at hk|rw[Ydd,Zb0 (λk=>!mem r.bR k)]at hk
       split at hk
       ·exact hk
       ·cases hk
    ·intro p' hp' ρ' wc' w' hS' hE'
     rw[e0]at hp';cases hp';rw[e3]at hE';refine hP pv pw r.bR hpan ρ' wc' w' a (hS'.sub' hsubst) ((hT.mono hE'.rho hE'.ext).sub λt y hy=>?_) hd ((hE.join (hE'.widen hrng.1 hrng.2.2) hnm).sub' hsubst);unfold stT at hy;rw[Zb0 (λt=>rs.all λr=>!inD r.dst [t])]at hy;split at hy
     ·rename_i hc
      rw[Zir]
      ·exact hy
      ·intro j hwr
       obtain⟨rj,hrj,hdj⟩:=Zeq hwr;have:=Ybn.1 hc rj (Ych hrj);rw[hdj]at this;simp[inD,mem]at this
     ·cases hy
end
end
end Go.Ex
namespace Go.Mono
open Go.RowKit
section
section
variable {P:Program} {ops:Array Oper} {rest:List Oper} {o:Oper} {a:Act} {Q:Exit->Act->World->Prop}
end
end
end Go.Mono
namespace Go.Proofs.W
open Go.RowKit Go.Mono

theorem Zgx (B:Nat) (nm:ByteArray) (di pu pr:Int) (st:Nat) (pf pw' pc:Option Addr) (nf cf nw cw m cs cc b off:Nat) (A:Nat->Array Value) (hA:∀i,(A i).size=22) (w:World)
  (b0:Box w B 249 #[.string nm,.int .i64 di,.int .i64 pu,.int .i64 (st:Int),.int .i64 pr,.slice pf nf cf,.slice pw' nw cw,.slice (some ⟨b,off,none⟩) (m+1) cs,.slice pc 0 cc])
  (hr:RdC w (some ⟨b,off,none⟩) (m+1) cs 22 (λi j=>(A i).getD j undef)) (m1:1<=m) (m2:m+1<=16) (s1:st+1<=m)
  (hc:∀i,i<m+1->∀W,Below w.heap.size w W->Calls Tryz.prog 222 #[.agg (A i)] W λe w'=>e=.returned (.int .i64 0)∧Below W.heap.size W w')
  (him:∀W,Calls Tryz.prog 224 #[.agg (A m)] W λe w'=>e=.returned (.bool true)∧Below W.heap.size W w')
  (kd:Int) (hkd:(A st)[0]? = some (.int .i64 kd)) (hk3:(kd != 3)=true) :
  Calls Tryz.prog 209 #[.pointer (some ⟨B,0,none⟩)] w λe w'=>e=.returned (.bool true)∧Below w.heap.size w w':=by
 have cb0:=b0.cell;have lb0:=b0.lt;have hsz:(Tryz.prog.info? 117).map (·.size)=some 22:=Zk;have e1:(2:Int)<=(m:Int)+1:=Zo;have e2:(m:Int)+1<=16:=Zo;have e3:IntKind.i64.wrap ((m:Int)+1-2)=(m:Int)-1:=by rw[Ybi];omega
 have e4:(0:Int)<=(st:Int):=Zo;have e5:(st:Int)<=(m:Int)-1:=Zo;go_enter Tryz.func209,Tryz.ntmps209
 go_wp2_with first|(go_at_call 206;(with_reducible refine(Zbg _ _ _ e1 e2 _).mono ?_);rintro e w' ⟨rfl,rfl⟩)|(go_at_call 206;(with_reducible refine(Zbg _ _ _ e4 e5 _).mono ?_);rintro e w' ⟨rfl,rfl⟩)
 have h5:=hr;obtain⟨_,_,hx⟩:=h5;obtain⟨b',off',hp,hbl,hcell⟩:=hx Zo;obtain⟨rfl,rfl⟩:b=b'∧off=off':=by simpa using hp
 clear hx hp;dsimp only at hcell;have hcs:=Zob (m+1) cs (some ⟨b,off,none⟩) A hA 221 Zfx;have hsA:∀i,(Tryz.prog.info? 117).map (·.size)=some (A i).size:=λi=>by rw[hsz,hA]
 have fk:w'.cell? ⟨b,off+st*22,none⟩=some (.int .i64 kd):=by
  have:=hcell st 0 Zo Zo;rw[Yax,hkd]at this;simpa using this
 have hrange:∀w2,Below w'.heap.size w' w2->w2.rangeAt b (off+m*22) (A m).toList:=λw2 hw2 j v hv=>by
  have hj:j<22:=by
   have:=(Yan.1 hv).1;simpa[hA]using this
  refine((hw2.cell (p:=⟨b,off+m*22+j,none⟩) hbl).trans (hcell m j Zo hj)).trans ?_;rw[Yaq]at hv;rw[Yax,hv];rfl
 have m3:(m:Int)<=15:=Zo;have m4:(0:Int)<=m:=Zo;have m6:(m:Int)<(m:Int)+1:=Zo;have m5:IntKind.i64.wrap (m:Int)=m:=by rw[Ybi];omega
 have s3:(st:Int)<(m:Int)+1:=Zo;clear hcell hsz hkd e1 e2 e3;refine wp_region_held_drew (S:=λw2=>(∀b o,b<w'.heap.size->w2.cell? ⟨b,o,none⟩=w'.cell? ⟨b,o,none⟩)∧Below w'.heap.size w' w2) Zk (Za3 (Yae _ _).drew) (λhHeld=>?_);refine tk 0 (some 25) ?_;refine tk 1 (some 26) ?_;refine tk 2 (some 27) ?_;refine tk 3 (some 28) ?_;refine tk 4 (some 29) ?_;refine tk 5 (some 30) ?_;refine Mono.st 6 ?_;intro K hK;go_simp
 (refine(hcs _ (hr.below hHeld.2) (λi hi W hW=>Zj5 (A i) (hA i) W (λW2 h2=>hc i hi W2 (Zaa (Zaa hHeld.2 hW) h2)))).mono ?_;rintro e W1 ⟨rfl,hb⟩)
 refine kp hK (Za3 (Zaa hHeld.2 hb)) (λhHeld=>?_);clear hK K;clear hb;refine tk 7 (some 32) ?_;refine tk 8 (some 33) ?_;refine tk 9 (some 34) ?_;refine tk 10 (some 35) ?_;refine tk 11 (some 36) ?_;refine tk 12 (some 37) ?_;refine tk 13 (some 38) ?_;refine tk 14 (some 39) ?_;refine tk 15 (some 40) ?_;refine tk 16 (some 41) ?_;refine tl 17 (some 42) rfl (.agg (A m)) (Zaj 117 _ rfl b (off+m*22) rfl (A m) (λw h=>hrange w h.2) _ Tryz.underlying117 rfl (hsA m)) ?_;refine Mono.st 18 ?_;intro K hK;go_simp
 (refine(him _).mono ?_;rintro e W2 ⟨rfl,hb⟩)
 refine kp hK (Za3 (Zaa hHeld.2 hb)) (λhHeld=>?_);clear hK K;clear hb;refine tk 19 (some 44) ?_;refine tk 20 (some 45) ?_;refine tk 21 (some 46) ?_;refine tk 22 (some 47) ?_;refine tk 23 (some 48) ?_;refine tk 24 (some 49) ?_;refine tk 25 (some 50) ?_;refine tk 26 (some 51) ?_;refine tk 27 (some 52) ?_;refine tk 28 (some 53) ?_;refine tk 29 (some 54) ?_;refine tk 30 (some 55) ?_;refine tk 31 (some 56) ?_;refine tk 32 (some 57) ?_;refine tk 33 (some 58) ?_;refine tk 34 (some 59) ?_;refine tk 35 (some 60) ?_;refine tk 36 (some 2) ?_;refine wpAnyH_done Zk ?_ _;go_wp2
 go_ret
 exact⟨rfl,hHeld.2⟩
end Go.Proofs.W
namespace Go.Mono
open Go.RowKit

end Go.Mono
