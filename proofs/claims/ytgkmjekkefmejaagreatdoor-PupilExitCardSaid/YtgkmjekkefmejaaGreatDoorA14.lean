/- Contracts of package matrix,and a verified evaluator. Part 14 of 27. No condition beside the row. -/
import Derived.DeepKeys
import Derived.TacticsIn
import Derived.Test.YtgkmjekkefmejaaGreatDoorA01
import Derived.Test.YtgkmjekkefmejaaGreatDoorA13
set_option linter.unusedVariables false
set_option linter.unusedSimpArgs false
set_option maxRecDepth 100000
set_option maxHeartbeats 4000000
namespace Go.Mono
open Go.RowKit
def RdC (w:World) (p:Option Addr) (n c sz:Nat) (cell:Nat->Nat->Value):Prop:=
 n<=c∧n<=140737488351232∧(0<n->∃b off,p=some ⟨b,off,none⟩∧b<w.heap.size∧(∀i j,i<n->j<sz->w.cell? ⟨b,off+i*sz+j,none⟩=some (cell i j)))
theorem RdC.below {w w':World} {p:Option Addr} {n c sz:Nat} {f:Nat->Nat->Value} (h:RdC w p n c sz f) (hB:Below w.heap.size w w'):RdC w' p n c sz f:=by
 obtain⟨h1,h2,h3⟩:=h;refine⟨h1,h2,λhn=>?_⟩;obtain⟨b,off,hp,hb,hc⟩:=h3 hn;exact⟨b,off,hp,Yaf hb hB.size,λi j hi hj=>(hB.cell hb).trans (hc i j hi hj)⟩
def FilmsAt (w:World) (p:Option Addr) (n c:Nat) (F:Nat->Flm):Prop:=RdC w p n c 3 (λi j=>(F i).vals.getD j undef)
theorem FilmsAt.below {w w':World} {p:Option Addr} {n c:Nat} {F:Nat->Flm} (h:FilmsAt w p n c F) (hB:Below w.heap.size w w'):FilmsAt w' p n c F:=RdC.below h hB
theorem FilmsAt.range {w:World} {p:Option Addr} {n c:Nat} {F:Nat->Flm} (h:FilmsAt w p n c F) (hn:0<n):∃b off,p=some ⟨b,off,none⟩∧b<w.heap.size∧∀i,i<n->∀W,Below w.heap.size w W->W.rangeAt b (off+i*3) (F i).vals.toList:=by
 obtain⟨_,_,hx⟩:=h;obtain⟨b,off,hp,hb,hc⟩:=hx hn;refine⟨b,off,hp,hb,λi hi W hW j v hv=>?_⟩;have hj:j<3:=by
  have:=(Yan.1 hv).1;simpa[Flm.vals]using this
 refine((hW.cell (p:=⟨b,off+i*3+j,none⟩) hb).trans (hc i j hi hj)).trans ?_;dsimp only;rw[Yaq]at hv;rw[Yax,hv];rfl
def CoatAt (w:World) (p:Option Addr) (c:Nat) (l:List Flm):Prop:=FilmsAt w p l.length c (λi=>l.getD i ⟨0,0,0⟩)
theorem CoatAt.below {w w':World} {p:Option Addr} {c:Nat} {l:List Flm} (h:CoatAt w p c l) (hB:Below w.heap.size w w'):CoatAt w' p c l:=FilmsAt.below h hB
theorem CoatAt.nil (w:World) (p:Option Addr) (c:Nat):CoatAt w p c []:=⟨Yat _,Yat _,λh=>absurd h (Yfw 0)⟩
theorem CoatAt.alt {w:World} {p p':Option Addr} {c c':Nat} {l:List Flm} (h:l=[]∨p'=p∧c'=c) (H:CoatAt w p c l):CoatAt w p' c' l:=by
 rcases h with rfl|⟨rfl,rfl⟩
 ·exact CoatAt.nil _ _ _
 ·exact H
end Go.Mono
namespace Go.Proofs.W
open Go.RowKit Go.Mono
theorem Zbh (n lo hi:Int) (h1:lo<=n) (h2:n<=hi) (w:World) :
  Calls Tryz.prog 214 #[.int .i64 n,.int .i64 lo,.int .i64 hi] w λe w'=>e=.returned (.bool true)∧w'=w:=by
 go_enter Tryz.func214,Tryz.ntmps214
 go_wp2
 go_ret
 exact⟨rfl,rfl⟩
theorem Zu4 (B:Nat) (nm:ByteArray) (di pu st pr:Int) (pf pw' ps pc:Option Addr) (nf cf n cw ns cs nc cc:Nat) (L W:Nat->Int) (w:World)
  (b0:Box w B 257 #[.string nm,.int .i64 di,.int .i64 pu,.int .i64 st,.int .i64 pr,.slice pf nf cf,.slice pw' n cw,.slice ps ns cs,.slice pc nc cc])
  (hr:RdC w pw' n cw 2 (λi j=>if j=0 then .int .i64 (L i) else .int .i64 (W i)))
  (n1:1<=n) (n2:n<=5) (q1:0<=pr) (q2:pr<=n-1)
  (l0:∀i,i<n->300000<=L i∧L i<=2500000) (l1:∀i,i+1<n->L i<L (i+1)) (w0:∀i,i<n->1<=W i∧W i<=100) :
  Calls Tryz.prog 216 #[.pointer (some ⟨B,0,none⟩)] w λe w'=>e=.returned (.bool true)∧Below w.heap.size w w':=by
 have cb0:=b0.cell;obtain⟨hc1,hn1,hx⟩:=hr;obtain⟨b,off,rfl,hb,hcell⟩:=hx Zo;go_enter Tryz.func216,Tryz.ntmps216
 go_wp2
 go_loopw [3,12] (λl a wr=>∃(i:Nat) (la:Int),i<=n∧a=.int .i64 (i:Int)∧l=.int .i64 la∧(i=0->la=299999)∧(0<i->la=L (i-1))∧Below w.heap.size w wr) (λ_ a _=>(n-intOf a).toNat)
 case atStart=>exact⟨0,299999,Yat _,rfl,rfl,λ_=>rfl,λh=>Zo,Yae _ _⟩
 case round=>
  obtain⟨i,la,hi,rfl,rfl,ha0,ha1,hB⟩:=hrel;by_cases hin:i<n
  ·have hlt:la<L i:=by
    by_cases h0:i=0
    ·have:=ha0 h0;have:=l0 i hin;omega
    ·have:=ha1 (Zo);have:=l1 (i-1) Zo
     rw[show i-1+1=i by omega]at this;omega
   obtain⟨l2,l3⟩:=l0 i hin;obtain⟨w1,w2⟩:=w0 i hin;have f1:¬(L i<=la):=Zo;have f2:¬(2500000<L i):=Zo;have hin':(i:Int)<n:=Zo;have a0:=(hB.cell hb).trans (hcell i 0 hin Zo);have a1:=(hB.cell hb).trans (hcell i 1 hin Zo);simp only[if_true,Yce,Nat.succ_ne_self,if_false]at a0 a1;replace l0:=Yah l0;replace l1:=Yah l1;replace w0:=Yah w0;replace ha0:=Yah ha0;replace ha1:=Yah ha1;clear hcell;go_wp2_with (go_at_call 214;refine(Zbh _ _ _ w1 w2 _).mono ?_;rintro e w' ⟨rfl,rfl⟩)
   go_roundw
   case rel=>exact⟨i+1,L i,Zo,Zs,rfl,λh=>Zo,λ_=>rfl,Zad hB _⟩
   case measure=>simp[intOf];omega
  ·obtain rfl:i=n:=by omega
   have hb0:=b0.below hB;have cbb:=hb0.cell;have lbb:=hb0.lt;clear hcell cb0 l0 l1 w0 ha0 ha1;have e1:(1:Int)<=i:=Zo;have e2:(i:Int)<=5:=Zo;have hw:pr<=IntKind.i64.wrap ((i:Int)-1):=by
    have:IntKind.i64.wrap ((i:Int)-1)=(i:Int)-1:=by rw[Ybi];omega
    omega
   go_wp2_with fail
   go_region_held3 (λw'=>(∀b o,b<wr.heap.size->w'.cell? ⟨b,o,none⟩=wr.cell? ⟨b,o,none⟩)∧Below wr.heap.size wr w') ((refine Za2 ?_;first|exact(Yae _ _).drew|(repeat' (first|exact Yai ‹_› | exact Zaa (Yai ‹_›) ‹_› | exact Zad (Yai ‹_›) _|exact Zad ‹_› _|refine Zaf ?_ Zo _ _)))) (first|(go_at_call 214;(with_reducible refine(Zbh (i:Int) 1 5 e1 e2 _).mono ?_);rintro e w' ⟨rfl,rfl⟩)|(go_at_call 214;(with_reducible refine(Zbh pr 0 (IntKind.i64.wrap ((i:Int)-1)) q1 hw _).mono ?_);rintro e w' ⟨rfl,rfl⟩))
   all_goals
    go_wp2
    go_ret
    exact⟨rfl,Zaa hB (Yai ‹_›)⟩
end Go.Proofs.W
namespace Go.Mono
open Go.RowKit
def Srf.flds (s:Srf):Array Value:=#[.int .i64 s.kind,.int .i64 s.curv,.int .i64 s.conic,.int .i64 s.curvx,.int .i64 s.conicx,.int .i64 s.order,.int .i64 s.thick,.int .i64 s.semi,.int .i64 s.hole,.int .i64 s.dx,.int .i64 s.dy,.int .i64 s.ax,.int .i64 s.ay,.int .i64 s.az,.int .i64 0,.int .i64 0,.int .i64 s.a0,.int .i64 s.a1,.int .i64 s.a2,.int .i64 s.a3,.int .i64 s.p0,.int .i64 s.p1,.string s.glass]
def Srf.lits (s:Srf):List Lit:=[.int .i64 s.kind,.int .i64 s.curv,.int .i64 s.conic,.int .i64 s.curvx,.int .i64 s.conicx,.int .i64 s.order,.int .i64 s.thick,.int .i64 s.semi,.int .i64 s.hole,.int .i64 s.dx,.int .i64 s.dy,.int .i64 s.ax,.int .i64 s.ay,.int .i64 s.az,.int .i64 0,.int .i64 0,.int .i64 s.a0,.int .i64 s.a1,.int .i64 s.a2,.int .i64 s.a3,.int .i64 s.p0,.int .i64 s.p1,.string s.glass.data.toList]
theorem Zce {m z:Int} (h:In m z) (hm:m<=1000000000):(Lit.int .i64 z).wf=true:=by
 obtain⟨h1,h2⟩:=h;have e1:IntKind.i64.min = -9223372036854775808:=Zd;have e2:IntKind.i64.max=9223372036854775807:=Zd;simp only[Lit.wf,e1,e2,Yam,decide_eq_true_eq];omega
theorem Zpo {s:Srf} (h:s.ok):s.glass.size<=16:=by
 rcases h.glass with h|h
 ·rw[h];decide
 ·exact h.2.1
end Go.Mono
namespace Go.Proofs.W
open Go.RowKit Go.Mono
theorem Zu8 (d:Nat) (s:ByteArray) (h:s.size<=16):Tryz.prog.keyLits (d+1) 9 [.string s]=some [.string s.data.toList]:=by
 have hu:Tryz.prog.underlying 9=some .string:=Zk;have:s.size<=maxLen:=Yak h Zd;simp[Program.keyLits,hu,this]
theorem Zlf (s:Srf) (hs:s.ok):Tryz.prog.keyLits 6 330 s.flds.toList=some s.lits:=by
 have c299:Tryz.prog.cellsOf 330=23:=Zk;have c297:Tryz.prog.cellsOf 328=16:=Zk;have c91:Tryz.prog.cellsOf 81=4:=Zk;have c49:Tryz.prog.cellsOf 82=2:=Zk;have c3:Tryz.prog.cellsOf 3=1:=Zk;have c9:Tryz.prog.cellsOf 9=1:=Zk;have hg:=Zu8 4 s.glass (Zpo hs);have w0:(Lit.int .i64 0).wf=true:=Zd;have w_kind:(Lit.int .i64 s.kind).wf=true:=Zce (m:=4) ⟨by have:=hs.k1;omega,hs.k2⟩ Zo;have w_curv:(Lit.int .i64 s.curv).wf=true:=Zce hs.curv Zo;have w_conic:(Lit.int .i64 s.conic).wf=true:=Zce hs.conic Zo;have w_curvx:(Lit.int .i64 s.curvx).wf=true:=Zce hs.curvx Zo;have w_conicx:(Lit.int .i64 s.conicx).wf=true:=Zce hs.conicx Zo;have w_order:(Lit.int .i64 s.order).wf=true:=Zce hs.order Zo;have w_thick:(Lit.int .i64 s.thick).wf=true:=Zce hs.thick Zo;have w_semi:(Lit.int .i64 s.semi).wf=true:=Zce (m:=1000000000) ⟨by have:=hs.semi0;omega,hs.semi1⟩ Zo;have w_hole:(Lit.int .i64 s.hole).wf=true:=Zce (m:=1000000000) ⟨by have:=hs.hole0;omega,hs.hole1⟩ Zo;have w_dx:(Lit.int .i64 s.dx).wf=true:=Zce hs.dx Zo;have w_dy:(Lit.int .i64 s.dy).wf=true:=Zce hs.dy Zo;have w_ax:(Lit.int .i64 s.ax).wf=true:=Zce hs.ax Zo;have w_ay:(Lit.int .i64 s.ay).wf=true:=Zce hs.ay Zo;have w_az:(Lit.int .i64 s.az).wf=true:=Zce hs.az Zo;have w_a0:(Lit.int .i64 s.a0).wf=true:=Zce hs.a0 Zo;have w_a1:(Lit.int .i64 s.a1).wf=true:=Zce hs.a1 Zo;have w_a2:(Lit.int .i64 s.a2).wf=true:=Zce hs.a2 Zo;have w_a3:(Lit.int .i64 s.a3).wf=true:=Zce hs.a3 Zo;have w_p0:(Lit.int .i64 s.p0).wf=true:=Zce hs.p0 Zo;have w_p1:(Lit.int .i64 s.p1).wf=true:=Zce hs.p1 Zo;clear hs;have h297:Tryz.prog.keyLits 5 328 [.int .i64 s.kind,.int .i64 s.curv,.int .i64 s.conic,.int .i64 s.curvx,.int .i64 s.conicx,.int .i64 s.order,.int .i64 s.thick,.int .i64 s.semi,.int .i64 s.hole,.int .i64 s.dx,.int .i64 s.dy,.int .i64 s.ax,.int .i64 s.ay,.int .i64 s.az,.int .i64 0,.int .i64 0]=some [.int .i64 s.kind,.int .i64 s.curv,.int .i64 s.conic,.int .i64 s.curvx,.int .i64 s.conicx,.int .i64 s.order,.int .i64 s.thick,.int .i64 s.semi,.int .i64 s.hole,.int .i64 s.dx,.int .i64 s.dy,.int .i64 s.ax,.int .i64 s.ay,.int .i64 s.az,.int .i64 0,.int .i64 0]:=by
  simp[Program.keyLits,Tryz.underlying328,Ydo, *]
 have h91:Tryz.prog.keyLits 5 81 [.int .i64 s.a0,.int .i64 s.a1,.int .i64 s.a2,.int .i64 s.a3]=some [.int .i64 s.a0,.int .i64 s.a1,.int .i64 s.a2,.int .i64 s.a3]:=by
  simp[Program.keyLits,Tryz.underlying81,Ydo, *]
 have h49:Tryz.prog.keyLits 5 82 [.int .i64 s.p0,.int .i64 s.p1]=some [.int .i64 s.p0,.int .i64 s.p1]:=by
  simp[Program.keyLits,Tryz.underlying82,Ydo, *]
 rw[Program.keyLits.eq_def];simp only[Tryz.underlying330];simp[Srf.flds,Srf.lits,h297,h91,h49,hg,c299,c297,c91,c49,c9]
theorem Zu9 (s:Srf) (hs:s.ok) (w:World):(binOp .eql 330 (.agg s.flds) (.agg s.flds)).run Tryz.prog w=.ok (.bool true) w:=by
 obtain⟨r,h1,h2⟩:=run_equalIn_deep (P:=Tryz.prog) 9995 5 330 Zk w 6 6 (.agg s.flds) (.agg s.flds) s.lits s.lits Zk Zk (Zlf s hs) (Zlf s hs);rw[run_eql_struct];have h3:r=true:=h2.2 rfl;subst h3;rw[show(10000:Nat)=9995+5 from rfl,h1];rfl
theorem Zlj (z lo hi:Int) (B0 B1:Nat) (w:World) (b0:Box w B0 3 #[.int .i64 lo]) (b1:Box w B1 3 #[.int .i64 hi]) :
  Calls Tryz.prog 287 #[.int .i64 z,.pointer (some ⟨B0,0,none⟩),.pointer (some ⟨B1,0,none⟩)] w λe w'=>e=.returned (.bool (!decide (lo<=z∧z<=hi)))∧∃k,w'=w.drewN k:=by
 by_cases h:lo<=z∧z<=hi
 ·rw[decide_eq_true h]
  refine(Zgz z lo hi B0 B1 w b0 b1 h.1 h.2).mono ?_;rintro e w' ⟨rfl,rfl⟩;exact⟨rfl,0,rfl⟩
 ·rw[decide_eq_false h]
  have c0:=b0.cell;have c1:=b1.cell;by_cases e1:z<lo
  ·clear h
   go_enter Tryz.func287,Tryz.ntmps287
   go_wp2
   go_ret
   exact⟨rfl,0,rfl⟩
  ·have e2:hi<z:=by omega
   clear h;go_enter Tryz.func287,Tryz.ntmps287
   go_wp2
   go_ret
   exact⟨rfl,0,rfl⟩
theorem Zr5 (p:Option Addr) (c:Nat) (z:Int) (r:Bool) (g:Nat) (eg:∀args w,(callFunc g args).run Tryz.prog w=.ok (.enter g args) w) (cap:Array Value) (w:World) (h:RdF w p 1 c (λ_=>z))
  (hf:Calls Tryz.prog g (#[.int .i64 z]++cap) w λe w'=>e=.returned (.bool r)∧∃k,w'=w.drewN k) :
  Calls Tryz.prog 294 #[.slice p 1 c,.func (.func g) #[] cap] w λe w'=>e=.returned (.int .i64 (if r then 0 else -1))∧∃k,w'=w.drewN k:=by
 obtain⟨hc1,hn1,hx1⟩:=h;obtain⟨b,off,rfl,hb,hcell⟩:=hx1 Zd;have a1:=hcell 0 Zd;clear hcell hx1;have hcj:∀j:Nat,j<1->w.cell? ⟨b,off+j,none⟩=some (.int .i64 z):=λj hj=>by
  obtain rfl:j=0:=Zo;exact a1
 clear a1;go_enter Tryz.func294,Tryz.ntmps294
 go_wp2
 go_loopw [8] (λa wr=>∃j:Nat,j<=1∧a=.int .i64 (j:Int)∧(j=0->wr=w)∧(j=1->r=false)∧∃k,wr=w.drewN k) (λa _=>(1-intOf a).toNat)
 case atStart=>exact⟨0,Zd,rfl,λ_=>rfl,λh=>Zo,0,rfl⟩
 case round=>
  obtain⟨j,hj,rfl,h0,h1,hk⟩:=hrel;by_cases hj0:j<1
  ·obtain rfl:=h0 Zo
   have a1:=hcj j hj0;have hj':(j:Int)<1:=Zo;clear h0 h1 hk hcj;go_wp2
   refine hf.mono ?_;rintro e w' ⟨rfl,k,rfl⟩;cases r with
   | true =>
     go_wp2
     go_ret
     exact⟨by simp;omega,k,rfl⟩
   | false =>
     go_wp2
     go_roundw
     case rel=>exact⟨j+1,Zo,Zs,λh=>Zo,Zs,k,rfl⟩
     case measure=>simp[intOf];omega
  ·obtain rfl:j=1:=by omega
   obtain rfl:=h1 rfl;obtain⟨k,rfl⟩:=hk;clear h0 hf hcj;go_wp2
   go_ret
   exact⟨rfl,k,rfl⟩
theorem Zlk (p:Option Addr) (c:Nat) (z:Int) (r:Bool) (g:Nat) (eg:∀args w,(callFunc g args).run Tryz.prog w=.ok (.enter g args) w) (cap:Array Value) (w:World) (h:RdF w p 1 c (λ_=>z))
  (hf:Calls Tryz.prog g (#[.int .i64 z]++cap) w λe w'=>e=.returned (.bool r)∧∃k,w'=w.drewN k) :
  Calls Tryz.prog 286 #[.slice p 1 c,.func (.func g) #[] cap] w λe w'=>e=.returned (.bool r)∧∃k,w'=w.drewN k:=by
 have hi:=Zr5 p c z r g eg cap w h hf;clear h hf;cases r with
 | true =>
   simp only[if_true]at hi;go_enter Tryz.func286,Tryz.ntmps286
   go_wp2_with (go_at_call 294;refine hi.mono ?_;rintro e w' ⟨rfl,k,rfl⟩)
   go_ret
   exact⟨rfl,k,rfl⟩
 | false =>
   simp only[if_false,Ybq]at hi;go_enter Tryz.func286,Tryz.ntmps286
   go_wp2_with (go_at_call 294;refine hi.mono ?_;rintro e w' ⟨rfl,k,rfl⟩)
   go_ret
   exact⟨rfl,k,rfl⟩
theorem Zd7 (lo hi:Int) (p:Option Addr) (c:Nat) (z:Int) (w:World) (h:RdF w p 1 c (λ_=>z)) :
  Calls Tryz.prog 262 #[.int .i64 lo,.int .i64 hi,.slice p 1 c] w λe w'=>e=.returned (.bool (decide (lo<=z∧z<=hi)))∧Below w.heap.size w w':=by
 have hmf:∀(fn:Fn) (first cap:Array Value) (w:World),(Instr.makeFunc fn first cap).run Tryz.prog w=.ok (.func fn first cap) w:=λ_ _ _ _=>rfl;generalize hr:decide (lo<=z∧z<=hi)=r;replace hr:=Yah hr;go_enter Tryz.func262,Tryz.ntmps262
 go_wp2_with fail
 refine Zbq λW hB hs b0 b1=>?_;replace h:=h.below hB;have h1:=Zlj z lo hi _ _ W b0 b1;rw[hr.out]at h1;refine(Zlk p c z (!r) _ Zdo _ W h ?_).mono ?_
 ·exact h1
 rintro e W1 ⟨rfl,k,rfl⟩;go_wp2
 go_ret
 exact⟨Zs,below_drewN hB k⟩
theorem Zva (f:Flm) (w:World):Calls Tryz.prog 272 #[.agg f.vals] w λe w'=>e=.returned (.bool (decide f.ok))∧Below w.heap.size w w':=by
 obtain⟨ix,p,q⟩:=f;unfold Flm.vals;dsimp only;have e0:decide (Flm.ok ⟨ix,p,q⟩)=((decide (10000000<=ix∧ix<=40000000)&&decide (0<=p∧p<=1000))&&decide (1<=q∧q<=1000)):=by
  rw[<-Bool.decide_and,<-Bool.decide_and];exact decide_eq_decide.2 (by unfold Flm.ok;dsimp only;omega)
 rw[e0];generalize h1:decide (10000000<=ix∧ix<=40000000)=r1;generalize h2:decide (0<=p∧p<=1000)=r2;generalize h3:decide (1<=q∧q<=1000)=r3;replace h1:=Yah h1;replace h2:=Yah h2;replace h3:=Yah h3;clear e0;go_enter Tryz.func272,Tryz.ntmps272
 go_wp2_with fail
 refine Zbq (T1:=3) λW hB hs b0 b1=>?_;have c0:=b0.cell;have l0:=b0.lt;refine(Zd7 10000000 40000000 _ 1 ix W (.box b1 0 1 _ (λi hi=>by obtain rfl:i=0:=(Zo);rfl) Zo)).mono ?_;rintro e W1 ⟨rfl,hb⟩;rw[h1.out];replace hB:=Zaa hB hb;replace b0:=b0.below hb;clear c0 l0;have c0:=b0.cell;have l0:=b0.lt;cases r1 with
 | false =>
   go_wp2
   go_ret
   exact⟨rfl,hB⟩
 | true =>
   go_wp2_with fail
   refine Zbz (T0:=3) λW2 hB2 hs2 b2=>?_;have hBB:=Zaa hB hB2;refine(Zd7 0 1000 _ 1 p W2 (.box b2 0 1 _ (λi hi=>by obtain rfl:i=0:=(Zo);rfl) Zo)).mono ?_;rintro e W3 ⟨rfl,hb⟩;rw[h2.out];replace hB:=Zaa hBB hb;replace b0:=(b0.below hB2).below hb;clear c0 l0;have c0:=b0.cell;have l0:=b0.lt;cases r2 with
   | false =>
     go_wp2
     go_ret
     exact⟨rfl,hB⟩
   | true =>
     go_wp2_with fail
     refine Zbz (T0:=3) λW4 hB4 hs4 b4=>?_;have hBB4:=Zaa hB hB4;refine(Zd7 1 1000 _ 1 q W4 (.box b4 0 1 _ (λi hi=>by obtain rfl:i=0:=(Zo);rfl) Zo)).mono ?_;rintro e W5 ⟨rfl,hb⟩;rw[h3.out];go_wp2
     go_ret
     exact⟨Zs,Zaa hBB4 hb⟩
theorem Zpt (w:World):(Instr.alloc 270 true (.tuple #[])).run Tryz.prog w=.ok (.pointer (some ⟨w.heap.size,0,none⟩)) (w.alloc (.cells #[.int .i64 0,.int .i64 0,.int .i64 0] 270)):=by
 go_simp
end Go.Proofs.W
namespace Go.Ex
open Go.RowKit Go.Mono
section
def sargs (get:Operand->Option SV):List Operand->Option (List SA)
 | []=>some []
 | x :: r => match get x with
   | some (.a s)=>(sargs get r).map (s::·)
   | _=>none
def capsA (caps:List (Nat×Nat)):List SA:=caps.map λp=>.one (.ptr p.1 p.2)
def entersB (P:Program) (f:FuncId):Bool:=
 match P.funcs[f]? with
 | some fn=>!(fn.name== "runtime.NumGoroutine")&&fn.body.isSome
 | none=>false
theorem Zfe {P:Program} {f:FuncId} (h:entersB P f=true) (args:Array Value) (w:World):(callFunc f args).run P w=.ok (.enter f args) w:=by
 unfold entersB at h;split at h
 ·rename_i fn hf
  rw[Yam]at h;obtain⟨h1,h2⟩:=h;unfold callFunc;have e1:(fn.name== "runtime.NumGoroutine")=false:=by simpa using h1
  have e2:fn.body.isNone=false:=by cases hb:fn.body<;>simp_all
  simp only[Yar,run_program,Yag,hf,e1,e2,Ybq,if_false,Yau]
 ·cases h
section
variable {D:Den} {P:Program} {ρ:Nm} {wc w:World} {get:Operand->Option SV} {ev:Operand->Value}
theorem denAs.append:∀{l m:List SA} {vs us:List Value},denAs D ρ w l vs->denAs D ρ w m us->denAs D ρ w (l++m) (vs++us)
 | [],m,vs,us,e,hm=>by rw[show vs=[] from e];exact hm
 | x::l,m,_,us,⟨v,r,e,hv,hr⟩,hm=>⟨v,r++us,by rw[e,Ydi],hv,denAs.append hr hm⟩
theorem Zjh (hg:∀x z,get x=some z->denV D ρ wc z (ev x)):∀{l:List Operand} {s:List SA},sargs get l=some s->denAs D ρ wc s (l.map ev)
 | [],s,h=>by cases h;rfl
 | x :: r, s, h => by
   unfold sargs at h;split at h
   ·rename_i y hy
    obtain⟨q,hq,rfl⟩:=Yad.1 h;exact⟨_,_,rfl,hg _ _ hy,Zjh hg hq⟩
   ·cases h
theorem Zgb:∀{l:List (Nat×Nat)} {vs:List Value},adrs ρ l vs->denAs D ρ w (capsA l) vs
 | [],vs,e=>e
 | p::r,vs,⟨B,v',hB,e,hr⟩=>⟨_,v',e,⟨B,hB,rfl⟩,Zgb hr⟩
end
def ans (b:Bool):List (Option Bool)->Bool×List Prop×List (Option Bool)
 | some x::r=>(x,[b=x],r)
 | none::r=>(b,[],r)
 | []=>(b,[],[])
theorem Zy4 {b:Bool} {orc:List (Option Bool)} (h:∀p∈(ans b orc).2.1,p):(ans b orc).1=b:=by
 match orc,h with
 | some x::r,h=>exact(h (b=x) (by simp[ans])).symm
 | none::r,h=>rfl
 | [],h=>rfl
def fixB (x:SV) (orc:List (Option Bool)):SV×List Prop×List (Option Bool):=
 match x with
 | .a (.one (.tst b))=>(.a (.one (.val (.bool (ans b orc).1))),(ans b orc).2.1,(ans b orc).2.2)
 | x=>(x,[],orc)
theorem Zrl {D:Den} {ρ:Nm} {w:World} {x:SV} {orc:List (Option Bool)} {v:Value} (h:∀p∈(fixB x orc).2.1,p) (hv:denV D ρ w x v):denV D ρ w (fixB x orc).1 v:=by
 unfold fixB at h ⊢;split
 ·rename_i b
  dsimp only at h ⊢;rw[Zy4 h];exact⟨hv,rfl⟩
 ·exact hv
def inR (z:Int):Prop:=-9223372036854775808<=z∧z<=9223372036854775807
theorem Zn3 {z:Int} (h:inR z):IntKind.i64.wrap z=z:=by
 rw[Ybi];have:=h.1;have:=h.2;omega
def intOf:Option SV->Option (IntKind×Int×Bool)
 | some (.a (.one (.val (.int k n))))=>some (k,n,false)
 | some (.a (.one (.sym z)))=>some (.i64,z,true)
 | some (.a (.one (.sml k z)))=>some (k,z,true)
 | _=>none
theorem Zbi {D:Den} {ρ:Nm} {w:World} {x:SV} {k:IntKind} {z:Int} {b:Bool} {v:Value} (h:intOf (some x)=some (k,z,b)) (hv:denV D ρ w x v):v=.int k z:=by
 unfold intOf at h;split at h
 ·rename_i k' n e
  cases h;cases e;simpa using hv.1
 ·rename_i z' e
  cases h;cases e;simpa[denV,denA,denU]using hv
 ·rename_i k' z' e
  cases h;cases e;simpa[denV,denA,denU]using hv
 ·cases h
def mkI (k:IntKind) (z:Int):SV:=
 match k with
 | .i64=>.a (.one (.sym z))
 | k=>.a (.one (.sml k z))
theorem Zff {D:Den} {ρ:Nm} {w:World} (k:IntKind) (z:Int):denV D ρ w (mkI k z) (.int k z):=by
 cases k<;>rfl
def inK (k:IntKind) (z:Int):Prop:=
 match k with
 | .i64=>inR z
 | k=>k.wrap z=z
theorem Zk3 {k:IntKind} {z:Int} (h:inK k z):k.wrap z=z:=by
 cases k<;>first|exact Zn3 h|exact h
def arith (op:BinOp) (k:IntKind) (a b:Int):Option (SV×List Prop):=
 match op with
 | .add=>some (mkI k (a+b),[inK k (a+b)])
 | .sub=>some (mkI k (a-b),[inK k (a-b)])
 | .mul=>some (mkI k (a*b),[inK k (a*b)])
 | .quo=>some (mkI k (a.tdiv b),[b≠0,inK k (a.tdiv b)])
 | .rem=>some (mkI k (a.tmod b),[b≠0])
 | .eql=>some (.a (.one (.tst (a==b))),[])
 | .neq=>some (.a (.one (.tst (a != b))),[])
 | .lss=>some (.a (.one (.tst (decide (a<b)))),[])
 | .leq=>some (.a (.one (.tst (decide (a<=b)))),[])
 | .gtr=>some (.a (.one (.tst (decide (a>b)))),[])
 | .geq=>some (.a (.one (.tst (decide (a>=b)))),[])
 | _=>none
def symS (P:Program) (o:Oper) (get:Operand->Option SV):Option (SV×List Prop):=
 match o.op with
 | .binOp op _ x y _ => match intOf (get x), intOf (get y) with
   | some (k,a,s),some (k',b,s')=>if(s || s')&&decide (k=k') then arith op k a b else none
   | _,_=>none
 | .unOp .neg _ x => match intOf (get x) with
   | some (.i64,a,true)=>some (.a (.one (.sym (0-a))),[inR (0-a)])
   | _=>none
 | .convert src dst x => match intOf (get x) with
   | some (_, a, true) => match P.underlying src, P.underlying dst with
     | some _,some (.int k)=>some (mkI k a,[inK k a])
     | _,_=>none
   | _=>none
 | _=>none
theorem Zu1 {D:Den} {P:Program} {ρ:Nm} {wc w:World} {op:BinOp} {t:TypeId} {x y:Operand} {k:IntKind} {a b:Int} {r:SV} {ps:List Prop} (h:arith op k a b=some (r,ps)) (hp:∀p∈ps,p) :
  ∃v,(do eqGuard op t x y (.int k a) (.int k b);binOp op t (.int k a) (.int k b):Sem Value).run P w=.ok v w∧denV D ρ wc r v:=by
 have hg:∀(s:Sem Value),(do eqGuard op t x y (.int k a) (.int k b);s:Sem Value).run P w=s.run P w:=by
  intro s;unfold eqGuard;cases op<;>rfl
 rw[hg];unfold arith at h;split at h<;>cases h
 ·exact⟨.int k (a+b),by simp[binOp,Op.intArith,Zk3 (hp (inK k (a+b)) Zs)],Zff _ _⟩
 ·exact⟨.int k (a-b),by simp[binOp,Op.intArith,Zk3 (hp (inK k (a-b)) Zs)],Zff _ _⟩
 ·exact⟨.int k (a*b),by simp[binOp,Op.intArith,Zk3 (hp (inK k (a*b)) Zs)],Zff _ _⟩
 ·exact⟨.int k (a.tdiv b),by simp[binOp,Op.intDiv,hp (b≠0) Zs,Zk3 (hp (inK k (a.tdiv b)) Zs)],Zff _ _⟩
 ·exact⟨.int k (a.tmod b),by simp[binOp,Op.intDiv,hp (b≠0) Zs],Zff _ _⟩
 ·exact⟨.bool (a==b),by simp[binOp,Op.intCmp],rfl⟩
 ·exact⟨.bool (a != b),by simp[binOp,Op.intCmp],rfl⟩
 ·exact⟨.bool (decide (a<b)),by simp[binOp,Op.intCmp],rfl⟩
 ·exact⟨.bool (decide (a<=b)),by simp[binOp,Op.intCmp],rfl⟩
 ·exact⟨.bool (decide (a>b)),by simp[binOp,Op.intCmp],rfl⟩
 ·exact⟨.bool (decide (a>=b)),by simp[binOp,Op.intCmp],rfl⟩
theorem Zw7 {D:Den} {P:Program} {ρ:Nm} {wc w:World} {get:Operand->Option SV} {ev:Operand->Value} (hg:∀x z,get x=some z->denV D ρ wc z (ev x)) {o:Oper} {r:SV} {ps:List Prop} (h:symS P o get=some (r,ps)) (hp:∀p∈ps,p) :
  ∃v,(execOp ev o).run P w=.ok (.value v) w∧denV D ρ wc r v:=by
 have ofInt:∀{x:Operand} {k:IntKind} {z:Int} {b:Bool},intOf (get x)=some (k,z,b)->ev x=.int k z:=by
  intro x k z b hx;cases hgx:get x with
  | none=>rw[hgx]at hx;simp[intOf]at hx
  | some s=>rw[hgx]at hx;exact Zbi hx (hg _ _ hgx)
 have viaV:∀{s:Sem Value},(∃v,s.run P w=.ok v w∧denV D ρ wc r v)->∃v,(do pure (Next.value (<-s)):Sem Next).run P w=.ok (.value v) w∧denV D ρ wc r v:=by
  rintro s ⟨v,h1,h2⟩;exact⟨v,by simp only[Yar,h1,Yag,Yau],h2⟩
 unfold symS at h;split at h
 ·rename_i op t x y ty ho
  split at h
  ·rename_i k a s k' b s' ha hb
   split at h
   ·rename_i hkk
    rw[Yam,decide_eq_true_eq]at hkk;obtain⟨_,rfl⟩:=hkk;unfold execOp;rw[ho];refine viaV ?_;rw[ofInt ha,ofInt hb];exact Zu1 h hp
   ·cases h
  ·cases h
 ·rename_i t x ho
  split at h
  ·rename_i a ha
   cases h;unfold execOp;rw[ho];refine viaV ⟨.int .i64 (0-a),?_,rfl⟩;rw[ofInt ha];have:=Zn3 (hp (inR (0-a)) Zs);simp only[Op.unary,Op.intArith,Yau,this]
  ·cases h
 ·rename_i src dst x ho
  split at h
  ·rename_i k0 a ha
   split at h
   ·rename_i ts k hs hd
    cases h;unfold execOp;rw[ho];refine viaV ⟨.int k a,?_,Zff _ _⟩;rw[ofInt ha];have:=Zk3 (hp (inK k a) Zs);simp only[convert,Yar,run_underlying hs,run_underlying hd,Yag,Conv.intToInt,Yau,this]
   ·cases h
  ·cases h
 ·cases h
def unar:List (Option Bool)->Nat×List (Option Bool)
 | some false::r=>((unar r).1+1,(unar r).2)
 | some true::r=>(0,r)
 | r=>(0,r)
def letterOf:Option SV->Option (IntKind×Int)
 | some (.a (.one (.sym z)))=>some (.i64,z)
 | some (.a (.one (.sml k z)))=>some (k,z)
 | _=>none
theorem Zmr {D:Den} {ρ:Nm} {w:World} {x:SV} {k:IntKind} {z:Int} {v:Value} (h:letterOf (some x)=some (k,z)) (hv:denV D ρ w x v):v=.int k z:=by
 unfold letterOf at h;split at h
 ·rename_i z' e
  cases h;cases e;simpa[denV,denA,denU]using hv
 ·rename_i k' z' e
  cases h;cases e;simpa[denV,denA,denU]using hv
 ·cases h
def idxS (P:Program) (o:Oper) (get:Operand->Option SV) (orc:List (Option Bool)):Option (SV×List Prop×List (Option Bool)):=
 match o.op with
 | .index t x ix => match letterOf (get ix) with
   | some (k,z)=>(indexS P t (get x) (some (.a (.one (.val (.int k (unar orc).1)))))).map λr=>(r,[z=((unar orc).1:Int)],(unar orc).2)
   | none=>none
 | .indexAddr t x ix => match letterOf (get ix) with
   | some (k,z)=>(indexAddrS P t (get x) (some (.a (.one (.val (.int k (unar orc).1)))))).map λr=>(r,[z=((unar orc).1:Int)],(unar orc).2)
   | none=>none
 | .call ⟨.builtin .min, ⟨[x, y]⟩, _⟩ => match intOf (get x), intOf (get y), orc with
   | some (k,a,s),some (k',b,s'),some true::r=>if(s || s')&&decide (k=k') then(get x).map λz=>(z,[a<=b],r) else none
   | some (k,a,s),some (k',b,s'),some false::r=>if(s || s')&&decide (k=k') then(get y).map λz=>(z,[b<=a],r) else none
   | _,_,_=>none
 | .call ⟨.builtin .max, ⟨[x, y]⟩, _⟩ => match intOf (get x), intOf (get y), orc with
   | some (k,a,s),some (k',b,s'),some true::r=>if(s || s')&&decide (k=k') then(get y).map λz=>(z,[a<=b],r) else none
   | some (k,a,s),some (k',b,s'),some false::r=>if(s || s')&&decide (k=k') then(get x).map λz=>(z,[b<=a],r) else none
   | _,_,_=>none
 | _=>none
theorem Zw8 {D:Den} {P:Program} {ρ:Nm} {wc w:World} {get:Operand->Option SV} {ev:Operand->Value} (hg:∀x z,get x=some z->denV D ρ wc z (ev x)) {o:Oper} {orc orc':List (Option Bool)} {r:SV} {ps:List Prop} (h:idxS P o get orc=some (r,ps,orc')) (hp:∀p∈ps,p) :
  ∃v,(execOp ev o).run P w=.ok (.value v) w∧denV D ρ wc r v:=by
 have hl:∀{x:Operand} {k:IntKind} {z:Int},letterOf (get x)=some (k,z)->ev x=.int k z:=by
  intro x k z hx;cases hgx:get x with
  | none=>rw[hgx]at hx;simp[letterOf]at hx
  | some s=>rw[hgx]at hx;exact Zmr hx (hg _ _ hgx)
 have viaV:∀{s:Sem Value},(∃v,s.run P w=.ok v w∧denV D ρ wc r v)->∃v,(do pure (Next.value (<-s)):Sem Next).run P w=.ok (.value v) w∧denV D ρ wc r v:=by
  rintro s ⟨v,h1,h2⟩;exact⟨v,by simp only[Yar,h1,Yag,Yau],h2⟩
 have one:∀{k:IntKind} {j:Nat} {v:Value},v=.int k (j:Int)->∀s,some (SV.a (.one (.val (.int k (j:Int)))))=some s->denV D ρ wc s v:=by
  intro k j v e s hs;cases hs;exact⟨by rw[e],by simp[Value.oneCell']⟩
 unfold idxS at h;split at h
 ·rename_i t x ix ho
  split at h
  ·rename_i k z hz
   obtain⟨y,hy,e⟩:=Yad.1 h;cases e;have e1:z=((unar orc).1:Int):=hp _ Zs;have e2:=hl hz;rw[e1]at e2;unfold execOp;rw[ho];exact viaV (Zil (hg x) (one e2) hy)
  ·cases h
 ·rename_i t x ix ho
  split at h
  ·rename_i k z hz
   obtain⟨y,hy,e⟩:=Yad.1 h;cases e;have e1:z=((unar orc).1:Int):=hp _ Zs;have e2:=hl hz;rw[e1]at e2;unfold execOp;rw[ho];exact viaV (Zd3 (hg x) (one e2) hy)
  ·cases h
 ·rename_i x y ts ho
  have ofInt:∀{x:Operand} {k:IntKind} {z:Int} {b:Bool},intOf (get x)=some (k,z,b)->ev x=.int k z:=by
   intro x k z b hx;cases hgx:get x with
   | none=>rw[hgx]at hx;simp[intOf]at hx
   | some s=>rw[hgx]at hx;exact Zbi hx (hg _ _ hgx)
  have run:∀{k:IntKind} {a b:Int},ev x=.int k a->ev y=.int k b->(execOp ev o).run P w=.ok (.value (.int k (if b<a then b else a))) w:=by
   intro k a b e1 e2;unfold execOp;simp only[ho,resolve,Yar,Yau,Yag,invoke,builtin,Builtin.min_,Yev,Ybz,Yfp,e1,e2];rfl
  split at h
  ·rename_i k a s k' b s' r' hx hy
   split at h
   ·rename_i hc
    rw[Yam,decide_eq_true_eq]at hc;obtain⟨_,rfl⟩:=hc;obtain⟨z,hz,e⟩:=Yad.1 h;cases e;have hab:a<=b:=hp _ Zs;refine⟨_,run (ofInt hx) (ofInt hy),?_⟩;rw[if_neg Zo,<-ofInt hx];exact hg _ _ hz
   ·cases h
  ·rename_i k a s k' b s' r' hx hy
   split at h
   ·rename_i hc
    rw[Yam,decide_eq_true_eq]at hc;obtain⟨_,rfl⟩:=hc;obtain⟨z,hz,e⟩:=Yad.1 h;cases e;have hab:b<=a:=hp _ Zs;refine⟨_,run (ofInt hx) (ofInt hy),?_⟩;have e3:(if b<a then b else a)=b:=by split<;>omega
    rw[e3,<-ofInt hy];exact hg _ _ hz
   ·cases h
  ·cases h
 ·rename_i x y ts ho
  have ofInt:∀{x:Operand} {k:IntKind} {z:Int} {b:Bool},intOf (get x)=some (k,z,b)->ev x=.int k z:=by
   intro x k z b hx;cases hgx:get x with
   | none=>rw[hgx]at hx;simp[intOf]at hx
   | some s=>rw[hgx]at hx;exact Zbi hx (hg _ _ hgx)
  split at h
  ·rename_i k a s k' b s' r' hx hy
   split at h
   ·rename_i hc
    rw[Yam,decide_eq_true_eq]at hc;obtain⟨_,rfl⟩:=hc;obtain⟨z,hz,e⟩:=Yad.1 h;cases e;have hab:a<=b:=hp _ Zs;have hrun:(execOp ev o).run P w=.ok (.value (.int k (if b>a then b else a))) w:=by
     unfold execOp;simp only[ho,resolve,Yar,Yau,Yag,invoke,builtin,Builtin.max_,Yev,Ybz,Yfp,ofInt hx,ofInt hy];rfl
    refine⟨_,hrun,?_⟩;have e3:(if b>a then b else a)=b:=by split<;>omega
    rw[e3,<-ofInt hy];exact hg _ _ hz
   ·cases h
  ·rename_i k a s k' b s' r' hx hy
   split at h
   ·rename_i hc
    rw[Yam,decide_eq_true_eq]at hc;obtain⟨_,rfl⟩:=hc;obtain⟨z,hz,e⟩:=Yad.1 h;cases e;have hab:b<=a:=hp _ Zs;have hrun:(execOp ev o).run P w=.ok (.value (.int k (if b>a then b else a))) w:=by
     unfold execOp;simp only[ho,resolve,Yar,Yau,Yag,invoke,builtin,Builtin.max_,Yev,Ybz,Yfp,ofInt hx,ofInt hy];rfl
    refine⟨_,hrun,?_⟩;have e3:(if b>a then b else a)=a:=by split<;>omega
    rw[e3,<-ofInt hx];exact hg _ _ hz
   ·cases h
  ·cases h
 ·cases h
def rngOf:Option SV->Option (FuncId×List SA×List (Nat×Nat))
 | some (.a (.one (.clo gf caps)))=>some (gf,[],caps)
 | some (.a (.one (.bnd gf g l)))=>some (gf,[bndA g l],[])
 | _=>none
theorem Zn4 {D:Den} {ρ:Nm} {w:World} {y:Option SV} {gf:FuncId} {fs:List SA} {caps:List (Nat×Nat)} (h:rngOf y=some (gf,fs,caps)) {v:Value} (hv:∀x,y=some x->denV D ρ w x v) :
  ∃us vs:List Value,v=.func (.func gf) us.toArray vs.toArray∧denAs D ρ w fs us∧adrs ρ caps vs:=by
 unfold rngOf at h;split at h
 ·cases h
  obtain⟨vs,hvs,e⟩:=hv _ rfl;exact⟨[],vs,by simpa using e,rfl,hvs⟩
 ·cases h
  obtain⟨u,e,hu⟩:=hv _ rfl;exact⟨[u],[],by simpa using e,⟨u,[],rfl,hu.up,rfl⟩,rfl⟩
 ·cases h
def callOf (P:Program) (o:Oper) (get:Operand->Option SV):Option (FuncId×List SA):=
 match o.op with
 | .call c => match c.callee with
   | .value fv => match rngOf (get fv), sargs get c.args.toList with
     | some (f,fs,caps),some args=>if entersB P f then some (f,fs++(args++capsA caps)) else none
     | _,_=>none
   | _=>none
 | _=>none
def yldOf (o:Oper) (get:Operand->Option SV):Option (Nat×List SA):=
 match o.op with
 | .call c => match c.callee with
   | .value fv => match get fv, sargs get c.args.toList with
     | some (.a (.one (.yld k))),some args=>some (k,args)
     | _,_=>none
   | _=>none
 | _=>none
def panOf (o:Oper) (get:Operand->Option SV):Option Value:=
 match o.op with
 | .panic x => match (get x).bind realV with
   | some (.iface t v)=>some (.iface t v)
   | _=>none
 | .call ⟨.builtin .panic, ⟨[x]⟩, _⟩ => match (get x).bind realV with
   | some (.iface t v)=>some (.iface t v)
   | _=>none
 | _=>none
def isDefer (o:Oper):Bool:=
 match o.op with
 | .defer _=>true
 | _=>false
def tmin (a b:Nat):Nat:=bif Nat.ble a b then a else b
theorem Zms (a b:Nat):tmin a b<=b:=by
 unfold tmin;cases h:Nat.ble a b with
 | true=>exact Yaa h
 | false=>exact Yab _
def retS (r:OpR):OpR:=⟨(fixB r.v r.orc).1,r.wr,r.obl++(fixB r.v r.orc).2.1,(fixB r.v r.orc).2.2,r.c,r.th,r.pan⟩
def opS (P : Program) (cs : CallS) (ys : YEnv) (o : Oper) (get : Operand -> Option SV) (bk : List (Nat × Blk)) (th c : Nat) (orc : List (Option Bool)) : Option (OpR × Bool) :=
 if isDefer o then none else
 match cs.op o get with
 | some x=>some (⟨x,[],[],orc,c,th,none⟩,false)
 | none=>
 match callOf P o get with
 | some (f, args) => if bk.all (λp => Nat.blt p.1 c) then (match cs.call ys f args bk c (tmin th c) orc with
   | some r=>if Nat.ble c r.c then some (retS r,true) else none
   | none=>none) else none
 | none => match yldOf o get with
   | some (k, args) => match ys.look k with
     | some h => if bk.all (λp => Nat.blt p.1 c) then (match h args bk c (tmin th c) orc with
       | some r=>if Nat.ble c r.c then some (retS r,true) else none
       | none=>none) else none
     | none=>none
   | none => match panOf o get with
     | some p=>some (⟨.no,bk,[],orc,c,th,some p⟩,false)
     | none => match idxS P o get orc with
      | some (x,ps,orc')=>some (⟨x,[],ps,orc',c,th,none⟩,false)
      | none=>match symS P o get with
       | some (x,ps)=>some (⟨(fixB x orc).1,[],ps++(fixB x orc).2.1,(fixB x orc).2.2,c,th,none⟩,false)
       | none => match effS P o get bk th c with
         | some (x,wr,c')=>if Nat.ble c c' then some (⟨x,wr,[],orc,c',th,none⟩,false) else none
         | none=>none
theorem Zcy {α:Type} {l:List (Nat×α)} {c:Nat} (h:l.all (λp=>Nat.blt p.1 c)=true):∀k b,l.look k=some b->k<c:=by
 induction l with
 | nil=>intro k b hk;simp at hk
 | cons p r ih =>
   obtain⟨k',x⟩:=p;intro k b hk;rw[List.all_cons,Yam]at h;rw[Zaq]at hk;split at hk
   ·rename_i e
    subst e;exact of_eq_true (by rw[<-Nat.blt_eq];simpa using h.1)
   ·exact ih h.2 k b hk
theorem Sat.reth {D:Den} {w0:World} {X:Nat->Prop} {th t:Nat} {ρ:Nm} {wc w:World} {bk:List (Nat×Blk)} (h:Sat D w0 X th ρ wc w bk) (hf:∀k b,bk.look k=some b->k<t):Sat D w0 X t ρ wc w bk:=
 ⟨h.fr,h.ext,h.inj,h.lt,λk b hk=>let ⟨B,cs,h1,h2,h3,h4,_,h6⟩:=h.box k b hk;⟨B,cs,h1,h2,h3,h4,λ_ hh=>absurd hh (Nat.not_le.2 (hf k b hk.1)),h6⟩⟩
theorem Sat.tmin {D:Den} {w0:World} {X:Nat->Prop} {th c:Nat} {ρ:Nm} {wc w:World} {bk:List (Nat×Blk)} (h:Sat D w0 X th ρ wc w bk) (hf:∀k b,bk.look k=some b->k<c):Sat D w0 X (tmin th c) ρ wc w bk:=by
 unfold Go.Ex.tmin;cases hb:Nat.ble th c with
 | true=>exact h
 | false=>exact h.reth hf
theorem YOk.at {D:Den} {P:Program} {w0:World} {X:Nat->Prop}:∀{bd:Nat} {ys:YEnv} {ρ:Nm} {wc w:World} {k:Nat} {h:YS},YOk D P w0 X bd ys ρ wc w->ys.look k=some h->
  ∃B,ρ k=some B∧∀args bk c th orc r,h args bk c th orc=some r->(∀p∈r.obl,p)->∀vals,Sat D w0 X th ρ wc w bk->(∀j x,bk.look j=some x->j<c)->th<=c->
    (∀j,c<=j->j<r.c->ρ j=none)->denAs D ρ wc args vals->
    ∃fn tmps assign body,(Instr.yield B.blk vals.toArray).run P w=.ok (.round B.blk fn tmps assign body) w∧
      RoundIn (WF none) 0 P B.blk fn tmps assign body w (Post D w0 X ρ wc w bk c r)
 | _, (k', h') :: ys, ρ, wc, w, k, h, ⟨B, lp, h2, h3, _, _, h1, h4⟩, hk => by
   rw[Zaq]at hk;split at hk
   ·rename_i e
    cases hk;subst e;refine⟨B,h2,λargs bk c th orc r hh ho vals g1 g2 g3 g4 g5=>?_⟩;obtain⟨fn,tmps,assign,body,q1,q2⟩:=h4 args bk c th orc r hh ho ρ wc w vals (Nm.le.refl _) (Ext.refl _) g1 h1 g2 g3 g4 g5 h3;exact⟨fn,tmps,assign,body,q1,q2.mono λe w' hp=>hp.1⟩
   ·exact YOk.at h1 hk
section
variable {D:Den} {P:Program} {w0:World} {X:Nat->Prop} {th:Nat} {ρ:Nm} {wc w:World} {bk bkR:List (Nat×Blk)} {c:Nat} {get:Operand->Option SV} {a:Act} {cs:CallS} {ys:YEnv}
theorem Zk4 {o:Oper} {orc:List (Option Bool)} {r:OpR} {cl:Bool} (he:opS P cs ys o get bkR th c orc=some (r,cl)):c<=r.c:=by
 unfold opS at he;split at he
 ·cases he
 ·split at he
  ·cases he
   exact Yab _
  split at he
  ·split at he
   ·split at he
    ·split at he
     ·rename_i h
      cases he;exact Yaa h
     ·cases he
    ·cases he
   ·cases he
  ·split at he
   ·split at he
    ·split at he
     ·split at he
      ·split at he
       ·rename_i h
        cases he;exact Yaa h
       ·cases he
      ·cases he
     ·cases he
    ·cases he
   ·split at he
    ·cases he
     exact Yab _
    ·split at he
     ·cases he
      exact Yab _
     split at he
     ·cases he
      exact Yab _
     ·split at he
      ·split at he
       ·rename_i h
        cases he;exact Yaa h
       ·cases he
      ·cases he
theorem Zn5 (hcs:CallOk D P w0 X cs) {bd:Nat} (hy:YOk D P w0 X bd ys ρ wc w) (h:Sat D w0 X th ρ wc w bk) (hs:Sub bkR bk) (hg:∀x z,get x=some z->denV D ρ wc z (a.eval x)) {o:Oper} {orc:List (Option Bool)} {r:OpR} {cl:Bool}
  (he:opS P cs ys o get bkR th c orc=some (r,cl)) (hobl:∀p∈r.obl,p) (hn:∀k,c<=k->k<r.c->ρ k=none) {G:List (Nat×Blk)} {th':Nat} {ro:Option Nat} {n:Nat}
  (hcl:cl=true->(∀k b,bkR.look k=some b->k<c)->∀ρ' wc' w',Sat D w0 X r.th ρ' wc' w' (r.fin bkR)->Evo ρ wc w bkR c r.c ρ' wc' w' (r.fin bkR)->Sat D w0 X th' ρ' wc' w' G∧Evo ρ wc w bk c r.c ρ' wc' w' G)
  (hpl:cl=false->r.th=th->th'=th∧((r.pan=none∧G=r.wr++bk)∨(r.pan≠none∧(r.wr=bkR->Sub' G bk))))
  {K:Act->World->Prop} {Q:Exit->Act->World->Prop}
  (hK:r.pan=none->∀ρ' wc' w' v,denV D ρ' wc' r.v v->Sat D w0 X th' ρ' wc' w' G->Evo ρ wc w bk c r.c ρ' wc' w' G->K (a.put o.dst v) w')
  (hP:∀p,r.pan=some p->∀ρ' wc' w',Sat D w0 X th' ρ' wc' w' G->Evo ρ wc w bk c r.c ρ' wc' w' G->Q (.panic [{v:=p,recovered:=false}]) a w'):o.wpIn (WF ro) n P a w K Q:=by
 refine⟨λ_ _=>trivial,?_⟩;unfold opS at he;split at he
 ·cases he
 rename_i hdf;rw[Oper.semAt_eq _ _ _ (λc hc=>by rw[isDefer,hc]at hdf;simp at hdf)]
 have fin:∀{r':OpR} {e:Ending} {w':World},r=retS r'->(∀ρ' wc' w',Sat D w0 X r'.th ρ' wc' w' (r'.fin bkR)->Evo ρ wc w bkR c r'.c ρ' wc' w' (r'.fin bkR)->Sat D w0 X th' ρ' wc' w' G∧Evo ρ wc w bk c r'.c ρ' wc' w' G)->Post D w0 X ρ wc w bkR c r' e w'->
   (match e,w' with
    | .returned v,w''=>K (a.put o.dst v) w''
    | .panicked chain,w''=>Q (.panic chain) a w''
    | .outgrown,_=>LetsOut Q):=by
  intro r' e w' hr hm ⟨v,ρ',wc',hend,hv,hS,hE⟩;subst hr;obtain⟨k1,k2⟩:=hm ρ' wc' w' hS hE;unfold OpR.ends at hend;split at hend
  ·rename_i hp
   subst hend;exact hK hp ρ' wc' w' v (Zrl (λp hp=>hobl p (Ydv _ hp)) hv) k1 k2
  ·rename_i p hp
   subst hend;exact hP p hp ρ' wc' w' k1 k2
 split at he
 ·rename_i x hx
  obtain⟨rfl,rfl⟩:(⟨x,[],[],orc,c,th,none⟩:OpR)=r∧false=cl:=by simpa using he
  obtain⟨rfl,hG⟩:=hpl rfl rfl;obtain rfl:G=bk:=by
   rcases hG with ⟨_,h2⟩|⟨h2,_⟩
   ·exact h2
   ·exact absurd rfl h2
  obtain⟨v,h1,h2⟩:=hcs.op o get x hx ρ wc w a.eval h.fr hg;rw[h1,Oper.uponIn_value];exact hK rfl ρ wc w v h2 h (Evo.refl _ _ _ _ _)
 split at he
 ·rename_i f args hcall
  split at he
  ·rename_i hall
   split at he
   ·rename_i r' hr
    split at he
    ·rename_i hle
     obtain⟨rfl,rfl⟩:retS r'=r∧true=cl:=by simpa using he
     have hlt:=Zcy hall;unfold callOf at hcall;split at hcall
     ·rename_i cc ho
      split at hcall
      ·rename_i fv hcal
       split at hcall
       ·rename_i gf fs caps sa hfv hsa
        split at hcall
        ·rename_i hen
         obtain⟨rfl,rfl⟩:gf=f∧fs++(sa++capsA caps)=args:=by simpa using hcall
         obtain⟨us,vs,e2,hus,hvs⟩:=Zn4 hfv (hg fv);have hargs:=hus.append ((Zjh hg hsa).append (Zgb (D:=D) (w:=wc) hvs));have hx:(execOp a.eval o).run P w=.ok (.enter gf (us++(cc.args.toList.map a.eval++vs)).toArray) w:=by
          unfold execOp;simp only[ho,resolve,hcal,Deferred.ofValue,e2,Yar,Yau,Yag,invoke];rw[Zfe hen];congr 2
          apply Yee.1;simp
         rw[hx,Oper.uponIn_enter];refine⟨(λhh=>by cases hh),callsIn_WF.2 ((hcs.call _ _ _ _ _ _ _ _ hr (λp hp=>hobl p (Ycy _ hp)) bd ρ wc w _ ((h.sub hs).tmin hlt) hy hlt (Zms _ _) hn hargs).mono ?_)⟩;intro e w' hp;exact fin rfl (hcl rfl hlt) hp
        ·cases hcall
       ·cases hcall
      ·cases hcall
     ·cases hcall
    ·cases he
   ·cases he
  ·cases he
 ·split at he
  ·rename_i k args hyl
   split at he
   ·rename_i hd hhd
    split at he
    ·rename_i hall
     split at he
     ·rename_i r' hr
      split at he
      ·rename_i hle
       obtain⟨rfl,rfl⟩:retS r'=r∧true=cl:=by simpa using he
       have hlt:=Zcy hall;unfold yldOf at hyl;split at hyl
       ·rename_i cc ho
        split at hyl
        ·rename_i fv hcal
         split at hyl
         ·rename_i k' sa hfv hsa
          obtain⟨rfl,rfl⟩:k'=k∧sa=args:=by simpa using hyl
          obtain⟨B,hB,e1⟩:=hg _ _ hfv;have e2:a.eval fv=.func (.yield B.blk) #[] #[]:=by simpa using e1
          have hargs:=Zjh (D:=D) (wc:=wc) hg hsa;obtain⟨B',hB',hround⟩:=hy.at hhd;cases hB.symm.trans hB';obtain⟨fn,tmps,assign,body,q1,q2⟩:=hround _ _ _ _ _ _ hr (λp hp=>hobl p (Ycy _ hp)) _ ((h.sub hs).tmin hlt) hlt (Zms _ _) hn hargs;have hx:(execOp a.eval o).run P w=.ok (.round B.blk fn tmps assign body) w:=by
           rw[<-q1];unfold execOp;simp only[ho,resolve,hcal,Deferred.ofValue,e2,Yar,Yau,Yag,invoke];congr 2
           apply Yee.1;simp
          rw[hx,Oper.uponIn_round];refine⟨(λhh=>by cases hh),?_⟩;refine RoundIn.mono (F:=WF ro) (R:=Post D w0 X ρ wc w bkR c r') ⟨trivial,λc' cs' hroom=>?_⟩ λe w' hp=>fin rfl (hcl rfl hlt) hp;exact q2.2 c' cs' (λd hd=>by cases hd)
         ·cases hyl
        ·cases hyl
       ·cases hyl
      ·cases he
     ·cases he
    ·cases he
   ·cases he
  ·split at he
   ·rename_i p hpan
    obtain⟨rfl,rfl⟩:(⟨.no,bkR,[],orc,c,th,some p⟩:OpR)=r∧false=cl:=by simpa using he
    obtain⟨rfl,hG⟩:=hpl rfl rfl;have hG:Sub' G bk:=by
     rcases hG with ⟨h1,_⟩|⟨_,h2⟩
     ·cases h1
     ·exact h2 rfl
    have real:∀{x:Operand} {u:Value},(get x).bind realV=some u->a.eval x=u:=by
     intro x u hx;obtain⟨z,hz,hr⟩:=Ybg.1 hx;exact Zgs hr (hg _ _ hz)
    have hrun:(execOp a.eval o).run P w=.halt (.panic p) w:=by
     unfold panOf at hpan;split at hpan
     ·rename_i x ho
      split at hpan
      ·rename_i t v hx
       cases hpan;unfold execOp;simp only[ho,real hx];rfl
      ·cases hpan
     ·rename_i x ts ho
      split at hpan
      ·rename_i t v hx
       cases hpan;unfold execOp;simp only[ho,resolve,Yar,Yau,Yag,invoke,builtin,Yev,Ybz,Yfp,real hx];rfl
      ·cases hpan
     ·cases hpan
    rw[hrun,Oper.uponIn_panic];exact hP p rfl ρ wc w (h.sub' hG) ((Evo.refl ρ wc w bk c).sub' hG)
   ·split at he
    ·rename_i x ps orc' hidx
     obtain⟨rfl,rfl⟩:(⟨x,[],ps,orc',c,th,none⟩:OpR)=r∧false=cl:=by simpa using he
     obtain⟨rfl,hG⟩:=hpl rfl rfl;obtain rfl:G=bk:=by
      rcases hG with ⟨_,h2⟩|⟨h2,_⟩
      ·exact h2
      ·exact absurd rfl h2
     obtain⟨v,h1,h2⟩:=Zw8 (P:=P) (w:=w) hg hidx hobl;rw[h1,Oper.uponIn_value];exact hK rfl ρ wc w v h2 h (Evo.refl _ _ _ _ _)
    split at he
    ·rename_i x ps hsym
     obtain⟨rfl,rfl⟩:(⟨(fixB x orc).1,[],ps++(fixB x orc).2.1,(fixB x orc).2.2,c,th,none⟩:OpR)=r∧false=cl:=by simpa using he
     obtain⟨rfl,hG⟩:=hpl rfl rfl;obtain rfl:G=bk:=by
      rcases hG with ⟨_,h2⟩|⟨h2,_⟩
      ·exact h2
      ·exact absurd rfl h2
     obtain⟨v,h1,h2⟩:=Zw7 (P:=P) (w:=w) hg hsym (λp hp=>hobl p (Ycy _ hp));rw[h1,Oper.uponIn_value];exact hK rfl ρ wc w v (Zrl (λp hp=>hobl p (Ydv _ hp)) h2) h (Evo.refl _ _ _ _ _)
    ·split at he
     ·rename_i x wr c' heff
      split at he
      ·obtain⟨rfl,rfl⟩:(⟨x,wr,[],orc,c',th,none⟩:OpR)=r∧false=cl:=by simpa using he
       obtain⟨rfl,hG⟩:=hpl rfl rfl;obtain rfl:G=wr++bk:=by
        rcases hG with ⟨_,h2⟩|⟨h2,_⟩
        ·exact h2
        ·exact absurd rfl h2
       obtain⟨nx,v,w',ρ',hrun,hnx,hv,k1,k2⟩:=Zw6 h hs hg heff hn;rw[hrun];rcases hnx with rfl|⟨rfl,rfl⟩
       ·exact hK rfl ρ' wc w' v hv k1 k2
       ·exact hK rfl ρ' wc w' undef hv k1 k2
      ·cases he
     ·cases he
end
/-! ### slots -/
def putT (tm:List (Nat×SV)) (d:Option Tmp) (x:SV):List (Nat×SV):=
 match d with
 | some t=>(t,x)::tm
 | none=>tm
def dstOk (n:Nat) (d:Option Tmp):Bool:=
 match d with
 | some t=>Nat.blt t n
 | none=>true
theorem TSat.put {D:Den} {ρ:Nm} {w:World} {n:Nat} {tm:List (Nat×SV)} {a:Act} (h:TSat D ρ w n tm a) {d:Option Tmp} (hd:dstOk n d=true) {x:SV} {v:Value} (hv:denV D ρ w x v) :
  TSat D ρ w n (putT tm d x) (a.put d v):=by
 cases d with
 | none=>exact h
 | some t =>
   have ht:t<a.tmps.size:=by rw[h.size];exact Nat.blt_eq▸(show Nat.blt t n=true from hd)
   refine⟨by simp[Act.put,h.size],λs y hs=>?_⟩;unfold putT at hs;dsimp only at hs;rw[Zaq]at hs;show ∃v',(a.tmps.setIfInBounds t v)[s]? = some v'∧_;by_cases e:s=t
   ·rw[if_pos e]at hs
    cases hs;subst e;exact⟨v,by simp[ht],hv⟩
   ·rw[if_neg e]at hs
    obtain⟨v',h1,h2⟩:=h.at_ s y hs;exact⟨v',by rw[Array.getElem?_setIfInBounds,if_neg (λh=>e h.symm)];exact h1,h2⟩
def wantS (ops:Array Oper) (o:Oper) (tm:List (Nat×SV)) (orc:List (Option Bool)):Option (Bool×List Prop×List (Option Bool)):=
 match o.guard with
 | none=>some (true,[],orc)
 | some (j, want) => match (ops[j]?).bind (·.dst) with
   | some d => match tm.look d with
     | some (.a (.one (.val (.bool b))))=>some (b==want,[],orc)
     | some (.tup _)=>some (false,[],orc)
     | _=>none
   | none=>none
theorem Zeq {D:Den} {ρ:Nm} {w:World} {n:Nat} {tm:List (Nat×SV)} {a:Act} (h:TSat D ρ w n tm a) {ops:Array Oper} {o:Oper} {orc orc':List (Option Bool)} {b:Bool} {ps:List Prop}
  (hw:wantS ops o tm orc=some (b,ps,orc')) (hps:∀p∈ps,p):Region.wanted o (yielded ops a.tmps)=b:=by
 unfold wantS at hw;unfold Region.wanted;split at hw
 ·rename_i hg
  cases hw;rw[hg]
 ·rename_i j want hg
  rw[hg];dsimp only;split at hw
  ·rename_i d hd
   split at hw
   ·rename_i b' hb
    obtain⟨v,hv,hden⟩:=h.at_ d _ hb;have hvb:v=.bool b':=by simpa using hden.1
    subst hvb;cases hw;unfold yielded;rw[hd,Yfq,hv];cases b'<;>cases want<;>rfl
   ·rename_i l hb
    cases hw;obtain⟨v,hv,vs,rfl,_⟩:=h.at_ d _ hb;unfold yielded;rw[hd,Yfq,hv];rfl
   ·cases hw
  ·cases hw
end
section
inductive DF where
 | clo (f:FuncId) (caps:List (Nat×Nat))
 | col (k:Nat)
structure Stt where
 tm:List (Nat×SV)
 bk:List (Nat×Blk)
 c:Nat
 th:Nat
 orc:List (Option Bool)
 df:List DF
def DfOk (P:Program) (m:Nat) (ρ:Nm) (w:World):List DF->List Deferred->Prop
 | [],ds=>ds=[]
 | .clo f caps::r,ds=>∃(vs:List Value) (d:List Deferred),ds = {target:=.fn (.func f) vs.toArray,args:=#[]}::d∧adrs ρ caps vs∧entersB P f=true∧DfOk P m ρ w r d
 | .col k::r,ds=>∃(B:Pl) (d:List Deferred),ds = {target:=.collected B.blk,args:=#[]}::d∧ρ k=some B∧m<=B.blk∧(∀x∈d,∀b,x.target=.collected b->b<B.blk)∧w.heap[B.blk]? = some (Obj.deferred (some []))∧DfOk P m ρ w r d
theorem DfOk.step {P:Program} {m:Nat} {ρ ρ':Nm} {w w':World} (hr:ρ.le ρ') :
  ∀{df:List DF} {ds:List Deferred},(∀l:Nat,(∃x∈ds,x.target=.collected l)->w.heap[l]? = some (Obj.deferred (some []))->w'.heap[l]? = some (Obj.deferred (some [])))->DfOk P m ρ w df ds->DfOk P m ρ' w' df ds
 | [],ds,hl,h=>h
 | .clo f caps :: r, ds, hl, ⟨vs, d, h1, h2, h3, h4⟩ => by
   subst h1;exact⟨vs,d,rfl,h2.mono hr,h3,h4.step hr λl ⟨x,hx,e⟩=>hl l ⟨x,Ybs _ hx,e⟩⟩
 | .col k :: r, ds, hl, ⟨B, d, h1, h2, hm, hb, h3, h4⟩ => by
   subst h1;exact⟨B,d,rfl,hr k B h2,hm,hb,hl _ ⟨_,Ycl ..,rfl⟩ h3,h4.step hr λl ⟨x,hx,e⟩=>hl l ⟨x,Ybs _ hx,e⟩⟩
theorem DfOk.low {P:Program} {m N:Nat} {ρ:Nm} {w:World} (hN:∀k B,ρ k=some B->B.blk<N):∀{df:List DF} {ds:List Deferred},DfOk P m ρ w df ds->∀x∈ds,∀b,x.target=.collected b->b<N
 | [],ds,h,x,hx,b,e=>by rw[show ds=[] from h]at hx;cases hx
 | .clo f caps :: r, ds, ⟨vs, d, h1, h2, h3, h4⟩, x, hx, b, e => by
   rw[h1]at hx;rcases Ycp.1 hx with rfl|hx
   ·cases e
   ·exact h4.low hN x hx b e
 | .col k :: r, ds, ⟨B, d, h1, h2, hm, hb, h3, h4⟩, x, hx, b, e => by
   rw[h1]at hx;rcases Ycp.1 hx with rfl|hx
   ·cases e;exact hN k B h2
   ·exact h4.low hN x hx b e
theorem DfOk.evo {D:Den} {P:Program} {w0:World} {X:Nat->Prop} {th:Nat} {ρ ρ':Nm} {wc w wc' w':World} {bk bk':List (Nat×Blk)} {c c':Nat} {df:List DF} {ds:List Deferred} {m:Nat} (h:DfOk P m ρ w df ds)
  (hS:Sat D w0 X th ρ wc w bk) (e:Evo ρ wc w bk c c' ρ' wc' w' bk'):DfOk P m ρ' w' df ds:=
 h.step e.rho λl _ hl=>hS.stays e hl rfl
def deferOf (P:Program) (o:Oper) (get:Operand->Option SV):Option DF:=
 match o.op with
 | .defer c => match c.callee, c.args.toList with
   | .value fv, [] => match get fv with
     | some (.a (.one (.clo f caps)))=>if entersB P f then some (.clo f caps) else none
     | _=>none
   | _,_=>none
 | _=>none
def exP:Option Value->Exit
 | none=>.normal
 | some p=>.panic [{v:=p,recovered:=false}]
def seqS (P:Program) (cs:CallS) (ys:YEnv) (rd:Bool) (ops:Array Oper) (n:Nat):List Oper->Stt->Option (Stt×List Prop×Option Value)
 | [],s=>some (s,[],none)
 | o :: rest, s => match wantS ops o s.tm s.orc with
   | some (true, ps, orc) => if dstOk n o.dst then (match deferOf P o (getS s.tm) with
     | some d => if rd then none else (match seqS P cs ys rd ops n rest ⟨putT s.tm o.dst (.tup []), s.bk, s.c, s.th, orc, d :: s.df⟩ with
       | some (s',q,p)=>some (s',ps++q,p)
       | none=>none)
     | none => (match opS P cs ys o (getS s.tm) s.bk s.th s.c orc with
       | some (r, _) => (match r.pan with
         | some p=>some (⟨s.tm,r.wr,r.c,r.th,r.orc,s.df⟩,ps++r.obl,some p)
         | none => (match seqS P cs ys rd ops n rest ⟨putT s.tm o.dst r.v, r.wr ++ s.bk, r.c, r.th, r.orc, s.df⟩ with
           | some (s',q,p)=>some (s',ps++(r.obl++q),p)
           | none=>none))
       | none=>none)) else none
   | some (false, ps, orc) => if dstOk n o.dst then (match seqS P cs ys rd ops n rest ⟨putT s.tm o.dst (.tup []), s.bk, s.c, s.th, orc, s.df⟩ with
     | some (s',q,p)=>some (s',ps++q,p)
     | none=>none) else none
   | none=>none
def Goes (D:Den) (P:Program) (w0:World) (X:Nat->Prop) (mm n:Nat) (ρ:Nm) (wc w:World) (s s':Stt) (Q:Act->World->Prop):Prop:=
 ∀ρ' wc' w' a',Sat D w0 X s'.th ρ' wc' w' s'.bk->TSat D ρ' wc' n s'.tm a'->DfOk P mm ρ' w' s'.df a'.defers->Evo ρ wc w s.bk s.c s'.c ρ' wc' w' s'.bk->Q a' w'
section
variable {D:Den} {P:Program} {w0:World} {X:Nat->Prop} {cs:CallS} {ys:YEnv}
theorem Zgv {rd:Bool} {ops:Array Oper} {n:Nat}:∀{l:List Oper} {s s':Stt} {q:List Prop} {p:Option Value},seqS P cs ys rd ops n l s=some (s',q,p)->s.c<=s'.c
 | [],s,s',q,p,h=>by cases h;exact Yab _
 | o :: rest, s, s', q, p, h => by
   unfold seqS at h;split at h
   ·split at h
    ·split at h
     ·split at h
      ·cases h
      ·split at h
       ·rename_i s2 q2 p2 h2
        cases h;have k:=Zgv h2;exact k
       ·cases h
     ·split at h
      ·rename_i r cl hr
       split at h
       ·cases h
        exact Zk4 hr
       ·split at h
        ·rename_i s2 q2 p2 h2
         cases h;exact Yak (Zk4 hr) (Zgv h2)
        ·cases h
      ·cases h
    ·cases h
   ·split at h
    ·split at h
     ·rename_i s2 q2 p2 h2
      cases h;have k:=Zgv h2;exact k
     ·cases h
    ·cases h
   ·cases h
theorem Zgw {ρ:Nm} {w:World}:denV D ρ w (.tup []) undef:=⟨[],rfl,rfl⟩
theorem Zji (hcs : CallOk D P w0 X cs) {bd mm : Nat} {rd : Bool} {ro : Option Nat} (hrd : rd = false -> ro = none) {m : Nat} {ops : Array Oper} {n : Nat} {Q : Exit -> Act -> World -> Prop} : ∀ {l : List Oper} {s s' : Stt} {q : List Prop} {pn : Option Value} {ρ : Nm} {wc w : World} {a : Act},
  seqS P cs ys rd ops n l s=some (s',q,pn)->(∀p∈q,p)->
  Sat D w0 X s.th ρ wc w s.bk->YOk D P w0 X bd ys ρ wc w->TSat D ρ wc n s.tm a->DfOk P mm ρ w s.df a.defers->(∀k,s.c<=k->k<s'.c->ρ k=none)->
  Goes D P w0 X mm n ρ wc w s s' (Q (exP pn))->wpListIn (WF ro) m P ops Q l a w
 | [], s, s', q, pn, ρ, wc, w, a, h, hq, hS, hY, hT, hD, hn, hK => by
   cases h;exact hK ρ wc w a hS hT hD (Evo.refl _ _ _ _ _)
 | o :: rest, s, s', q, pn, ρ, wc, w, a, h, hq, hS, hY, hT, hD, hn, hK => by
   unfold seqS at h;unfold wpListIn;split at h
   ·rename_i ps orc hw
    split at h
    ·rename_i hd
     split at h
     ·rename_i df hdf
      split at h
      ·cases h
      ·rename_i hrd'
       have hro:ro=none:=hrd (by simpa using hrd');subst hro;split at h
       ·rename_i s2 q2 p2 h2
        cases h;rw[if_pos (Zeq hT hw λp hp=>hq p (by simp[hp]))];refine⟨λ_ _=>trivial,?_⟩;unfold deferOf at hdf;split at hdf
        ·rename_i cc ho
         split at hdf
         ·rename_i fv hcal hargs
          split at hdf
          ·rename_i f caps hfv
           split at hdf
           ·rename_i hen
            cases hdf;obtain⟨vs,hvs,e1⟩:=hT.get hfv;have e2:a.eval fv=.func (.func f) #[] vs.toArray:=by simpa using e1
            have hx:(o.semAt none a.eval).run P w=.ok (.defer {target:=.fn (.func f) vs.toArray,args:=#[]}) w:=by
             rw[Oper.semAt_none];unfold execOp;have ha:cc.args = #[]:=by apply Yee.1;rw[hargs]
             simp only[ho,resolve,hcal,Deferred.ofValue,e2,ha,Yar,Yau,Yag];simp
            show Oper.uponIn _ _ _ _ _ _ _ ((o.semAt (WF none).round a.eval).run P w);rw[show(WF none).round=none from rfl,hx,Oper.uponIn_defer];refine Zji (mm:=mm) hcs hrd h2 (λp hp=>hq p (by simp[hp])) hS hY (TSat.put (a:={a with defers:=_::a.defers}) ⟨hT.size,hT.at_⟩ hd Zgw) ?_ hn ?_
            ·have e3:(({a with defers:={target:=.fn (.func f) vs.toArray,args:=#[]}::a.defers}:Act).put o.dst undef).defers = {target:=.fn (.func f) vs.toArray,args:=#[]}::a.defers:=by
              cases o.dst<;>rfl
             rw[e3];exact⟨vs,a.defers,rfl,hvs,hen,hD⟩
            ·intro ρ2 wc2 w2 a2 k1 k2 k3 k4
             exact hK ρ2 wc2 w2 a2 k1 k2 k3 k4
           ·cases hdf
          ·cases hdf
         ·cases hdf
        ·cases hdf
       ·cases h
     ·split at h
      ·rename_i r cl hr
       have hrc:=Zk4 hr;split at h
       ·rename_i p hp
        cases h;rw[if_pos (Zeq hT hw λp hp=>hq p (by simp[hp]))];refine Zn5 (G:=r.fin s.bk) (th':=r.th) hcs hY hS (λk b hk=>hk) (λx z hz=>hT.get hz) hr (λp hp=>hq p (by simp[hp])) hn (λ_ _ _ _ _ h1 h2=>⟨h1,h2⟩) (λ_ ht=>⟨ht,?_⟩) (λhnn=>?_) ?_
        ·refine .inr ⟨by rw[hp];simp,λhw=>?_⟩
         unfold OpR.fin;rw[hp];dsimp only;rw[hw];exact λk b hk=>hk
        ·rw[hp]at hnn;cases hnn
        ·intro p' hp' ρ' wc' w' k1 k2
         rw[hp]at hp';cases hp';have ef:r.fin s.bk=r.wr:=by unfold OpR.fin;rw[hp]
         rw[ef]at k1 k2;exact hK ρ' wc' w' a k1 (hT.mono k2.rho k2.ext) (hD.evo hS k2) k2
       ·rename_i hp
        split at h
        ·rename_i s2 q2 p2 h2
         cases h;have hcc:=Zgv h2;have ef:r.fin s.bk=r.wr++s.bk:=by unfold OpR.fin;rw[hp]
         rw[if_pos (Zeq hT hw λp hp=>hq p (by simp[hp]))];refine Zn5 (G:=r.fin s.bk) (th':=r.th) hcs hY hS (λk b hk=>hk) (λx z hz=>hT.get hz) hr (λp hp=>hq p (by simp[hp])) (λk h1 h2=>hn k h1 (by dsimp only at hcc;omega)) (λ_ _ _ _ _ h1 h2=>⟨h1,h2⟩) (λ_ ht=>⟨ht,.inl ⟨hp,ef⟩⟩) ?_ (λp' hp'=>?_)
         ·intro _ ρ' wc' w' v hv hS' hE
          rw[ef]at hS' hE;refine Zji (mm:=mm) hcs hrd h2 (λp hp=>hq p (by simp[hp])) hS' (hY.evo hS hE) ((hT.mono hE.rho hE.ext).put hd hv) ?_ (λk h1 h2=>?_) ?_
          ·have e3:(a.put o.dst v).defers=a.defers:=by cases o.dst<;>rfl
           rw[e3];exact hD.evo hS hE
          ·dsimp only at h1
           rw[hE.dom k (.inr h1)];exact hn k Zo h2
          ·intro ρ2 wc2 w2 a2 k1 k2 k3 k4
           exact hK ρ2 wc2 w2 a2 k1 k2 k3 (hE.trans k4 hS.named)
         ·rw[hp]at hp';cases hp'
        ·cases h
      ·cases h
    ·cases h
   ·rename_i ps orc hw
    split at h
    ·rename_i hd
     split at h
     ·rename_i s2 q2 p2 h2
      cases h;rw[if_neg (by rw[Zeq hT hw λp hp=>hq p (by simp[hp])];simp)];refine⟨λ_ _=>trivial,?_⟩;refine Zji (mm:=mm) hcs hrd h2 (λp hp=>hq p (by simp[hp])) hS hY (hT.put hd Zgw) ?_ hn ?_
      ·have e3:(a.put o.dst undef).defers=a.defers:=by cases o.dst<;>rfl
       rw[e3];exact hD
      ·intro ρ2 wc2 w2 a2 k1 k2 k3 k4
       exact hK ρ2 wc2 w2 a2 k1 k2 k3 k4
     ·cases h
    ·cases h
   ·cases h
end
/-! ### any order: lists of what was written,by those that came up -/
def accAt {α:Type} (ws:List (List (Nat×α))) (L:Nat->Bool) (l0:List (Nat×α)):Nat->List (Nat×α)
 | 0=>l0
 | m+1=>(if L m then ws.getD m [] else[])++accAt ws L l0 m
section
variable {α:Type} {ws:List (List (Nat×α))} {l0:List (Nat×α)}
abbrev wrote (ws:List (List (Nat×α))) (j k:Nat):Prop:=((ws.getD j []).look k).isSome=true
theorem Zim (x:List (Nat×α)) (L:Nat->Bool):∀m,accAt (x::ws) L l0 (m+1)=accAt ws (λj=>L (j+1)) ((if L 0 then x else[])++l0) m
 | 0=>rfl
 | m + 1 => by
   have ih:=Zim x L m;show(if L (m+1) then(x::ws).getD (m+1) [] else[])++accAt (x::ws) L l0 (m+1)=_;rw[ih];rfl
theorem Zb7 (L:Nat->Bool) (m k:Nat):(accAt ws L l0 (m+1)).look k=if L m=true∧wrote ws m k then(ws.getD m []).look k else(accAt ws L l0 m).look k:=by
 show((if L m then ws.getD m [] else[])++accAt ws L l0 m).look k=_;rw[Zba];unfold wrote;cases hL:L m with
 | false=>simp
 | true =>
   rw[if_pos rfl];generalize ws.getD m []=x;cases hw:x.look k with
   | none=>rw[if_neg Zs];rfl
   | some b=>rw[if_pos ⟨rfl,rfl⟩];rfl
theorem Zn6 {L:Nat->Bool} {i k:Nat} (hi:L i=false) (hlo:∀j,j<i->wrote ws j k->L j=true) (hhi:∀j,i<j->wrote ws j k->L j=false) :
  ∀N,i<=N->(accAt ws L l0 N).look k=(accAt ws (λ_=>true) l0 i).look k:=by
 have lo:∀m,m<=i->(accAt ws L l0 m).look k=(accAt ws (λ_=>true) l0 m).look k:=by
  intro m;induction m with
  | zero=>intro _;rfl
  | succ m ih =>
    intro hm;rw[Zb7,Zb7,ih Zo];by_cases hw:wrote ws m k
    ·rw[if_pos ⟨hlo m Zo hw,hw⟩,if_pos ⟨rfl,hw⟩]
    ·rw[if_neg (λh=>hw h.2),if_neg (λh=>hw h.2)]
 intro N;induction N with
 | zero => intro hN; obtain rfl : i = 0 := by omega
           exact lo 0 Zo
 | succ N ih =>
   intro hN;by_cases he:i=N+1
   ·subst he;exact lo _ (Yab _)
   ·rw[Zb7,if_neg,ih Zo]
    rintro⟨h1,h2⟩;by_cases h3:i=N
    ·subst h3;rw[hi]at h1;cases h1
    ·rw[hhi N Zo h2]at h1;cases h1
theorem Zrm {L:Nat->Bool} {i k:Nat} (hi:L i=false) (hhi:∀j,i<j->wrote ws i k->wrote ws j k->L j=false) :
  ∀N,i<N->(accAt ws (λj=>j==i || L j) l0 N).look k=((ws.getD i []).look k).or ((accAt ws L l0 N).look k):=by
 have lo:∀m,m<=i->(accAt ws (λj=>j==i || L j) l0 m).look k=(accAt ws L l0 m).look k:=by
  intro m;induction m with
  | zero=>intro _;rfl
  | succ m ih =>
    intro hm;have e:(m==i)=false:=by simp;omega
    rw[Zb7,Zb7,ih Zo];simp only[e,Yeo]
 intro N;induction N with
 | zero=>intro h;omega
 | succ N ih =>
   intro hN;by_cases he:i=N
   ·subst he
    rw[Zb7,Zb7,lo i (Yab _),if_neg (show ¬(L i=true∧wrote ws i k) from λh=>by rw[hi]at h;cases h.1)];by_cases hw:wrote ws i k
    ·rw[if_pos ⟨Zs,hw⟩]
     obtain⟨b,hb⟩:=Yct.1 hw;rw[hb];rfl
    ·rw[if_neg (λh=>hw h.2)]
     have:(ws.getD i []).look k=none:=by
      unfold wrote at hw;cases h:(ws.getD i []).look k with
      | none=>rfl
      | some b=>rw[h]at hw;simp at hw
     rw[this];rfl
   ·have e:(N==i)=false:=by simp;omega
    rw[Zb7,Zb7,ih Zo];simp only[e,Yeo];by_cases hw:L N=true∧wrote ws N k
    ·rw[if_pos hw,if_pos hw]
     have:(ws.getD i []).look k=none:=by
      cases h:(ws.getD i []).look k with
      | none=>rfl
      | some b =>
        have:=hhi N Zo (by unfold wrote;rw[h];rfl) hw.2;rw[this]at hw;cases hw.1
     rw[this,Ydd]
    ·rw[if_neg hw,if_neg hw]
end
end
end Go.Ex
