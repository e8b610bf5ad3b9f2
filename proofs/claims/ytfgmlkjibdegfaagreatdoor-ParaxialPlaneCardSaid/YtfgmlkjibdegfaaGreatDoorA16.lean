/- Contracts of package paraxial,and a verified evaluator. Part 16 of 28. No condition beside the row. -/
import Derived.DeepKeys
import Derived.Outline
import Derived.Deep.RegionHeld3
import Derived.Test.YtfgmlkjibdegfaaGreatDoorA02
import Derived.Test.YtfgmlkjibdegfaaGreatDoorA05
import Derived.Test.YtfgmlkjibdegfaaGreatDoorA15
set_option linter.unusedVariables false
set_option linter.unusedSimpArgs false
set_option maxRecDepth 100000
set_option maxHeartbeats 4000000
namespace Go.Mono
open Go.RowKit
def Srf.flds (s:Srf):Array Value:=#[.int .i64 s.kind,.int .i64 s.curv,.int .i64 s.conic,.int .i64 s.curvx,.int .i64 s.conicx,.int .i64 s.order,.int .i64 s.thick,.int .i64 s.semi,.int .i64 s.hole,.int .i64 s.dx,.int .i64 s.dy,.int .i64 s.ax,.int .i64 s.ay,.int .i64 s.az,.int .i64 0,.int .i64 0,.int .i64 s.a0,.int .i64 s.a1,.int .i64 s.a2,.int .i64 s.a3,.int .i64 s.p0,.int .i64 s.p1,.string s.glass]
def Srf.lits (s:Srf):List Lit:=[.int .i64 s.kind,.int .i64 s.curv,.int .i64 s.conic,.int .i64 s.curvx,.int .i64 s.conicx,.int .i64 s.order,.int .i64 s.thick,.int .i64 s.semi,.int .i64 s.hole,.int .i64 s.dx,.int .i64 s.dy,.int .i64 s.ax,.int .i64 s.ay,.int .i64 s.az,.int .i64 0,.int .i64 0,.int .i64 s.a0,.int .i64 s.a1,.int .i64 s.a2,.int .i64 s.a3,.int .i64 s.p0,.int .i64 s.p1,.string s.glass.data.toList]
theorem Zcd {m z:Int} (h:In m z) (hm:m<=1000000000):(Lit.int .i64 z).wf=true:=by
 obtain⟨h1,h2⟩:=h;have e1:IntKind.i64.min = -9223372036854775808:=Zd;have e2:IntKind.i64.max=9223372036854775807:=Zd;simp only[Lit.wf,e1,e2,Yam,decide_eq_true_eq];omega
theorem Zoc {s:Srf} (h:s.ok):s.glass.size<=16:=by
 rcases h.glass with h|h
 ·rw[h];decide
 ·exact h.2.1
end Go.Mono
namespace Go.Proofs.W
open Go.RowKit Go.Mono
theorem Zth (d:Nat) (s:ByteArray) (h:s.size<=16):Tryz.prog.keyLits (d+1) 9 [.string s]=some [.string s.data.toList]:=by
 have hu:Tryz.prog.underlying 9=some .string:=Zk;have:s.size<=maxLen:=Yak h Zd;simp[Program.keyLits,hu,this]
theorem Zj8 (s:Srf) (hs:s.ok):Tryz.prog.keyLits 6 300 s.flds.toList=some s.lits:=by
 have c299:Tryz.prog.cellsOf 300=23:=Zk;have c297:Tryz.prog.cellsOf 298=16:=Zk;have c91:Tryz.prog.cellsOf 90=4:=Zk;have c49:Tryz.prog.cellsOf 49=2:=Zk;have c3:Tryz.prog.cellsOf 3=1:=Zk;have c9:Tryz.prog.cellsOf 9=1:=Zk;have hg:=Zth 4 s.glass (Zoc hs);have w0:(Lit.int .i64 0).wf=true:=Zd;have w_kind:(Lit.int .i64 s.kind).wf=true:=Zcd (m:=4) ⟨by have:=hs.k1;omega,hs.k2⟩ Zo;have w_curv:(Lit.int .i64 s.curv).wf=true:=Zcd hs.curv Zo;have w_conic:(Lit.int .i64 s.conic).wf=true:=Zcd hs.conic Zo;have w_curvx:(Lit.int .i64 s.curvx).wf=true:=Zcd hs.curvx Zo;have w_conicx:(Lit.int .i64 s.conicx).wf=true:=Zcd hs.conicx Zo;have w_order:(Lit.int .i64 s.order).wf=true:=Zcd hs.order Zo;have w_thick:(Lit.int .i64 s.thick).wf=true:=Zcd hs.thick Zo;have w_semi:(Lit.int .i64 s.semi).wf=true:=Zcd (m:=1000000000) ⟨by have:=hs.semi0;omega,hs.semi1⟩ Zo;have w_hole:(Lit.int .i64 s.hole).wf=true:=Zcd (m:=1000000000) ⟨by have:=hs.hole0;omega,hs.hole1⟩ Zo;have w_dx:(Lit.int .i64 s.dx).wf=true:=Zcd hs.dx Zo;have w_dy:(Lit.int .i64 s.dy).wf=true:=Zcd hs.dy Zo;have w_ax:(Lit.int .i64 s.ax).wf=true:=Zcd hs.ax Zo;have w_ay:(Lit.int .i64 s.ay).wf=true:=Zcd hs.ay Zo;have w_az:(Lit.int .i64 s.az).wf=true:=Zcd hs.az Zo;have w_a0:(Lit.int .i64 s.a0).wf=true:=Zcd hs.a0 Zo;have w_a1:(Lit.int .i64 s.a1).wf=true:=Zcd hs.a1 Zo;have w_a2:(Lit.int .i64 s.a2).wf=true:=Zcd hs.a2 Zo;have w_a3:(Lit.int .i64 s.a3).wf=true:=Zcd hs.a3 Zo;have w_p0:(Lit.int .i64 s.p0).wf=true:=Zcd hs.p0 Zo;have w_p1:(Lit.int .i64 s.p1).wf=true:=Zcd hs.p1 Zo;clear hs;have h297:Tryz.prog.keyLits 5 298 [.int .i64 s.kind,.int .i64 s.curv,.int .i64 s.conic,.int .i64 s.curvx,.int .i64 s.conicx,.int .i64 s.order,.int .i64 s.thick,.int .i64 s.semi,.int .i64 s.hole,.int .i64 s.dx,.int .i64 s.dy,.int .i64 s.ax,.int .i64 s.ay,.int .i64 s.az,.int .i64 0,.int .i64 0]=some [.int .i64 s.kind,.int .i64 s.curv,.int .i64 s.conic,.int .i64 s.curvx,.int .i64 s.conicx,.int .i64 s.order,.int .i64 s.thick,.int .i64 s.semi,.int .i64 s.hole,.int .i64 s.dx,.int .i64 s.dy,.int .i64 s.ax,.int .i64 s.ay,.int .i64 s.az,.int .i64 0,.int .i64 0]:=by
  simp[Program.keyLits,Tryz.underlying298,Ydo, *]
 have h91:Tryz.prog.keyLits 5 90 [.int .i64 s.a0,.int .i64 s.a1,.int .i64 s.a2,.int .i64 s.a3]=some [.int .i64 s.a0,.int .i64 s.a1,.int .i64 s.a2,.int .i64 s.a3]:=by
  simp[Program.keyLits,Tryz.underlying90,Ydo, *]
 have h49:Tryz.prog.keyLits 5 49 [.int .i64 s.p0,.int .i64 s.p1]=some [.int .i64 s.p0,.int .i64 s.p1]:=by
  simp[Program.keyLits,Tryz.underlying49,Ydo, *]
 rw[Program.keyLits.eq_def];simp only[Tryz.underlying300];simp[Srf.flds,Srf.lits,h297,h91,h49,hg,c299,c297,c91,c49,c9]
theorem Zti (s:Srf) (hs:s.ok) (w:World):(binOp .eql 300 (.agg s.flds) (.agg s.flds)).run Tryz.prog w=.ok (.bool true) w:=by
 obtain⟨r,h1,h2⟩:=run_equalIn_deep (P:=Tryz.prog) 9995 5 300 Zk w 6 6 (.agg s.flds) (.agg s.flds) s.lits s.lits Zk Zk (Zj8 s hs) (Zj8 s hs);rw[run_eql_struct];have h3:r=true:=h2.2 rfl;subst h3;rw[show(10000:Nat)=9995+5 from rfl,h1];rfl
theorem Zkc (z lo hi:Int) (B0 B1:Nat) (w:World) (b0:Box w B0 3 #[.int .i64 lo]) (b1:Box w B1 3 #[.int .i64 hi]) :
  Calls Tryz.prog 248 #[.int .i64 z,.pointer (some ⟨B0,0,none⟩),.pointer (some ⟨B1,0,none⟩)] w λe w'=>e=.returned (.bool (!decide (lo<=z∧z<=hi)))∧∃k,w'=w.drewN k:=by
 by_cases h:lo<=z∧z<=hi
 ·rw[decide_eq_true h]
  refine(Zgv z lo hi B0 B1 w b0 b1 h.1 h.2).mono ?_;rintro e w' ⟨rfl,rfl⟩;exact⟨rfl,0,rfl⟩
 ·rw[decide_eq_false h]
  have c0:=b0.cell;have c1:=b1.cell;by_cases e1:z<lo
  ·clear h
   go_enter Tryz.func248,Tryz.ntmps248
   go_wp2
   go_ret
   exact⟨rfl,0,rfl⟩
  ·have e2:hi<z:=by omega
   clear h;go_enter Tryz.func248,Tryz.ntmps248
   go_wp2
   go_ret
   exact⟨rfl,0,rfl⟩
theorem Zqr (p:Option Addr) (c:Nat) (z:Int) (r:Bool) (g:Nat) (eg:∀args w,(callFunc g args).run Tryz.prog w=.ok (.enter g args) w) (cap:Array Value) (w:World) (h:RdF w p 1 c (λ_=>z))
  (hf:Calls Tryz.prog g (#[.int .i64 z]++cap) w λe w'=>e=.returned (.bool r)∧∃k,w'=w.drewN k) :
  Calls Tryz.prog 255 #[.slice p 1 c,.func (.func g) #[] cap] w λe w'=>e=.returned (.int .i64 (if r then 0 else -1))∧∃k,w'=w.drewN k:=by
 obtain⟨hc1,hn1,hx1⟩:=h;obtain⟨b,off,rfl,hb,hcell⟩:=hx1 Zd;have a1:=hcell 0 Zd;clear hcell hx1;have hcj:∀j:Nat,j<1->w.cell? ⟨b,off+j,none⟩=some (.int .i64 z):=λj hj=>by
  obtain rfl:j=0:=Zo;exact a1
 clear a1;go_enter Tryz.func255,Tryz.ntmps255
 go_wp2
 go_loopw [8] (λa wr=>∃j:Nat,j<=1∧a=.int .i64 (j:Int)∧(j=0->wr=w)∧(j=1->r=false)∧∃k,wr=w.drewN k) (λa _=>(1-intOf a).toNat)
 case atStart=>exact⟨0,Zd,rfl,λ_=>rfl,λh=>Zo,0,rfl⟩
 case round=>
  obtain⟨j,hj,rfl,h0,h1,hk⟩:=hrel;by_cases hj0:j<1
  ·obtain rfl:=h0 Zo
   have a1:=hcj j hj0;have hj':(j:Int)<1:=Zo;clear h0 h1 hk hcj;go_wp2
   refine hf.mono ?_;rintro e w' ⟨rfl,k,rfl⟩;cases r with
   | true =>
     go_wp2
     go_ret
     exact⟨by simp;omega,k,rfl⟩
   | false =>
     go_wp2
     go_roundw
     case rel=>exact⟨j+1,Zo,Zs,λh=>Zo,Zs,k,rfl⟩
     case measure=>simp[intOf];omega
  ·obtain rfl:j=1:=by omega
   obtain rfl:=h1 rfl;obtain⟨k,rfl⟩:=hk;clear h0 hf hcj;go_wp2
   go_ret
   exact⟨rfl,k,rfl⟩
theorem Zkd (p:Option Addr) (c:Nat) (z:Int) (r:Bool) (g:Nat) (eg:∀args w,(callFunc g args).run Tryz.prog w=.ok (.enter g args) w) (cap:Array Value) (w:World) (h:RdF w p 1 c (λ_=>z))
  (hf:Calls Tryz.prog g (#[.int .i64 z]++cap) w λe w'=>e=.returned (.bool r)∧∃k,w'=w.drewN k) :
  Calls Tryz.prog 247 #[.slice p 1 c,.func (.func g) #[] cap] w λe w'=>e=.returned (.bool r)∧∃k,w'=w.drewN k:=by
 have hi:=Zqr p c z r g eg cap w h hf;clear h hf;cases r with
 | true =>
   simp only[if_true]at hi;go_enter Tryz.func247,Tryz.ntmps247
   go_wp2_with (go_at_call 255;refine hi.mono ?_;rintro e w' ⟨rfl,k,rfl⟩)
   go_ret
   exact⟨rfl,k,rfl⟩
 | false =>
   simp only[if_false,Ybq]at hi;go_enter Tryz.func247,Tryz.ntmps247
   go_wp2_with (go_at_call 255;refine hi.mono ?_;rintro e w' ⟨rfl,k,rfl⟩)
   go_ret
   exact⟨rfl,k,rfl⟩
theorem Zd9 (lo hi:Int) (p:Option Addr) (c:Nat) (z:Int) (w:World) (h:RdF w p 1 c (λ_=>z)) :
  Calls Tryz.prog 230 #[.int .i64 lo,.int .i64 hi,.slice p 1 c] w λe w'=>e=.returned (.bool (decide (lo<=z∧z<=hi)))∧Below w.heap.size w w':=by
 have hmf:∀(fn:Fn) (first cap:Array Value) (w:World),(Instr.makeFunc fn first cap).run Tryz.prog w=.ok (.func fn first cap) w:=λ_ _ _ _=>rfl;generalize hr:decide (lo<=z∧z<=hi)=r;replace hr:=Yah hr;go_enter Tryz.func230,Tryz.ntmps230
 go_wp2_with fail
 refine Zbi λW hB hs b0 b1=>?_;replace h:=h.below hB;have h1:=Zkc z lo hi _ _ W b0 b1;rw[hr.out]at h1;refine(Zkd p c z (!r) _ Zds _ W h ?_).mono ?_
 ·exact h1
 rintro e W1 ⟨rfl,k,rfl⟩;go_wp2
 go_ret
 exact⟨Zs,below_drewN hB k⟩
theorem Ztj (f:Flm) (w:World):Calls Tryz.prog 240 #[.agg f.vals] w λe w'=>e=.returned (.bool (decide f.ok))∧Below w.heap.size w w':=by
 obtain⟨ix,p,q⟩:=f;unfold Flm.vals;dsimp only;have e0:decide (Flm.ok ⟨ix,p,q⟩)=((decide (10000000<=ix∧ix<=40000000)&&decide (0<=p∧p<=1000))&&decide (1<=q∧q<=1000)):=by
  rw[<-Bool.decide_and,<-Bool.decide_and];exact decide_eq_decide.2 (by unfold Flm.ok;dsimp only;omega)
 rw[e0];generalize h1:decide (10000000<=ix∧ix<=40000000)=r1;generalize h2:decide (0<=p∧p<=1000)=r2;generalize h3:decide (1<=q∧q<=1000)=r3;replace h1:=Yah h1;replace h2:=Yah h2;replace h3:=Yah h3;clear e0;go_enter Tryz.func240,Tryz.ntmps240
 go_wp2_with fail
 refine Zbi (T1:=3) λW hB hs b0 b1=>?_;have c0:=b0.cell;have l0:=b0.lt;refine(Zd9 10000000 40000000 _ 1 ix W (.box b1 0 1 _ (λi hi=>by obtain rfl:i=0:=(Zo);rfl) Zo)).mono ?_;rintro e W1 ⟨rfl,hb⟩;rw[h1.out];replace hB:=Zaa hB hb;replace b0:=b0.below hb;clear c0 l0;have c0:=b0.cell;have l0:=b0.lt;cases r1 with
 | false =>
   go_wp2
   go_ret
   exact⟨rfl,hB⟩
 | true =>
   go_wp2_with fail
   refine Zbv (T0:=3) λW2 hB2 hs2 b2=>?_;have hBB:=Zaa hB hB2;refine(Zd9 0 1000 _ 1 p W2 (.box b2 0 1 _ (λi hi=>by obtain rfl:i=0:=(Zo);rfl) Zo)).mono ?_;rintro e W3 ⟨rfl,hb⟩;rw[h2.out];replace hB:=Zaa hBB hb;replace b0:=(b0.below hB2).below hb;clear c0 l0;have c0:=b0.cell;have l0:=b0.lt;cases r2 with
   | false =>
     go_wp2
     go_ret
     exact⟨rfl,hB⟩
   | true =>
     go_wp2_with fail
     refine Zbv (T0:=3) λW4 hB4 hs4 b4=>?_;have hBB4:=Zaa hB hB4;refine(Zd9 1 1000 _ 1 q W4 (.box b4 0 1 _ (λi hi=>by obtain rfl:i=0:=(Zo);rfl) Zo)).mono ?_;rintro e W5 ⟨rfl,hb⟩;rw[h3.out];go_wp2
     go_ret
     exact⟨Zs,Zaa hBB4 hb⟩
theorem Zoh (w:World):(Instr.alloc 233 true (.tuple #[])).run Tryz.prog w=.ok (.pointer (some ⟨w.heap.size,0,none⟩)) (w.alloc (.cells #[.int .i64 0,.int .i64 0,.int .i64 0] 233)):=by
 go_simp
end Go.Proofs.W
namespace Go.Ex
open Go.RowKit Go.Mono
section
structure Frm (w0:World) (X:Nat->Prop) (w:World):Prop where
 os:w.os=w0.os
 tape:w.tape=w0.tape
 output:w.output=w0.output
 size:w0.heap.size<=w.heap.size
 block:∀i,i<w0.heap.size->¬X i->w.heap[i]? = w0.heap[i]?
theorem Frm.refl (w:World) (X:Nat->Prop):Frm w X w:=⟨rfl,rfl,rfl,Yab _,λ_ _ _=>rfl⟩
theorem Frm.below {w0 w:World} (h:Frm w0 (λ_=>False) w):Below w0.heap.size w0 w:=⟨h.os,h.tape,h.output,h.size,λk hk=>h.block k hk id⟩
theorem Frm.of_below {w0 w:World} (h:Below w0.heap.size w0 w) (X:Nat->Prop):Frm w0 X w:=⟨h.os,h.tape,h.output,h.size,λk hk _=>h.block k hk⟩
abbrev Liv (bk:List (Nat×Blk)) (k:Nat) (b:Blk):Prop:=bk.look k=some b∧b.dead=false
structure Sat (D:Den) (w0:World) (X:Nat->Prop) (th:Nat) (ρ:Nm) (wc w:World) (bk:List (Nat×Blk)):Prop where
 fr:Frm w0 X w
 ext:Ext wc w
 inj:∀k k' b b' B B',Liv bk k b->Liv bk k' b'->ρ k=some B->ρ k'=some B'->B.blk=B'.blk->k=k'∨(B.ro=true∧B'.ro=true)
 lt:∀k B,ρ k=some B->B.blk<w.heap.size
 box:∀k b,Liv bk k b->∃B cs,ρ k=some B∧Holds w B b.T b.sp cs∧denL D ρ wc b.cells cs∧(b.ro=false->w0.heap.size<=B.blk∨X B.blk)∧(b.T=3->th<=k->wc.heap.size<=B.blk)∧B.ro=b.ro
structure Evo (ρ:Nm) (wc w:World) (bk:List (Nat×Blk)) (c c':Nat) (ρ':Nm) (wc' w':World) (bk':List (Nat×Blk)):Prop where
 rho:ρ.le ρ'
 ext:Ext wc wc'
 size:w.heap.size<=w'.heap.size
 os:w'.os=w.os
 tape:w'.tape=w.tape
 output:w'.output=w.output
 loc:∀i,i<w.heap.size->(∀k b B,Liv bk k b->ρ k=some B->B.ro=false->B.blk≠i)->w'.heap[i]? = w.heap[i]?
 ids:∀k b,Liv bk' k b->(∃b0,Liv bk k b0)∨(c<=k∧k<c'∧∃B,ρ' k=some B∧(w.heap.size<=B.blk∨∃k0 b0 B0,Liv bk k0 b0∧ρ k0=some B0∧B0.ro=false∧B0.blk=B.blk))
 cc:c<=c'
 dom:∀k,(k<c∨c'<=k)->ρ' k=ρ k
theorem Evo.refl (ρ:Nm) (wc w:World) (bk:List (Nat×Blk)) (c:Nat):Evo ρ wc w bk c c ρ wc w bk:=
 ⟨Nm.le.refl _,Ext.refl _,Yab _,rfl,rfl,rfl,λ_ _ _=>rfl,λk b h=>.inl ⟨b,h⟩,Yab _,λ_ _=>rfl⟩
theorem Evo.trans {ρ ρ1 ρ2:Nm} {wc w wc1 w1 wc2 w2:World} {bk bk1 bk2:List (Nat×Blk)} {c c1 c2:Nat}
  (h:Evo ρ wc w bk c c1 ρ1 wc1 w1 bk1) (g:Evo ρ1 wc1 w1 bk1 c1 c2 ρ2 wc2 w2 bk2) (hlt:∀k b,Liv bk k b->∃B,ρ k=some B):Evo ρ wc w bk c c2 ρ2 wc2 w2 bk2 where
 rho:=h.rho.trans g.rho
 ext:=h.ext.trans g.ext
 size:=Yak h.size g.size
 os:=g.os.trans h.os
 tape:=g.tape.trans h.tape
 output:=g.output.trans h.output
 loc:=λi hi hn=>by
  rw[g.loc i (Yaf hi h.size) ?_,h.loc i hi hn];intro k b C hk he hro;rcases h.ids k b hk with ⟨b',hb'⟩|⟨_,_,B,hB,hle⟩
  ·obtain⟨B,hB⟩:=hlt k b' hb'
   have:=h.rho k B hB;rw[he]at this;cases this;exact hn k b' C hb' hB hro
  ·rw[he]at hB
   cases hB;rcases hle with hle|⟨k0,b0,B0,h1,h2,h3,h4⟩
   ·omega
   ·rw[<-h4];exact hn k0 b0 B0 h1 h2 h3
 ids:=λk b hk=>by
  have hc1:=h.cc;have hc2:=g.cc;rcases g.ids k b hk with ⟨b',hb'⟩|⟨k1,k2,B,hB,hle⟩
  ·rcases h.ids k b' hb' with h2|⟨k1,k2,B,hB,hle⟩
   ·exact .inl h2
   ·exact .inr ⟨k1,Zo,B,g.rho k B hB,hle⟩
  ·refine .inr ⟨Zo,k2,B,hB,?_⟩
   rcases hle with hle|⟨k0,b0,B0,h1,h2,h3,h4⟩
   ·exact .inl (Yak h.size hle)
   ·rcases h.ids k0 b0 h1 with ⟨b',hb'⟩|⟨_,_,B1,hB1,hle⟩
    ·obtain⟨B1,hB1⟩:=hlt k0 b' hb'
     have:=h.rho k0 B1 hB1;rw[h2]at this;cases this;exact .inr ⟨k0,b',B0,hb',hB1,h3,h4⟩
    ·rw[h2]at hB1
     cases hB1;rw[<-h4];exact hle
 cc:=Yak h.cc g.cc
 dom:=λk hk=>by
  have h1:=h.cc;have h2:=g.cc;rw[g.dom k Zo,h.dom k Zo]
section
variable {D:Den} {w0:World} {X:Nat->Prop} {th:Nat} {ρ:Nm} {wc w:World} {bk:List (Nat×Blk)}
theorem Sat.named (h:Sat D w0 X th ρ wc w bk):∀k b,Liv bk k b->∃B,ρ k=some B:=λk b hk=>let ⟨B,_,hB,_⟩:=h.box k b hk;⟨B,hB⟩
theorem Sat.bkOk (h:Sat D w0 X th ρ wc w bk):BkOk D ρ wc w bk:=λk b hk hd=>let ⟨B,cs,h1,h2,h3,_,_,h6⟩:=h.box k b ⟨hk,hd⟩;⟨B,cs,h1,h2,h3,h6⟩
theorem Sat.mono (h:Sat D w0 X th ρ wc w bk) {th':Nat} (hle:th<=th'):Sat D w0 X th' ρ wc w bk:=
 ⟨h.fr,h.ext,h.inj,h.lt,λk b hk=>let ⟨B,cs,h1,h2,h3,h4,h5,h6⟩:=h.box k b hk;⟨B,cs,h1,h2,h3,h4,λht hh=>h5 ht (Yak hle hh),h6⟩⟩
def addNm (ρ:Nm) (k:Nat) (B:Pl):Nm:=λj=>if j=k then some B else ρ j
theorem Zbf (ρ:Nm) (k:Nat) (B:Pl):addNm ρ k B k=some B:=by simp[addNm]
theorem Zax (ρ:Nm) {k j:Nat} (B:Pl) (h:j≠k):addNm ρ k B j=ρ j:=by simp[addNm,h]
theorem Zdx {ρ:Nm} {k:Nat} {B:Pl} (h:ρ k=none):ρ.le (addNm ρ k B):=λj C hj=>by
 by_cases e:j=k
 ·subst e;rw[h]at hj;cases hj
 ·rw[Zax _ _ e];exact hj
theorem Zbu {k j:Nat} {b x:Blk} {l:List (Nat×Blk)} (h:Liv ((k,x)::l) j b):(j=k∧b=x∧x.dead=false)∨(j≠k∧Liv l j b):=by
 obtain⟨h,hd⟩:=h;rw[Zaz]at h;by_cases e:j=k
 ·rw[if_pos e]at h;cases h;exact .inl ⟨e,rfl,hd⟩
 ·rw[if_neg e]at h;exact .inr ⟨e,h,hd⟩
theorem Sat.alloc (h:Sat D w0 X th ρ wc w bk) {k:Nat} (hk:ρ k=none) (T:TypeId) (sp:Bool) (cap tot:Nat) {l:List U} {cs rest:List Value} (hl:denL D ρ wc l cs) (hsp:sp=false->rest=[]) (htot:sp=true->(cs++rest).length=tot) :
  Sat D w0 X th (addNm ρ k ⟨w.heap.size,0,false,cap,tot⟩) wc (w.alloc (.cells (cs++rest).toArray T)) ((k,⟨T,l,false,sp,false⟩)::bk)∧
  Evo ρ wc w bk k (k+1) (addNm ρ k ⟨w.heap.size,0,false,cap,tot⟩) wc (w.alloc (.cells (cs++rest).toArray T)) ((k,⟨T,l,false,sp,false⟩)::bk):=by
 have hle:=Zdx (B:=⟨w.heap.size,0,false,cap,tot⟩) hk;have hb:Below w.heap.size w (w.alloc (.cells (cs++rest).toArray T)):=Zad (Yae _ _) _;have hnew:=Zbf ρ k ⟨w.heap.size,0,false,cap,tot⟩;refine⟨⟨⟨h.fr.os,h.fr.tape,h.fr.output,Yak h.fr.size hb.size,λi hi hx=>(hb.block i (Yaf hi h.fr.size)).trans (h.fr.block i hi hx)⟩,
  h.ext.alloc _,?_,?_,?_⟩,⟨hle,Ext.refl _,hb.size,rfl,rfl,rfl,λi hi _=>hb.block i hi,?_,Zo,?_⟩⟩
 ·intro j j' b b' B B' hj hj' h1 h2 he
  rcases Zbu hj with ⟨e1,_,_⟩|⟨e1,hj⟩<;>rcases Zbu hj' with ⟨e2,_,_⟩|⟨e2,hj'⟩
  ·exact .inl (by rw[e1,e2])
  ·subst e1
   rw[hnew]at h1;rw[Zax _ _ e2]at h2;cases h1;have:=h.lt j' _ h2;dsimp only at he;omega
  ·subst e2
   rw[Zax _ _ e1]at h1;rw[hnew]at h2;cases h2;have:=h.lt j _ h1;dsimp only at he;omega
  ·rw[Zax _ _ e1]at h1;rw[Zax _ _ e2]at h2
   exact h.inj j j' b b' B B' hj hj' h1 h2 he
 ·intro j B h1
  by_cases e1:j=k
  ·subst e1;rw[hnew]at h1;cases h1;simp
  ·rw[Zax _ _ e1]at h1
   exact Yaf (h.lt j B h1) hb.size
 ·intro j b hj
  rcases Zbu hj with ⟨rfl,rfl,_⟩|⟨e1,hj⟩
  ·exact⟨_,cs,hnew,.inr ⟨rfl,rfl,rest,hsp,htot,Box.new _ _ _⟩,hl.mono hle (Ext.refl _),λ_=>.inl h.fr.size,λ_ _=>h.ext.size,rfl⟩
  ·obtain⟨B,cs',h1,h2,h3,h4,h5,h6⟩:=h.box j b hj
   exact⟨B,cs',hle j B h1,h2.of_block (hb.block _ (h.lt j B h1)),h3.mono hle (Ext.refl _),h4,h5,h6⟩
 ·intro j b hj
  rcases Zbu hj with ⟨rfl,rfl,_⟩|⟨e1,hj⟩
  ·exact .inr ⟨Yab _,Zo,_,hnew,.inl (Yab _)⟩
  ·exact .inl ⟨b,hj⟩
 ·intro j hj
  exact Zax _ _ Zo
theorem Zp6 (h:Sat D w0 X th ρ wc w bk) {k:Nat} {b:Blk} (hk:Liv bk k b) {B:Pl} (hB:ρ k=some B) (hro:b.ro=false) (hT:b.T≠3∨th<=k) (off:Nat) (ps:List Value):Ext wc (w.setCells B.blk off ps):=by
 obtain⟨B',cs,h1,h2,h3,h4,h5,h6⟩:=h.box k b hk;cases hB.symm.trans h1;have hks:KeepBut B.blk w.heap.size w (w.setCells B.blk off ps):=(KeepBut.refl _ _).setCells _ _ _;rcases h2 with ⟨g,_⟩|⟨_,hbase,rest,_,_,h2⟩
 ·rw[h6,hro]at g;cases g
 ·by_cases hT3:b.T=3
  ·have h6:=h5 hT3 (hT.resolve_left λhh=>hh hT3)
   refine⟨Yak h.ext.size hks.size,λj ds fr hj=>?_⟩;have h7:=h.ext.kept j ds fr hj;have h8:=Zao hj;rw[hks.block j (Zao h7) Zo];exact h7
  ·exact h.ext.trans (hks.ext h2 hT3)
theorem Sat.store (h:Sat D w0 X th ρ wc w bk) {k:Nat} {b:Blk} (hk:Liv bk k b) (hro:b.ro=false) {off:Nat} {us l:List U} {ps:List Value} (hput:putX b.cells off us=some l) (hp:denL D ρ wc us ps)
  (hT:b.T≠3∨th<=k) {B:Pl} (hB:ρ k=some B) (c:Nat) :
  Sat D w0 X th ρ wc (w.setCells B.blk off ps) ((k,⟨b.T,l,false,b.sp,false⟩)::bk)∧Evo ρ wc w bk c c ρ wc (w.setCells B.blk off ps) ((k,⟨b.T,l,false,b.sp,false⟩)::bk)∧w.there B.blk off ps.length∧B.base=0:=by
 have hext:=Zp6 h hk hB hro hT off ps;obtain⟨B',cs,h1,h2,h3,h4,h5,h6⟩:=h.box k b hk;cases hB.symm.trans h1;have hBro:B.ro=false:=h6.trans hro;obtain⟨hbase,rest,hr1,hr2,h2'⟩:B.base=0∧∃rest,(b.sp=false->rest=[])∧(b.sp=true->(cs++rest).length=B.tot)∧Box w B.blk b.T (cs++rest).toArray:=by
  rcases h2 with ⟨g,_⟩|⟨_,g⟩
  ·rw[hBro]at g;cases g
  ·exact g
 obtain⟨q1,q2⟩:=Zmq hput h3 hp;have hks:KeepBut B.blk w.heap.size w (w.setCells B.blk off ps):=(KeepBut.refl _ _).setCells _ _ _;have hbx0:=Box.setCells ps off w _ h2' (by simp;omega);have hcut:((cs++rest).toArray.toList.take off++ps++(cs++rest).toArray.toList.drop (off+ps.length))=(cs.take off++ps++cs.drop (off+ps.length))++rest:=by
  simp only[Yex];rw[Yfr Zo,List.drop_append_of_le_length Zo];simp
 have hbx:Box (w.setCells B.blk off ps) B.blk b.T ((cs.take off++ps++cs.drop (off+ps.length))++rest).toArray:=by
  rw[<-hcut];exact hbx0
 have hlen:(cs.take off++ps++cs.drop (off+ps.length)).length=cs.length:=by
  simp only[Yay,Ycq,Yfs];omega
 refine⟨⟨⟨?_,?_,?_,?_,?_⟩,hext,?_,λj C hj=>Yaf (h.lt j C hj) hks.size,?_⟩,⟨Nm.le.refl _,Ext.refl _,hks.size,hks.os,hks.tape,hks.output,?_,?_,Yab _,λ_ _=>rfl⟩,?_,hbase⟩
 ·exact hks.os.trans h.fr.os
 ·exact hks.tape.trans h.fr.tape
 ·exact hks.output.trans h.fr.output
 ·exact Yak h.fr.size hks.size
 ·intro i hi hx
  rw[hks.block i (Yaf hi h.fr.size) (by
   intro e;subst e;rcases h4 hro with h4|h4
   ·omega
   ·exact hx h4)]
  exact h.fr.block i hi hx
 ·intro j j' x x' C C' hj hj' e1 e2 he
  have f:∀{j x},Liv ((k,⟨b.T,l,false,b.sp,false⟩)::bk) j x->∃x,Liv bk j x:=λhj=>by
   rcases Zbu hj with ⟨rfl,_,_⟩|⟨_,hj⟩
   ·exact⟨b,hk⟩
   ·exact⟨_,hj⟩
  obtain⟨y,hy⟩:=f hj;obtain⟨y',hy'⟩:=f hj';exact h.inj j j' y y' C C' hy hy' e1 e2 he
 ·intro j b' hj
  rcases Zbu hj with ⟨rfl,rfl,_⟩|⟨e1,hj⟩
  ·exact⟨B,_,h1,.inr ⟨hBro,hbase,rest,hr1,λhs=>by rw[Yay,hlen,<-Yay];exact hr2 hs,hbx⟩,q1,λ_=>h4 hro,h5,hBro⟩
  ·obtain⟨C,ds,g1,g2,g3,g4,g5,g6⟩:=h.box j b' hj
   refine⟨C,ds,g1,g2.of_block (hks.block _ (h.lt j C g1) λe=>?_),g3,g4,g5,g6⟩;rcases h.inj j k b' b C B hj hk g1 h1 e with h7|h7
   ·exact e1 h7
   ·rw[hBro]at h7;cases h7.2
 ·intro i hi hn
  exact hks.block i hi (λe=>hn k b B hk h1 hBro e.symm)
 ·intro j b' hj
  rcases Zbu hj with ⟨rfl,_,_⟩|⟨_,hj⟩
  ·exact .inl ⟨b,hk⟩
  ·exact .inl ⟨b',hj⟩
 ·exact h2'.there off ps.length (by simp;omega)
theorem Sat.push (h:Sat D w0 X th ρ wc w bk) {k:Nat} {b:Blk} (hk:Liv bk k b) (hro:b.ro=false) (hsp:b.sp=true) {us:List U} {ps:List Value} (hp:denL D ρ wc us ps)
  (hT:b.T≠3∨th<=k) {B:Pl} (hB:ρ k=some B) {c:Nat} (hc:ρ c=none) (hroom:widths b.cells+ps.length<=B.tot) (hck:c≠k) :
  Sat D w0 X th (addNm ρ c B) wc (w.setCells B.blk (widths b.cells) ps) ((k,⟨b.T,[],false,true,true⟩)::(c,⟨b.T,b.cells++us,false,true,false⟩)::bk)∧
  Evo ρ wc w bk c (c+1) (addNm ρ c B) wc (w.setCells B.blk (widths b.cells) ps) ((k,⟨b.T,[],false,true,true⟩)::(c,⟨b.T,b.cells++us,false,true,false⟩)::bk)∧w.there B.blk (widths b.cells) ps.length∧B.base=0:=by
 have hext:=Zp6 h hk hB hro hT (widths b.cells) ps;obtain⟨B',cs,h1,h2,h3,h4,h5,h6⟩:=h.box k b hk;cases hB.symm.trans h1;have hBro:B.ro=false:=h6.trans hro;have hle:=Zdx (B:=B) hc;have hnew:=Zbf ρ c B;obtain⟨hbase,rest,hr1,hr2,h2'⟩:B.base=0∧∃rest,(b.sp=false->rest=[])∧(b.sp=true->(cs++rest).length=B.tot)∧Box w B.blk b.T (cs++rest).toArray:=by
  rcases h2 with ⟨g,_⟩|⟨_,g⟩
  ·rw[hBro]at g;cases g
  ·exact g
 have hw:=h3.len;have hlen0:=hr2 hsp;rw[Yay]at hlen0;have hks:KeepBut B.blk w.heap.size w (w.setCells B.blk (widths b.cells) ps):=(KeepBut.refl _ _).setCells _ _ _;have hbx0:=Box.setCells ps (widths b.cells) w _ h2' (by simp;omega);have hcut:((cs++rest).toArray.toList.take (widths b.cells)++ps++(cs++rest).toArray.toList.drop (widths b.cells+ps.length))=(cs++ps)++rest.drop ps.length:=by
  simp only[Yex];rw[Yfr Zo,Ycm Zo,List.drop_append,Yfi Zo,Ydp];congr 2
  omega
 have hbx:Box (w.setCells B.blk (widths b.cells) ps) B.blk b.T ((cs++ps)++rest.drop ps.length).toArray:=by
  rw[<-hcut];exact hbx0
 have livs:∀{j x},Liv ((k,⟨b.T,[],false,true,true⟩)::(c,⟨b.T,b.cells++us,false,true,false⟩)::bk) j x->j≠k∧((j=c∧x=⟨b.T,b.cells++us,false,true,false⟩)∨(j≠c∧Liv bk j x)):=λhj=>by
  rcases Zbu hj with ⟨_,_,hd⟩|⟨e1,hj⟩
  ·cases hd
  ·rcases Zbu hj with ⟨e2,e3,_⟩|⟨e2,hj⟩
   ·exact⟨e1,.inl ⟨e2,e3⟩⟩
   ·exact⟨e1,.inr ⟨e2,hj⟩⟩
 refine⟨⟨⟨?_,?_,?_,?_,?_⟩,hext,?_,?_,?_⟩,⟨hle,Ext.refl _,hks.size,hks.os,hks.tape,hks.output,?_,?_,Zo,?_⟩,?_,hbase⟩
 ·exact hks.os.trans h.fr.os
 ·exact hks.tape.trans h.fr.tape
 ·exact hks.output.trans h.fr.output
 ·exact Yak h.fr.size hks.size
 ·intro i hi hx
  rw[hks.block i (Yaf hi h.fr.size) (by
   intro e;subst e;rcases h4 hro with h4|h4
   ·omega
   ·exact hx h4)]
  exact h.fr.block i hi hx
 ·intro j j' x x' C C' gj gj' e1 e2 he
  obtain⟨nk,hj⟩:=livs gj;obtain⟨nk',hj'⟩:=livs gj';clear gj gj';rcases hj with ⟨a1,_⟩|⟨a1,hj⟩<;>rcases hj' with ⟨a2,_⟩|⟨a2,hj'⟩
  ·exact .inl (a1.trans a2.symm)
  ·subst a1
   rw[hnew]at e1;rw[Zax _ _ a2]at e2;cases e1;rcases h.inj k j' b x' B C' hk hj' h1 e2 he with h7|h7
   ·exact absurd h7.symm nk'
   ·rw[hBro]at h7;cases h7.1
  ·subst a2
   rw[Zax _ _ a1]at e1;rw[hnew]at e2;cases e2;rcases h.inj j k x b C B hj hk e1 h1 he with h7|h7
   ·exact absurd h7 nk
   ·rw[hBro]at h7;cases h7.2
  ·rw[Zax _ _ a1]at e1;rw[Zax _ _ a2]at e2
   exact h.inj j j' x x' C C' hj hj' e1 e2 he
 ·intro j C hj
  by_cases e:j=c
  ·subst e;rw[hnew]at hj;cases hj;exact Yaf (h.lt k _ h1) hks.size
  ·rw[Zax _ _ e]at hj;exact Yaf (h.lt j C hj) hks.size
 ·intro j b' hj
  obtain⟨nk,hj⟩:=livs hj;rcases hj with ⟨rfl,rfl⟩|⟨e2,hj⟩
  ·refine⟨B,cs++ps,hnew,.inr ⟨hBro,hbase,rest.drop ps.length,(λhh=>by cases hh),λ_=>?_,hbx⟩,(h3.append hp).mono hle (Ext.refl _),λ_=>h4 hro,λht hh=>?_,hBro⟩
   ·simp only[Yay,Yfs];omega
   ·exact h5 ht (hT.resolve_left λhh=>hh ht)
  ·obtain⟨C,ds,g1,g2,g3,g4,g5,g6⟩:=h.box j b' hj
   refine⟨C,ds,hle j C g1,g2.of_block (hks.block _ (h.lt j C g1) λe=>?_),g3.mono hle (Ext.refl _),g4,g5,g6⟩;rcases h.inj j k b' b C B hj hk g1 h1 e with h7|h7
   ·exact nk h7
   ·rw[hBro]at h7;cases h7.2
 ·intro i hi hn
  exact hks.block i hi (λe=>hn k b B hk h1 hBro e.symm)
 ·intro j b' hj
  obtain⟨nk,hj⟩:=livs hj;rcases hj with ⟨rfl,_⟩|⟨e2,hj⟩
  ·exact .inr ⟨Yab _,Zo,B,hnew,.inr ⟨k,b,B,hk,h1,hBro,rfl⟩⟩
  ·exact .inl ⟨b',hj⟩
 ·intro j hj
  exact Zax _ _ Zo
 ·exact h2'.there (widths b.cells) ps.length (by simp;omega)
theorem Sat.call (h:Sat D w0 X th ρ wc w bk) {w':World} (hb:Below w.heap.size w w') (c t:Nat) (hf:∀k b,bk.look k=some b->¬t<=k) :
  Sat D w0 X t ρ w' w' bk∧Evo ρ wc w bk c c ρ w' w' bk:=by
 have hx:Ext wc w':=h.ext.trans (.of_below hb);refine⟨⟨⟨hb.os.trans h.fr.os,hb.tape.trans h.fr.tape,hb.output.trans h.fr.output,Yak h.fr.size hb.size,λi hi hX=>(hb.block i (Yaf hi h.fr.size)).trans (h.fr.block i hi hX)⟩,
  Ext.refl _,h.inj,λj C hj=>Yaf (h.lt j C hj) hb.size,?_⟩,⟨Nm.le.refl _,hx,hb.size,hb.os,hb.tape,hb.output,λi hi _=>hb.block i hi,λk b hk=>.inl ⟨b,hk⟩,Yab _,λ_ _=>rfl⟩⟩
 intro j b hj;obtain⟨B,cs,h1,h2,h3,h4,h5,h6⟩:=h.box j b hj;exact⟨B,cs,h1,h2.of_block (hb.block _ (h.lt j B h1)),h3.mono (Nm.le.refl _) hx,h4,λ_ hh=>absurd hh (hf j b hj.1),h6⟩
theorem Sat.drew (h:Sat D w0 X th ρ wc w bk):Sat D w0 X th ρ wc w.drew bk:=
 ⟨⟨h.fr.os,h.fr.tape,h.fr.output,h.fr.size,h.fr.block⟩,h.ext.drew,h.inj,h.lt,λk b hk=>let ⟨B,cs,h1,h2,h3⟩:=h.box k b hk;⟨B,cs,h1,h2.of_block rfl,h3⟩⟩
theorem Evo.drew (ρ:Nm) (wc w:World) (bk:List (Nat×Blk)) (c:Nat):Evo ρ wc w bk c c ρ wc w.drew bk:=
 ⟨Nm.le.refl _,Ext.refl _,Yab _,rfl,rfl,rfl,λ_ _ _=>rfl,λk b h=>.inl ⟨b,h⟩,Yab _,λ_ _=>rfl⟩
end
end
end Go.Ex
namespace Go.Proofs.W
open Go.RowKit Go.Mono
theorem Zte (s:Srf) (p:Option Addr) (c:Nat) (w:World) (h1:s.kind=1) (h2:s.glass = {data:=#[]}) (h3:s.thick=0) (h4:s.order=0) (h5:s.co=[]) :
  Calls Tryz.prog 224 #[.agg (s.cs p c)] w λe w'=>e=.returned (.bool true)∧Below w.heap.size w w':=by
 simp only[Srf.cs,h1,h2,h3,h4,h5,Ydf];go_enter Tryz.func224,Tryz.ntmps224
 go_wp2
 go_ret
 exact⟨rfl,Zad (Yae _ _) _⟩
theorem Ziw (w:World) :
  Calls Tryz.prog 226 #[.slice none 0 0] w λe w'=>e=.returned (.bool true)∧Below w.heap.size w w':=by
 have hmm:∀w:World,(Instr.makeMap 297 none).run Tryz.prog w=.ok (.map (some w.heap.size)) (w.alloc (.map #[] 0)):=λ_=>rfl;go_enter Tryz.func226,Tryz.ntmps226
 go_wp2
 go_loopw [9] (λa wr=>a=.int .i64 0∧Below w.heap.size w wr) (λ_ _=>0)
 case atStart=>exact⟨rfl,Zad (Yae _ _) _⟩
 case round=>
  obtain⟨rfl,hB⟩:=hrel;go_wp2
  go_ret
  exact⟨rfl,hB⟩
theorem Zn9 (B:Nat) (nm:ByteArray) (di pu st pr:Int) (pf pw' ps pc:Option Addr) (nf cf n cw ns cs cc:Nat) (w:World)
  (b0:Box w B 249 #[.string nm,.int .i64 di,.int .i64 pu,.int .i64 st,.int .i64 pr,.slice pf nf cf,.slice pw' n cw,.slice ps ns cs,.slice pc 0 cc]) :
  Calls Tryz.prog 210 #[.pointer (some ⟨B,0,none⟩)] w λe w'=>e=.returned (.bool true)∧Below w.heap.size w w':=by
 have cb0:=b0.cell;go_enter Tryz.func210,Tryz.ntmps210
 go_wp2
 go_loopw [3,14] (λl a wr=>l=.slice none 0 0∧a=.int .i64 0∧wr=w) (λ_ _ _=>0)
 case atStart=>exact⟨rfl,rfl,rfl⟩
 case round=>
  obtain⟨rfl,rfl,rfl⟩:=hrel;go_wp2_with (go_at_call 226;refine(Ziw _).mono ?_;rintro e w' ⟨rfl,hb⟩)
  go_ret
  exact⟨rfl,hb⟩
theorem Zat (B off:Nat) (z:Int) (w:World) (hc:(w.cell? ⟨B,off,none⟩).isSome=true) (hf:w.frozen? ⟨B,off,none⟩=false):(Instr.storeAt 3 (.pointer (some ⟨B,off,none⟩)) (.int .i64 z)).run Tryz.prog w=.ok () (w.setCell ⟨B,off,none⟩ (.int .i64 z)):=by
 obtain⟨x,hx⟩:=Yct.1 hc;clear hc;go_simp
theorem Zqq (B off:Nat) (z:ByteArray) (w:World) (hc:(w.cell? ⟨B,off,none⟩).isSome=true) (hf:w.frozen? ⟨B,off,none⟩=false):(Instr.storeAt 9 (.pointer (some ⟨B,off,none⟩)) (.string z)).run Tryz.prog w=.ok () (w.setCell ⟨B,off,none⟩ (.string z)):=by
 obtain⟨x,hx⟩:=Yct.1 hc;clear hc;go_simp
theorem Za0 (w:World):(Instr.alloc 117 true (.tuple #[])).run Tryz.prog w=.ok (.pointer (some ⟨w.heap.size,0,none⟩)) (w.alloc (.cells #[.int .i64 0,.int .i64 0,.int .i64 0,.int .i64 0,.int .i64 0,.int .i64 0,.int .i64 0,.int .i64 0,.int .i64 0,.int .i64 0,.int .i64 0,.int .i64 0,.int .i64 0,.string {data:=#[]},.int .i64 0,.int .i64 0,.int .i64 0,.int .i64 0,.int .i64 0,.int .i64 0,.int .i64 0,.slice none 0 0] 117)):=by
 go_simp
theorem Zdg (B off:Nat) (p:Option Addr) (n c:Nat) (w:World) (hc:(w.cell? ⟨B,off,none⟩).isSome=true) (hf:w.frozen? ⟨B,off,none⟩=false):(Instr.storeAt 115 (.pointer (some ⟨B,off,none⟩)) (.slice p n c)).run Tryz.prog w=.ok () (w.setCell ⟨B,off,none⟩ (.slice p n c)):=by
 obtain⟨x,hx⟩:=Yct.1 hc;clear hc;go_simp
theorem Zw6 (curv conic curvx conicx a0 a1 a2 a3 p0 p1 order thick semi hole dx dy ax ay az:Int) (glass:ByteArray) (p:Option Addr) (nf c:Nat) (A:Array Value) (h1:¬order=0) (h2:(glass.toList==[77,73,82,82,79,82])=false)
  (e0:A[0]? = some (.int .i64 1))
  (e1:A[1]? = some (.int .i64 curv))
  (e2:A[2]? = some (.int .i64 conic))
  (e3:A[3]? = some (.int .i64 curvx))
  (e4:A[4]? = some (.int .i64 conicx))
  (e5:A[5]? = some (.int .i64 a0))
  (e6:A[6]? = some (.int .i64 a1))
  (e7:A[7]? = some (.int .i64 a2))
  (e8:A[8]? = some (.int .i64 a3))
  (e9:A[9]? = some (.int .i64 p0))
  (e10:A[10]? = some (.int .i64 p1))
  (e11:A[11]? = some (.int .i64 order))
  (e12:A[12]? = some (.int .i64 thick))
  (e13:A[13]? = some (.string glass))
  (e14:A[14]? = some (.int .i64 semi))
  (e15:A[15]? = some (.int .i64 hole))
  (e16:A[16]? = some (.int .i64 dx))
  (e17:A[17]? = some (.int .i64 dy))
  (e18:A[18]? = some (.int .i64 ax))
  (e19:A[19]? = some (.int .i64 ay))
  (e20:A[20]? = some (.int .i64 az))
  (e21:A[21]? = some (.slice p nf c))
  (w:World):Calls Tryz.prog 232 #[.agg A] w λe w'=>e=.returned (.agg #[.int .i64 1,.int .i64 curv,.int .i64 conic,.int .i64 0,.int .i64 0,.int .i64 a0,.int .i64 a1,.int .i64 a2,.int .i64 a3,.int .i64 p0,.int .i64 p1,.int .i64 order,.int .i64 thick,.string glass,.int .i64 semi,.int .i64 hole,.int .i64 0,.int .i64 0,.int .i64 0,.int .i64 0,.int .i64 0,.slice p nf c])∧Below w.heap.size w w':=by
 go_enter Tryz.func232,Tryz.ntmps232
 have hi:(Tryz.prog.info? 117).map (·.size)=some 22:=Zk;have hi2:(Tryz.prog.info? 49).map (·.size)=some 2:=Zk;have hi4:(Tryz.prog.info? 90).map (·.size)=some 4:=Zk;go_step
 go_step
 go_step
 go_step
 go_step
 go_step
 go_step
 go_step
 go_step
 refine Zb8 λW hB hsz b0 b1=>?_;have cb0:=b0.cell;have lb0:=b0.lt;go_wp2_with first|(refine Zak rfl 117 _ rfl #[.int .i64 1,.int .i64 0,.int .i64 0,.int .i64 0,.int .i64 0,.int .i64 0,.int .i64 0,.int .i64 0,.int .i64 0,.int .i64 0,.int .i64 0,.int .i64 0,.int .i64 thick,.string {data:=#[]},.int .i64 0,.int .i64 0,.int .i64 0,.int .i64 0,.int .i64 0,.int .i64 0,.int .i64 0,.slice none 0 0] Zx ?_)|(refine Zaq rfl 117 rfl _ Za0 ?_;intro W1 B2 hle hB1 b2;have b01:=b0.below hB1;have b11:=b1.below hB1)|(refine Zab rfl 117 (.tmp 3) (.tmp 8) rfl B2 0 117 _ #[.int .i64 1,.int .i64 0,.int .i64 0,.int .i64 0,.int .i64 0,.int .i64 0,.int .i64 0,.int .i64 0,.int .i64 0,.int .i64 0,.int .i64 0,.int .i64 0,.int .i64 thick,.string {data:=#[]},.int .i64 0,.int .i64 0,.int .i64 0,.int .i64 0,.int .i64 0,.int .i64 0,.int .i64 0,.slice none 0 0] #[.int .i64 1,.int .i64 0,.int .i64 0,.int .i64 0,.int .i64 0,.int .i64 0,.int .i64 0,.int .i64 0,.int .i64 0,.int .i64 0,.int .i64 0,.int .i64 0,.int .i64 thick,.string {data:=#[]},.int .i64 0,.int .i64 0,.int .i64 0,.int .i64 0,.int .i64 0,.int .i64 0,.int .i64 0,.slice none 0 0] rfl rfl b2 hi (Yaa rfl) (by simp[Value.oneCell']) rfl ?_;intro W2 hk2 b22;have b02:=hk2.box b01 b01.lt (by have:=b0.lt;omega);have b12:=hk2.box b11 b11.lt (by have:=b1.lt;omega);have cb2:=b02.cell)|(refine Zab rfl 90 (.tmp 15) (.tmp 14) rfl B2 5 117 _ #[.int .i64 a0,.int .i64 a1,.int .i64 a2,.int .i64 a3] #[.int .i64 1,.int .i64 0,.int .i64 0,.int .i64 0,.int .i64 0,.int .i64 a0,.int .i64 a1,.int .i64 a2,.int .i64 a3,.int .i64 0,.int .i64 0,.int .i64 0,.int .i64 thick,.string {data:=#[]},.int .i64 0,.int .i64 0,.int .i64 0,.int .i64 0,.int .i64 0,.int .i64 0,.int .i64 0,.slice none 0 0] rfl rfl b22 hi4 (Yaa rfl) (by simp[Value.oneCell']) rfl ?_;intro W3 hk3 b23;have b03:=hk3.box b02 b02.lt (by have:=b0.lt;omega);have b13:=hk3.box b12 b12.lt (by have:=b1.lt;omega);have cb3:=b03.cell)
 have lw:=b0.lt;have hBW:Below w.heap.size w W3:=hk3.below (hk2.below (Zaa hB hB1) Zo (by have:=hB1.size;omega)) Zo (by have:=b02.lt;omega);have lb0:=b03.lt;have nb0:w.heap.size≠B2:=Zo;have lb2:w.heap.size+2<=B2:=Zo;clear cb0 cb2 cb3 hk2 hk3 b0 b1 b01 b11 b02 b12 b22 b2;have b0:=b03;have b2:=b23;clear b03 b23;refine wp_region_held_drew (S:=λw'=>(∀o,w'.cell? ⟨w.heap.size,o,none⟩=A[o]?)∧KeepBut B2 W3.heap.size W3 w') Zk ⟨b0.cell,(KeepBut.refl _ _).drew⟩ (λhHeld=>?_);have hst:∀(w':World) (i:Nat) (u:Value),((∀o,w'.cell? ⟨w.heap.size,o,none⟩=A[o]?)∧KeepBut B2 W3.heap.size W3 w')->((∀o,(w'.setCell ⟨B2,i,none⟩ u).cell? ⟨w.heap.size,o,none⟩=A[o]?)∧KeepBut B2 W3.heap.size W3 (w'.setCell ⟨B2,i,none⟩ u)):=λw' i u h=>⟨λo=>(Yet _ _ _ _ (by intro e;have:=congrArg Addr.block e;simp at this;omega)).trans (h.1 o),h.2.set i u⟩
 have g0:=b0;replace b2:=b2.drew;replace hst:=Yah hst;refine tk 0 (some 24) ?_;refine tk 1 (some 25) ?_;refine tk 2 (some 26) ?_;refine tk 3 (some 27) ?_;refine tk 4 (some 28) ?_;refine Zbl B2 117 5 rfl rfl rfl rfl 11 (.int .i64 order) _ #[.int .i64 1,.int .i64 0,.int .i64 0,.int .i64 0,.int .i64 0,.int .i64 a0,.int .i64 a1,.int .i64 a2,.int .i64 a3,.int .i64 0,.int .i64 0,.int .i64 order,.int .i64 thick,.string {data:=#[]},.int .i64 0,.int .i64 0,.int .i64 0,.int .i64 0,.int .i64 0,.int .i64 0,.int .i64 0,.slice none 0 0] Zx hst.out rfl rfl (Zat _ _ _) b2 hHeld (Yaa rfl) rfl ?_;clear b2 hHeld;intro W4 b2 hHeld;try simp only[Zsi,Zs0,Zss]
 refine tk 6 (some 29) ?_;refine Zid B2 117 7 rfl rfl rfl rfl 9 #[.int .i64 p0,.int .i64 p1] _ #[.int .i64 1,.int .i64 0,.int .i64 0,.int .i64 0,.int .i64 0,.int .i64 a0,.int .i64 a1,.int .i64 a2,.int .i64 a3,.int .i64 p0,.int .i64 p1,.int .i64 order,.int .i64 thick,.string {data:=#[]},.int .i64 0,.int .i64 0,.int .i64 0,.int .i64 0,.int .i64 0,.int .i64 0,.int .i64 0,.slice none 0 0] Zx hst.out rfl rfl b2 hHeld hi2 (Yaa rfl) (by simp[Value.oneCell']) rfl ?_;clear b2 hHeld;intro W4 b2 hHeld;try simp only[Zsi,Zs0,Zss]
 refine wpAnyH_done Zx ?_ _;have b0:Box W4 w.heap.size 117 A:=hHeld.2.box g0 Zo Zo;have hK:KeepBut B2 W3.heap.size W3 W4:=hHeld.2;clear hHeld hst g0;have cb0:=b0.cell;have hBW1:=hK.below hBW Zo Zo;have b14:Box W4 (w.heap.size+1) 117 _:=hK.box b13 (by have:=b13.lt;omega) Zo;clear hK b13;have b13:=b14;clear b14;replace hBW:=hBW1;clear hBW1 lb0;have lb0:=b0.lt;go_wp2
 clear cb0;refine wp_region_held_drew (S:=λw'=>(∀o,w'.cell? ⟨w.heap.size,o,none⟩=A[o]?)∧KeepBut B2 W4.heap.size W4 w') Zk ⟨b0.cell,(KeepBut.refl _ _).drew⟩ (λhHeld=>?_);have hst:∀(w':World) (i:Nat) (u:Value),((∀o,w'.cell? ⟨w.heap.size,o,none⟩=A[o]?)∧KeepBut B2 W4.heap.size W4 w')->((∀o,(w'.setCell ⟨B2,i,none⟩ u).cell? ⟨w.heap.size,o,none⟩=A[o]?)∧KeepBut B2 W4.heap.size W4 (w'.setCell ⟨B2,i,none⟩ u)):=λw' i u h=>⟨λo=>(Yet _ _ _ _ (by intro e;have:=congrArg Addr.block e;simp at this;omega)).trans (h.1 o),h.2.set i u⟩
 have g0:=b0;replace b2:=b2.drew;replace hst:=Yah hst;refine tk 0 (some 68) ?_;refine tk 1 (some 69) ?_;refine tk 2 (some 70) ?_;refine tk 3 (some 71) ?_;refine tk 4 (some 72) ?_;refine tk 5 (some 73) ?_;refine tk 6 (some 74) ?_;refine tk 7 (some 75) ?_;refine tk 8 (some 76) ?_;refine tk 9 (some 77) ?_;refine tk 10 (some 78) ?_;refine tk 11 (some 79) ?_;refine tk 12 (some 80) ?_;refine Zbl B2 117 13 rfl rfl rfl rfl 1 (.int .i64 curv) _ #[.int .i64 1,.int .i64 curv,.int .i64 0,.int .i64 0,.int .i64 0,.int .i64 a0,.int .i64 a1,.int .i64 a2,.int .i64 a3,.int .i64 p0,.int .i64 p1,.int .i64 order,.int .i64 thick,.string {data:=#[]},.int .i64 0,.int .i64 0,.int .i64 0,.int .i64 0,.int .i64 0,.int .i64 0,.int .i64 0,.slice none 0 0] Zx hst.out rfl rfl (Zat _ _ _) b2 hHeld (Yaa rfl) rfl ?_;clear b2 hHeld;intro W5 b2 hHeld;try simp only[Zsi,Zs0,Zss]
 refine tk 14 (some 81) ?_;refine Zbl B2 117 15 rfl rfl rfl rfl 2 (.int .i64 conic) _ #[.int .i64 1,.int .i64 curv,.int .i64 conic,.int .i64 0,.int .i64 0,.int .i64 a0,.int .i64 a1,.int .i64 a2,.int .i64 a3,.int .i64 p0,.int .i64 p1,.int .i64 order,.int .i64 thick,.string {data:=#[]},.int .i64 0,.int .i64 0,.int .i64 0,.int .i64 0,.int .i64 0,.int .i64 0,.int .i64 0,.slice none 0 0] Zx hst.out rfl rfl (Zat _ _ _) b2 hHeld (Yaa rfl) rfl ?_;clear b2 hHeld;intro W5 b2 hHeld;try simp only[Zsi,Zs0,Zss]
 refine tk 16 (some 82) ?_;refine Zbl B2 117 17 rfl rfl rfl rfl 13 (.string glass) _ #[.int .i64 1,.int .i64 curv,.int .i64 conic,.int .i64 0,.int .i64 0,.int .i64 a0,.int .i64 a1,.int .i64 a2,.int .i64 a3,.int .i64 p0,.int .i64 p1,.int .i64 order,.int .i64 thick,.string glass,.int .i64 0,.int .i64 0,.int .i64 0,.int .i64 0,.int .i64 0,.int .i64 0,.int .i64 0,.slice none 0 0] Zx hst.out rfl rfl (Zqq _ _ _) b2 hHeld (Yaa rfl) rfl ?_;clear b2 hHeld;intro W5 b2 hHeld;try simp only[Zsi,Zs0,Zss]
 refine tk 18 (some 83) ?_;refine Zbl B2 117 19 rfl rfl rfl rfl 14 (.int .i64 semi) _ #[.int .i64 1,.int .i64 curv,.int .i64 conic,.int .i64 0,.int .i64 0,.int .i64 a0,.int .i64 a1,.int .i64 a2,.int .i64 a3,.int .i64 p0,.int .i64 p1,.int .i64 order,.int .i64 thick,.string glass,.int .i64 semi,.int .i64 0,.int .i64 0,.int .i64 0,.int .i64 0,.int .i64 0,.int .i64 0,.slice none 0 0] Zx hst.out rfl rfl (Zat _ _ _) b2 hHeld (Yaa rfl) rfl ?_;clear b2 hHeld;intro W5 b2 hHeld;try simp only[Zsi,Zs0,Zss]
 refine tk 20 (some 84) ?_;refine Zbl B2 117 21 rfl rfl rfl rfl 15 (.int .i64 hole) _ #[.int .i64 1,.int .i64 curv,.int .i64 conic,.int .i64 0,.int .i64 0,.int .i64 a0,.int .i64 a1,.int .i64 a2,.int .i64 a3,.int .i64 p0,.int .i64 p1,.int .i64 order,.int .i64 thick,.string glass,.int .i64 semi,.int .i64 hole,.int .i64 0,.int .i64 0,.int .i64 0,.int .i64 0,.int .i64 0,.slice none 0 0] Zx hst.out rfl rfl (Zat _ _ _) b2 hHeld (Yaa rfl) rfl ?_;clear b2 hHeld;intro W5 b2 hHeld;try simp only[Zsi,Zs0,Zss]
 refine tk 22 (some 85) ?_;refine Zbl B2 117 23 rfl rfl rfl rfl 21 (.slice p nf c) _ #[.int .i64 1,.int .i64 curv,.int .i64 conic,.int .i64 0,.int .i64 0,.int .i64 a0,.int .i64 a1,.int .i64 a2,.int .i64 a3,.int .i64 p0,.int .i64 p1,.int .i64 order,.int .i64 thick,.string glass,.int .i64 semi,.int .i64 hole,.int .i64 0,.int .i64 0,.int .i64 0,.int .i64 0,.int .i64 0,.slice p nf c] Zx hst.out rfl rfl (Zdg _ _ p nf c) b2 hHeld (Yaa rfl) rfl ?_;clear b2 hHeld;intro W5 b2 hHeld;try simp only[Zsi,Zs0,Zss]
 refine wpAnyH_done Zx ?_ _;have b0:Box W5 w.heap.size 117 A:=hHeld.2.box g0 Zo Zo;have hK:KeepBut B2 W4.heap.size W4 W5:=hHeld.2;clear hHeld hst g0;have b1:Box W5 (w.heap.size+1) 117 _:=hK.box b13 (by have:=b13.lt;omega) Zo;go_wp2_with first|(refine Zac rfl 117 (.tmp 3) rfl B2 rfl 117 _ b2 _ Tryz.underlying117 rfl hi ?_)|(refine Zab rfl 117 (.tmp 2) (.tmp 86) rfl (w.heap.size+1) 0 117 _ #[.int .i64 1,.int .i64 curv,.int .i64 conic,.int .i64 0,.int .i64 0,.int .i64 a0,.int .i64 a1,.int .i64 a2,.int .i64 a3,.int .i64 p0,.int .i64 p1,.int .i64 order,.int .i64 thick,.string glass,.int .i64 semi,.int .i64 hole,.int .i64 0,.int .i64 0,.int .i64 0,.int .i64 0,.int .i64 0,.slice p nf c] #[.int .i64 1,.int .i64 curv,.int .i64 conic,.int .i64 0,.int .i64 0,.int .i64 a0,.int .i64 a1,.int .i64 a2,.int .i64 a3,.int .i64 p0,.int .i64 p1,.int .i64 order,.int .i64 thick,.string glass,.int .i64 semi,.int .i64 hole,.int .i64 0,.int .i64 0,.int .i64 0,.int .i64 0,.int .i64 0,.slice p nf c] rfl rfl b1 hi (Yaa rfl) (by simp[Value.oneCell']) rfl ?_;intro W9 hk9 b19)
 refine bodyPost_ret (b19.results rfl _ _ rfl Tryz.underlying117 rfl hi) rfl ?_;exact⟨rfl,hk9.below (hK.below hBW Zo Zo) Zo (by have:=b0.lt;omega)⟩
theorem Zod (kind curv conic curvx conicx a0 a1 a2 a3 p0 p1 order thick semi hole dx dy ax ay az:Int) (glass:ByteArray) (A:Array Value)
  (e0:A[0]? = some (.int .i64 kind))
  (e1:A[1]? = some (.int .i64 curv))
  (e2:A[2]? = some (.int .i64 conic))
  (e3:A[3]? = some (.int .i64 curvx))
  (e4:A[4]? = some (.int .i64 conicx))
  (e5:A[5]? = some (.int .i64 a0))
  (e6:A[6]? = some (.int .i64 a1))
  (e7:A[7]? = some (.int .i64 a2))
  (e8:A[8]? = some (.int .i64 a3))
  (e9:A[9]? = some (.int .i64 p0))
  (e10:A[10]? = some (.int .i64 p1))
  (e11:A[11]? = some (.int .i64 order))
  (e12:A[12]? = some (.int .i64 thick))
  (e13:A[13]? = some (.string glass))
  (e14:A[14]? = some (.int .i64 semi))
  (e15:A[15]? = some (.int .i64 hole))
  (e16:A[16]? = some (.int .i64 dx))
  (e17:A[17]? = some (.int .i64 dy))
  (e18:A[18]? = some (.int .i64 ax))
  (e19:A[19]? = some (.int .i64 ay))
  (e20:A[20]? = some (.int .i64 az))
  (w:World):Calls Tryz.prog 249 #[.agg A] w λe w'=>e=.returned (.agg #[.int .i64 kind,.int .i64 curv,.int .i64 conic,.int .i64 curvx,.int .i64 conicx,.int .i64 order,.int .i64 thick,.int .i64 semi,.int .i64 hole,.int .i64 dx,.int .i64 dy,.int .i64 ax,.int .i64 ay,.int .i64 az,.int .i64 0,.int .i64 0,.int .i64 a0,.int .i64 a1,.int .i64 a2,.int .i64 a3,.int .i64 p0,.int .i64 p1,.string glass])∧Below w.heap.size w w':=by
 go_enter Tryz.func249,Tryz.ntmps249
 have hi:(Tryz.prog.info? 300).map (·.size)=some 23:=Zk;go_step
 go_step
 go_step
 go_step
 go_step
 go_step
 go_step
 go_step
 go_step
 refine Zb8 λW hB hsz b0 b1=>?_;have f0:W.cell? ⟨w.heap.size,0,none⟩=some (.int .i64 kind):=(b0.cell 0).trans e0;have f1:W.cell? ⟨w.heap.size,1,none⟩=some (.int .i64 curv):=(b0.cell 1).trans e1;have f2:W.cell? ⟨w.heap.size,2,none⟩=some (.int .i64 conic):=(b0.cell 2).trans e2;have f3:W.cell? ⟨w.heap.size,3,none⟩=some (.int .i64 curvx):=(b0.cell 3).trans e3;have f4:W.cell? ⟨w.heap.size,4,none⟩=some (.int .i64 conicx):=(b0.cell 4).trans e4;have f5:W.cell? ⟨w.heap.size,5,none⟩=some (.int .i64 a0):=(b0.cell 5).trans e5;have f6:W.cell? ⟨w.heap.size,6,none⟩=some (.int .i64 a1):=(b0.cell 6).trans e6;have f7:W.cell? ⟨w.heap.size,7,none⟩=some (.int .i64 a2):=(b0.cell 7).trans e7;have f8:W.cell? ⟨w.heap.size,8,none⟩=some (.int .i64 a3):=(b0.cell 8).trans e8;have f9:W.cell? ⟨w.heap.size,9,none⟩=some (.int .i64 p0):=(b0.cell 9).trans e9;have f10:W.cell? ⟨w.heap.size,10,none⟩=some (.int .i64 p1):=(b0.cell 10).trans e10;have f11:W.cell? ⟨w.heap.size,11,none⟩=some (.int .i64 order):=(b0.cell 11).trans e11;have f12:W.cell? ⟨w.heap.size,12,none⟩=some (.int .i64 thick):=(b0.cell 12).trans e12;have f13:W.cell? ⟨w.heap.size,13,none⟩=some (.string glass):=(b0.cell 13).trans e13;have f14:W.cell? ⟨w.heap.size,14,none⟩=some (.int .i64 semi):=(b0.cell 14).trans e14;have f15:W.cell? ⟨w.heap.size,15,none⟩=some (.int .i64 hole):=(b0.cell 15).trans e15;have f16:W.cell? ⟨w.heap.size,16,none⟩=some (.int .i64 dx):=(b0.cell 16).trans e16;have f17:W.cell? ⟨w.heap.size,17,none⟩=some (.int .i64 dy):=(b0.cell 17).trans e17;have f18:W.cell? ⟨w.heap.size,18,none⟩=some (.int .i64 ax):=(b0.cell 18).trans e18;have f19:W.cell? ⟨w.heap.size,19,none⟩=some (.int .i64 ay):=(b0.cell 19).trans e19;have f20:W.cell? ⟨w.heap.size,20,none⟩=some (.int .i64 az):=(b0.cell 20).trans e20;clear e0 e1 e2 e3 e4 e5 e6 e7 e8 e9 e10 e11 e12 e13 e14 e15 e16 e17 e18 e19 e20 b0;go_wp2_with first|(refine Zak rfl 298 _ rfl #[.int .i64 kind,.int .i64 curv,.int .i64 conic,.int .i64 curvx,.int .i64 conicx,.int .i64 order,.int .i64 thick,.int .i64 semi,.int .i64 hole,.int .i64 dx,.int .i64 dy,.int .i64 ax,.int .i64 ay,.int .i64 az,.int .i64 0,.int .i64 0] Zx ?_)|(refine Zak rfl 300 _ rfl #[.int .i64 kind,.int .i64 curv,.int .i64 conic,.int .i64 curvx,.int .i64 conicx,.int .i64 order,.int .i64 thick,.int .i64 semi,.int .i64 hole,.int .i64 dx,.int .i64 dy,.int .i64 ax,.int .i64 ay,.int .i64 az,.int .i64 0,.int .i64 0,.int .i64 a0,.int .i64 a1,.int .i64 a2,.int .i64 a3,.int .i64 p0,.int .i64 p1,.string glass] Zx ?_)|(refine Zab rfl 300 (.tmp 2) (.tmp 38) rfl (w.heap.size+1) 0 300 _ #[.int .i64 kind,.int .i64 curv,.int .i64 conic,.int .i64 curvx,.int .i64 conicx,.int .i64 order,.int .i64 thick,.int .i64 semi,.int .i64 hole,.int .i64 dx,.int .i64 dy,.int .i64 ax,.int .i64 ay,.int .i64 az,.int .i64 0,.int .i64 0,.int .i64 a0,.int .i64 a1,.int .i64 a2,.int .i64 a3,.int .i64 p0,.int .i64 p1,.string glass] #[.int .i64 kind,.int .i64 curv,.int .i64 conic,.int .i64 curvx,.int .i64 conicx,.int .i64 order,.int .i64 thick,.int .i64 semi,.int .i64 hole,.int .i64 dx,.int .i64 dy,.int .i64 ax,.int .i64 ay,.int .i64 az,.int .i64 0,.int .i64 0,.int .i64 a0,.int .i64 a1,.int .i64 a2,.int .i64 a3,.int .i64 p0,.int .i64 p1,.string glass] rfl rfl b1 hi (Yaa rfl) (by simp[Value.oneCell']) rfl ?_;intro W2 hk2 hb2)
 refine bodyPost_ret (hb2.results rfl _ _ rfl Tryz.underlying300 rfl hi) rfl ?_;exact⟨rfl,hk2.below hB Zo Zo⟩
end Go.Proofs.W
