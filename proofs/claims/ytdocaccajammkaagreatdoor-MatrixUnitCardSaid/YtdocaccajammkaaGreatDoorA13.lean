/- Contracts of package matrix,and a verified evaluator. Part 13 of 28. No condition beside the row. -/
import Derived.Deep.Upon
import Derived.Laws.AppendOwn
import Derived.OrdersIn
import Derived.RecoverIn
import Derived.RangeFuncLeaves
import Derived.RangeFuncBound
import Derived.RangeFuncCalls
import Derived.RangeFuncNested
import Derived.DeepKeys
import Derived.TacticsIn
import Derived.Test.YtdocaccajammkaaGreatDoorA01
import Derived.Test.YtdocaccajammkaaGreatDoorA12
set_option linter.unusedVariables false
set_option linter.unusedSimpArgs false
set_option maxRecDepth 100000
set_option maxHeartbeats 4000000
namespace Go.Mono
open Go.RowKit
structure Srf where
 kind:Int
 curv:Int
 conic:Int
 curvx:Int
 conicx:Int
 a0:Int
 a1:Int
 a2:Int
 a3:Int
 p0:Int
 p1:Int
 order:Int
 thick:Int
 glass:ByteArray
 semi:Int
 hole:Int
 dx:Int
 dy:Int
 ax:Int
 ay:Int
 az:Int
 co:List Flm:=[]
def Srf.cs (s:Srf) (p:Option Addr) (c:Nat):Array Value:=
 #[.int .i64 s.kind,.int .i64 s.curv,.int .i64 s.conic,.int .i64 s.curvx,.int .i64 s.conicx,.int .i64 s.a0,.int .i64 s.a1,.int .i64 s.a2,.int .i64 s.a3,.int .i64 s.p0,.int .i64 s.p1,.int .i64 s.order,.int .i64 s.thick,.string s.glass,.int .i64 s.semi,.int .i64 s.hole,.int .i64 s.dx,.int .i64 s.dy,.int .i64 s.ax,.int .i64 s.ay,.int .i64 s.az,.slice p s.co.length c]
def NameOk (s:ByteArray):Prop:=1<=s.size∧s.size<=16∧∀i (hi:i<s.size),isLetter (s[i].toNat:Int)
def mirror:ByteArray:={data:=#[77,73,82,82,79,82]}
def Srf.kept (s:Srf):Srf:=
 let z:Srf:={kind:=s.kind,curv:=0,conic:=0,curvx:=0,conicx:=0,a0:=0,a1:=0,a2:=0,a3:=0,p0:=0,p1:=0,order:=0,thick:=s.thick,glass:={data:=#[]},semi:=0,hole:=0,dx:=0,dy:=0,ax:=0,ay:=0,az:=0,co:=[]}
 let all:Srf->Srf:=λz=>{z with curv:=s.curv,conic:=s.conic,glass:=s.glass,semi:=s.semi,hole:=s.hole,co:=s.co}
 if s.kind=1 then
  let z:={z with a0:=s.a0,a1:=s.a1,a2:=s.a2,a3:=s.a3}
  all (if s.order≠0∧s.glass≠mirror then {z with order:=s.order,p0:=s.p0,p1:=s.p1} else z)
 else if s.kind=2 then all {z with curvx:=s.curvx,conicx:=s.conicx}
 else if s.kind=3 then {z with dx:=s.dx,dy:=s.dy,ax:=s.ax,ay:=s.ay,az:=s.az}
 else if s.kind=4 then {z with curv:=s.curv,semi:=s.semi,hole:=s.hole}
 else all z
def In (m z:Int):Prop:=-m<=z∧z<=m
structure Srf.ok (s:Srf):Prop where
 k1:1<=s.kind
 k2:s.kind<=4
 kept:s.kept=s
 curv:In 1000000000 s.curv
 curvx:In 1000000000 s.curvx
 thick:In 1000000000 s.thick
 dx:In 1000000000 s.dx
 dy:In 1000000000 s.dy
 a0:In 1000000000 s.a0
 a1:In 1000000000 s.a1
 a2:In 1000000000 s.a2
 a3:In 1000000000 s.a3
 p0:In 1000000000 s.p0
 p1:In 1000000000 s.p1
 conic:In 100000000 s.conic
 conicx:In 100000000 s.conicx
 ax:In 90000000 s.ax
 ay:In 90000000 s.ay
 az:In 90000000 s.az
 order:In 3 s.order
 semi0:0<=s.semi
 semi1:s.semi<=1000000000
 hole0:0<=s.hole
 hole1:s.hole<=1000000000
 ring:s.semi=0∨s.hole<s.semi
 glass:s.glass = {data:=#[]}∨NameOk s.glass
 coats:s.co.length<=8
 films:∀f∈s.co,f.ok
theorem Zwi (w:World) (T:TypeId) (cs:Array Value) (n:Nat) (f:Nat->Int) (h:∀i,i<n->cs[i]? = some (.int .i64 (f i))) (hn:n<=1000):RdF (w.alloc (.cells cs T)) (some ⟨w.heap.size,0,none⟩) n n f:=by
 refine⟨Yab _,Zo,λ_=>⟨_,_,rfl,Zs,λi hi=>?_⟩⟩;rw[(Box.new w T cs).cell,Yba];exact h i hi
theorem RdF.box {w:World} {B:Nat} {T:TypeId} {cs:Array Value} (b:Box w B T cs) (off n:Nat) (f:Nat->Int) (h:∀i,i<n->cs[off+i]? = some (.int .i64 (f i))) (hn:n<=1000):RdF w (some ⟨B,off,none⟩) n n f:=by
 refine⟨Yab _,Zo,λ_=>⟨_,_,rfl,b.lt,λi hi=>?_⟩⟩;rw[b.cell];exact h i hi
end Go.Mono
namespace Go.Proofs.W
open Go.RowKit Go.Mono
theorem Zo3 (s:Srf) (hs:s.ok) (p:Option Addr) (c B:Nat) (w:World) (b0:Box w B 160 (s.cs p c)) :
  Calls Tryz.prog 302 #[.pointer (some ⟨B,0,none⟩)] w λe w'=>e=.returned (.bool true)∧Below w.heap.size w w':=by
 have cb0:=b0.cell;simp only[Srf.cs]at cb0;have h8:=hs.coats;generalize s.co.length=n at *;have hn8:(n:Int)<=8:=Zo;clear hs b0;go_enter Tryz.func302,Tryz.ntmps302
 go_wp2
 go_ret
 exact⟨rfl,Yae _ _⟩
theorem Zo4 (s:Srf) (hs:s.ok) (p:Option Addr) (c B:Nat) (w:World) (b0:Box w B 160 (s.cs p c)) :
  Calls Tryz.prog 301 #[.pointer (some ⟨B,0,none⟩)] w λe w'=>e=.returned (.bool true)∧Below w.heap.size w w':=by
 have cb0:=b0.cell;simp only[Srf.cs]at cb0;rcases hs.glass with h|h
 ·rw[h]at cb0
  go_enter Tryz.func301,Tryz.ntmps301
  go_wp2
  go_ret
  exact⟨rfl,Yae _ _⟩
 ·have hn:=Zrj s.glass h.1 h.2.1 h.2.2 w
  clear h hs b0;go_enter Tryz.func301,Tryz.ntmps301
  go_wp2_with (go_at_call 256;refine hn.mono ?_;rintro e w' ⟨rfl,rfl⟩)
  all_goals
   go_ret
   exact⟨rfl,Yae _ _⟩
theorem Zo5 (s:Srf) (hs:s.ok) (p:Option Addr) (c B:Nat) (w:World) (b0:Box w B 160 (s.cs p c)) :
  Calls Tryz.prog 300 #[.pointer (some ⟨B,0,none⟩)] w λe w'=>e=.returned (.bool true)∧Below w.heap.size w w':=by
 have cb0:=b0.cell;simp only[Srf.cs]at cb0;have h:=hs.ring;by_cases h0:s.semi=0
 ·rw[h0]at cb0
  go_enter Tryz.func300,Tryz.ntmps300
  go_wp2
  go_ret
  exact⟨rfl,Yae _ _⟩
 ·have h1:s.hole<s.semi:=by omega
  have h2:(s.semi==0)=false:=by simpa using h0
  clear h h0;go_enter Tryz.func300,Tryz.ntmps300
  go_wp2
  go_ret
  exact⟨rfl,Yae _ _⟩
end Go.Proofs.W
namespace Go.Mono
open Go.RowKit
theorem Zey (w:World) (T:TypeId) (l:List Int) (hn:l.length<=1000):RdF (w.alloc (.cells (l.map (Value.int .i64)).toArray T)) (some ⟨w.heap.size,0,none⟩) l.length l.length (λi=>l.getD i 0):=by
 refine Zwi w T _ _ _ (λi hi=>?_) hn;simp[hi]
theorem Zfl {m:Int} {l:List Int} (h:∀x∈l,In m x):∀i,i<l.length->-m<=l.getD i 0∧l.getD i 0<=m:=by
 intro i hi;have:=h l[i] (Ybw hi);simpa[hi,In]using this
end Go.Mono
namespace Go.Proofs.W
open Go.RowKit Go.Mono
theorem Zo6 (s:Srf) (hs:s.ok) (p:Option Addr) (c B:Nat) (w:World) (b0:Box w B 160 (s.cs p c)) :
  Calls Tryz.prog 296 #[.pointer (some ⟨B,0,none⟩)] w λe w'=>e=.returned (.bool true)∧Below w.heap.size w w':=by
 have cb0:=b0.cell;have bx:=λW (h:Below w.heap.size w W)=>(b0.below h).cell;simp only[Srf.cs]at cb0 bx;have h5:∀x∈[s.curv,s.curvx,s.thick,s.dx,s.dy],In 1000000000 x:=by
  intro x hx;have:=hs.curv;have:=hs.curvx;have:=hs.thick;have:=hs.dx;have:=hs.dy;simp at hx;rcases hx with rfl|rfl|rfl|rfl|rfl<;>assumption
 have h4:∀x∈[s.a0,s.a1,s.a2,s.a3],In 1000000000 x:=by
  intro x hx;have:=hs.a0;have:=hs.a1;have:=hs.a2;have:=hs.a3;simp at hx;rcases hx with rfl|rfl|rfl|rfl<;>assumption
 have h2:∀x∈[s.p0,s.p1],In 1000000000 x:=by
  intro x hx;have:=hs.p0;have:=hs.p1;simp at hx;rcases hx with rfl|rfl<;>assumption
 go_enter Tryz.func296,Tryz.ntmps296
 go_wp2_with fail
 refine(Zd4 1000000000 5 _ 5 (λi=>[s.curv,s.curvx,s.thick,s.dx,s.dy].getD i 0) _ (Zey w 3 [s.curv,s.curvx,s.thick,s.dx,s.dy] Zs) Zo Zo (Zfl h5)).mono ?_;rintro e W1 ⟨rfl,hb1⟩;have hB1:=Zaa (Zad (Yae _ _) _) hb1;have b1:=b0.below hB1;have cb1:=bx W1 hB1;go_wp2_with fail
 refine(Zd4 1000000000 4 _ 4 (λi=>[s.a0,s.a1,s.a2,s.a3].getD i 0) _ (RdF.box b1 5 4 _ ?_ Zd) Zo Zo (Zfl h4)).mono ?_
 ·intro i hi
  rcases(by omega:i=0∨i=1∨i=2∨i=3) with rfl|rfl|rfl|rfl<;>rfl
 rintro e W2 ⟨rfl,hb2⟩;have hB2:=Zaa hB1 hb2;have b2:=b0.below hB2;have cb2:=bx W2 hB2;go_wp2_with fail
 refine(Zd4 1000000000 2 _ 2 (λi=>[s.p0,s.p1].getD i 0) _ (RdF.box b2 9 2 _ ?_ Zd) Zo Zo (Zfl h2)).mono ?_
 ·intro i hi
  rcases(by omega:i=0∨i=1) with rfl|rfl<;>rfl
 rintro e W3 ⟨rfl,hb3⟩;go_wp2
 go_ret
 exact⟨rfl,Zaa hB2 hb3⟩
theorem Zo7 (s:Srf) (hs:s.ok) (p:Option Addr) (c B:Nat) (w:World) (b0:Box w B 160 (s.cs p c)) :
  Calls Tryz.prog 298 #[.pointer (some ⟨B,0,none⟩)] w λe w'=>e=.returned (.bool true)∧Below w.heap.size w w':=by
 have cb0:=b0.cell;have bx:=λW (h:Below w.heap.size w W)=>(b0.below h).cell;simp only[Srf.cs]at cb0 bx;have h2:∀x∈[s.conic,s.conicx],In 100000000 x:=by
  intro x hx;have:=hs.conic;have:=hs.conicx;simp at hx;rcases hx with rfl|rfl<;>assumption
 have h3:∀x∈[s.ax,s.ay,s.az],In 90000000 x:=by
  intro x hx;have:=hs.ax;have:=hs.ay;have:=hs.az;simp at hx;rcases hx with rfl|rfl|rfl<;>assumption
 go_enter Tryz.func298,Tryz.ntmps298
 go_wp2_with fail
 refine(Zd4 100000000 2 _ 2 (λi=>[s.conic,s.conicx].getD i 0) _ (Zey w 3 [s.conic,s.conicx] Zs) Zo Zo (Zfl h2)).mono ?_;rintro e W1 ⟨rfl,hb1⟩;have hB1:=Zaa (Zad (Yae _ _) _) hb1;have cb1:=bx W1 hB1;go_wp2_with fail
 refine(Zd4 90000000 3 _ 3 (λi=>[s.ax,s.ay,s.az].getD i 0) _ (Zey W1 3 [s.ax,s.ay,s.az] Zs) Zo Zo (Zfl h3)).mono ?_;rintro e W2 ⟨rfl,hb2⟩;go_wp2
 go_ret
 exact⟨rfl,Zaa (Zad hB1 _) hb2⟩
theorem Zo8 (s:Srf) (hs:s.ok) (p:Option Addr) (c B:Nat) (w:World) (b0:Box w B 160 (s.cs p c)) :
  Calls Tryz.prog 299 #[.pointer (some ⟨B,0,none⟩)] w λe w'=>e=.returned (.bool true)∧Below w.heap.size w w':=by
 have cb0:=b0.cell;have bx:=λW (h:Below w.heap.size w W)=>(b0.below h).cell;simp only[Srf.cs]at cb0 bx;have h1:∀x∈[s.order],In 3 x:=by
  intro x hx;have:=hs.order;simp at hx;subst hx;assumption
 have h2:∀i,i<2->0<=[s.semi,s.hole].getD i 0∧[s.semi,s.hole].getD i 0<=1000000000:=by
  intro i hi;have:=hs.semi0;have:=hs.semi1;have:=hs.hole0;have:=hs.hole1;rcases(by omega:i=0∨i=1) with rfl|rfl<;>constructor<;>assumption
 go_enter Tryz.func299,Tryz.ntmps299
 go_wp2_with fail
 refine(Zd4 3 1 _ 1 (λi=>[s.order].getD i 0) _ (Zey w 3 [s.order] Zs) Zo Zo (Zfl h1)).mono ?_;rintro e W1 ⟨rfl,hb1⟩;have hB1:=Zaa (Zad (Yae _ _) _) hb1;have cb1:=bx W1 hB1;go_wp2_with fail
 refine(Zfk 0 1000000000 2 _ 2 (λi=>[s.semi,s.hole].getD i 0) _ (Zey W1 3 [s.semi,s.hole] Zs) h2).mono ?_;rintro e W2 ⟨rfl,hb2⟩;go_wp2
 go_ret
 exact⟨rfl,Zaa (Zad hB1 _) hb2⟩
end Go.Proofs.W
namespace Go.Ex
open Go.RowKit Go.Mono
section
structure Frm (w0:World) (X:Nat->Prop) (w:World):Prop where
 os:w.os=w0.os
 tape:w.tape=w0.tape
 output:w.output=w0.output
 size:w0.heap.size<=w.heap.size
 block:∀i,i<w0.heap.size->¬X i->w.heap[i]? = w0.heap[i]?
theorem Frm.refl (w:World) (X:Nat->Prop):Frm w X w:=⟨rfl,rfl,rfl,Yab _,λ_ _ _=>rfl⟩
theorem Frm.below {w0 w:World} (h:Frm w0 (λ_=>False) w):Below w0.heap.size w0 w:=⟨h.os,h.tape,h.output,h.size,λk hk=>h.block k hk id⟩
theorem Frm.of_below {w0 w:World} (h:Below w0.heap.size w0 w) (X:Nat->Prop):Frm w0 X w:=⟨h.os,h.tape,h.output,h.size,λk hk _=>h.block k hk⟩
abbrev Liv (bk:List (Nat×Blk)) (k:Nat) (b:Blk):Prop:=bk.look k=some b∧b.dead=false
structure Sat (D:Den) (w0:World) (X:Nat->Prop) (th:Nat) (ρ:Nm) (wc w:World) (bk:List (Nat×Blk)):Prop where
 fr:Frm w0 X w
 ext:Ext wc w
 inj:∀k k' b b' B B',Liv bk k b->Liv bk k' b'->ρ k=some B->ρ k'=some B'->B.blk=B'.blk->k=k'∨(B.ro=true∧B'.ro=true)
 lt:∀k B,ρ k=some B->B.blk<w.heap.size
 box:∀k b,Liv bk k b->∃B cs,ρ k=some B∧Holds w B b.T b.sp cs∧denL D ρ wc b.cells cs∧(b.ro=false->w0.heap.size<=B.blk∨X B.blk)∧(b.T=3->th<=k->wc.heap.size<=B.blk)∧B.ro=b.ro
structure Evo (ρ:Nm) (wc w:World) (bk:List (Nat×Blk)) (c c':Nat) (ρ':Nm) (wc' w':World) (bk':List (Nat×Blk)):Prop where
 rho:ρ.le ρ'
 ext:Ext wc wc'
 size:w.heap.size<=w'.heap.size
 os:w'.os=w.os
 tape:w'.tape=w.tape
 output:w'.output=w.output
 loc:∀i,i<w.heap.size->(∀k b B,Liv bk k b->ρ k=some B->B.ro=false->B.blk≠i)->w'.heap[i]? = w.heap[i]?
 ids:∀k b,Liv bk' k b->(∃b0,Liv bk k b0)∨(c<=k∧k<c'∧∃B,ρ' k=some B∧(w.heap.size<=B.blk∨∃k0 b0 B0,Liv bk k0 b0∧ρ k0=some B0∧B0.ro=false∧B0.blk=B.blk))
 cc:c<=c'
 dom:∀k,(k<c∨c'<=k)->ρ' k=ρ k
theorem Evo.refl (ρ:Nm) (wc w:World) (bk:List (Nat×Blk)) (c:Nat):Evo ρ wc w bk c c ρ wc w bk:=
 ⟨Nm.le.refl _,Ext.refl _,Yab _,rfl,rfl,rfl,λ_ _ _=>rfl,λk b h=>.inl ⟨b,h⟩,Yab _,λ_ _=>rfl⟩
theorem Evo.trans {ρ ρ1 ρ2:Nm} {wc w wc1 w1 wc2 w2:World} {bk bk1 bk2:List (Nat×Blk)} {c c1 c2:Nat}
  (h:Evo ρ wc w bk c c1 ρ1 wc1 w1 bk1) (g:Evo ρ1 wc1 w1 bk1 c1 c2 ρ2 wc2 w2 bk2) (hlt:∀k b,Liv bk k b->∃B,ρ k=some B):Evo ρ wc w bk c c2 ρ2 wc2 w2 bk2 where
 rho:=h.rho.trans g.rho
 ext:=h.ext.trans g.ext
 size:=Yak h.size g.size
 os:=g.os.trans h.os
 tape:=g.tape.trans h.tape
 output:=g.output.trans h.output
 loc:=λi hi hn=>by
  rw[g.loc i (Yaf hi h.size) ?_,h.loc i hi hn];intro k b C hk he hro;rcases h.ids k b hk with ⟨b',hb'⟩|⟨_,_,B,hB,hle⟩
  ·obtain⟨B,hB⟩:=hlt k b' hb'
   have:=h.rho k B hB;rw[he]at this;cases this;exact hn k b' C hb' hB hro
  ·rw[he]at hB
   cases hB;rcases hle with hle|⟨k0,b0,B0,h1,h2,h3,h4⟩
   ·omega
   ·rw[<-h4];exact hn k0 b0 B0 h1 h2 h3
 ids:=λk b hk=>by
  have hc1:=h.cc;have hc2:=g.cc;rcases g.ids k b hk with ⟨b',hb'⟩|⟨k1,k2,B,hB,hle⟩
  ·rcases h.ids k b' hb' with h2|⟨k1,k2,B,hB,hle⟩
   ·exact .inl h2
   ·exact .inr ⟨k1,Zo,B,g.rho k B hB,hle⟩
  ·refine .inr ⟨Zo,k2,B,hB,?_⟩
   rcases hle with hle|⟨k0,b0,B0,h1,h2,h3,h4⟩
   ·exact .inl (Yak h.size hle)
   ·rcases h.ids k0 b0 h1 with ⟨b',hb'⟩|⟨_,_,B1,hB1,hle⟩
    ·obtain⟨B1,hB1⟩:=hlt k0 b' hb'
     have:=h.rho k0 B1 hB1;rw[h2]at this;cases this;exact .inr ⟨k0,b',B0,hb',hB1,h3,h4⟩
    ·rw[h2]at hB1
     cases hB1;rw[<-h4];exact hle
 cc:=Yak h.cc g.cc
 dom:=λk hk=>by
  have h1:=h.cc;have h2:=g.cc;rw[g.dom k Zo,h.dom k Zo]
section
variable {D:Den} {w0:World} {X:Nat->Prop} {th:Nat} {ρ:Nm} {wc w:World} {bk:List (Nat×Blk)}
theorem Sat.named (h:Sat D w0 X th ρ wc w bk):∀k b,Liv bk k b->∃B,ρ k=some B:=λk b hk=>let ⟨B,_,hB,_⟩:=h.box k b hk;⟨B,hB⟩
theorem Sat.bkOk (h:Sat D w0 X th ρ wc w bk):BkOk D ρ wc w bk:=λk b hk hd=>let ⟨B,cs,h1,h2,h3,_,_,h6⟩:=h.box k b ⟨hk,hd⟩;⟨B,cs,h1,h2,h3,h6⟩
theorem Sat.mono (h:Sat D w0 X th ρ wc w bk) {th':Nat} (hle:th<=th'):Sat D w0 X th' ρ wc w bk:=
 ⟨h.fr,h.ext,h.inj,h.lt,λk b hk=>let ⟨B,cs,h1,h2,h3,h4,h5,h6⟩:=h.box k b hk;⟨B,cs,h1,h2,h3,h4,λht hh=>h5 ht (Yak hle hh),h6⟩⟩
def addNm (ρ:Nm) (k:Nat) (B:Pl):Nm:=λj=>if j=k then some B else ρ j
theorem Zbf (ρ:Nm) (k:Nat) (B:Pl):addNm ρ k B k=some B:=by simp[addNm]
theorem Zaw (ρ:Nm) {k j:Nat} (B:Pl) (h:j≠k):addNm ρ k B j=ρ j:=by simp[addNm,h]
theorem Zd2 {ρ:Nm} {k:Nat} {B:Pl} (h:ρ k=none):ρ.le (addNm ρ k B):=λj C hj=>by
 by_cases e:j=k
 ·subst e;rw[h]at hj;cases hj
 ·rw[Zaw _ _ e];exact hj
theorem Zbr {k j:Nat} {b x:Blk} {l:List (Nat×Blk)} (h:Liv ((k,x)::l) j b):(j=k∧b=x∧x.dead=false)∨(j≠k∧Liv l j b):=by
 obtain⟨h,hd⟩:=h;rw[Zav]at h;by_cases e:j=k
 ·rw[if_pos e]at h;cases h;exact .inl ⟨e,rfl,hd⟩
 ·rw[if_neg e]at h;exact .inr ⟨e,h,hd⟩
theorem Sat.alloc (h:Sat D w0 X th ρ wc w bk) {k:Nat} (hk:ρ k=none) (T:TypeId) (sp:Bool) (cap tot:Nat) {l:List U} {cs rest:List Value} (hl:denL D ρ wc l cs) (hsp:sp=false->rest=[]) (htot:sp=true->(cs++rest).length=tot) :
  Sat D w0 X th (addNm ρ k ⟨w.heap.size,0,false,cap,tot⟩) wc (w.alloc (.cells (cs++rest).toArray T)) ((k,⟨T,l,false,sp,false⟩)::bk)∧
  Evo ρ wc w bk k (k+1) (addNm ρ k ⟨w.heap.size,0,false,cap,tot⟩) wc (w.alloc (.cells (cs++rest).toArray T)) ((k,⟨T,l,false,sp,false⟩)::bk):=by
 have hle:=Zd2 (B:=⟨w.heap.size,0,false,cap,tot⟩) hk;have hb:Below w.heap.size w (w.alloc (.cells (cs++rest).toArray T)):=Zad (Yae _ _) _;have hnew:=Zbf ρ k ⟨w.heap.size,0,false,cap,tot⟩;refine⟨⟨⟨h.fr.os,h.fr.tape,h.fr.output,Yak h.fr.size hb.size,λi hi hx=>(hb.block i (Yaf hi h.fr.size)).trans (h.fr.block i hi hx)⟩,
  h.ext.alloc _,?_,?_,?_⟩,⟨hle,Ext.refl _,hb.size,rfl,rfl,rfl,λi hi _=>hb.block i hi,?_,Zo,?_⟩⟩
 ·intro j j' b b' B B' hj hj' h1 h2 he
  rcases Zbr hj with ⟨e1,_,_⟩|⟨e1,hj⟩<;>rcases Zbr hj' with ⟨e2,_,_⟩|⟨e2,hj'⟩
  ·exact .inl (by rw[e1,e2])
  ·subst e1
   rw[hnew]at h1;rw[Zaw _ _ e2]at h2;cases h1;have:=h.lt j' _ h2;dsimp only at he;omega
  ·subst e2
   rw[Zaw _ _ e1]at h1;rw[hnew]at h2;cases h2;have:=h.lt j _ h1;dsimp only at he;omega
  ·rw[Zaw _ _ e1]at h1;rw[Zaw _ _ e2]at h2
   exact h.inj j j' b b' B B' hj hj' h1 h2 he
 ·intro j B h1
  by_cases e1:j=k
  ·subst e1;rw[hnew]at h1;cases h1;simp
  ·rw[Zaw _ _ e1]at h1
   exact Yaf (h.lt j B h1) hb.size
 ·intro j b hj
  rcases Zbr hj with ⟨rfl,rfl,_⟩|⟨e1,hj⟩
  ·exact⟨_,cs,hnew,.inr ⟨rfl,rfl,rest,hsp,htot,Box.new _ _ _⟩,hl.mono hle (Ext.refl _),λ_=>.inl h.fr.size,λ_ _=>h.ext.size,rfl⟩
  ·obtain⟨B,cs',h1,h2,h3,h4,h5,h6⟩:=h.box j b hj
   exact⟨B,cs',hle j B h1,h2.of_block (hb.block _ (h.lt j B h1)),h3.mono hle (Ext.refl _),h4,h5,h6⟩
 ·intro j b hj
  rcases Zbr hj with ⟨rfl,rfl,_⟩|⟨e1,hj⟩
  ·exact .inr ⟨Yab _,Zo,_,hnew,.inl (Yab _)⟩
  ·exact .inl ⟨b,hj⟩
 ·intro j hj
  exact Zaw _ _ Zo
theorem Zq2 (h:Sat D w0 X th ρ wc w bk) {k:Nat} {b:Blk} (hk:Liv bk k b) {B:Pl} (hB:ρ k=some B) (hro:b.ro=false) (hT:b.T≠3∨th<=k) (off:Nat) (ps:List Value):Ext wc (w.setCells B.blk off ps):=by
 obtain⟨B',cs,h1,h2,h3,h4,h5,h6⟩:=h.box k b hk;cases hB.symm.trans h1;have hks:KeepBut B.blk w.heap.size w (w.setCells B.blk off ps):=(KeepBut.refl _ _).setCells _ _ _;rcases h2 with ⟨g,_⟩|⟨_,hbase,rest,_,_,h2⟩
 ·rw[h6,hro]at g;cases g
 ·by_cases hT3:b.T=3
  ·have h6:=h5 hT3 (hT.resolve_left λhh=>hh hT3)
   refine⟨Yak h.ext.size hks.size,λj ds fr hj=>?_⟩;have h7:=h.ext.kept j ds fr hj;have h8:=Zaq hj;rw[hks.block j (Zaq h7) Zo];exact h7
  ·exact h.ext.trans (hks.ext h2 hT3)
theorem Sat.store (h:Sat D w0 X th ρ wc w bk) {k:Nat} {b:Blk} (hk:Liv bk k b) (hro:b.ro=false) {off:Nat} {us l:List U} {ps:List Value} (hput:putX b.cells off us=some l) (hp:denL D ρ wc us ps)
  (hT:b.T≠3∨th<=k) {B:Pl} (hB:ρ k=some B) (c:Nat) :
  Sat D w0 X th ρ wc (w.setCells B.blk off ps) ((k,⟨b.T,l,false,b.sp,false⟩)::bk)∧Evo ρ wc w bk c c ρ wc (w.setCells B.blk off ps) ((k,⟨b.T,l,false,b.sp,false⟩)::bk)∧w.there B.blk off ps.length∧B.base=0:=by
 have hext:=Zq2 h hk hB hro hT off ps;obtain⟨B',cs,h1,h2,h3,h4,h5,h6⟩:=h.box k b hk;cases hB.symm.trans h1;have hBro:B.ro=false:=h6.trans hro;obtain⟨hbase,rest,hr1,hr2,h2'⟩:B.base=0∧∃rest,(b.sp=false->rest=[])∧(b.sp=true->(cs++rest).length=B.tot)∧Box w B.blk b.T (cs++rest).toArray:=by
  rcases h2 with ⟨g,_⟩|⟨_,g⟩
  ·rw[hBro]at g;cases g
  ·exact g
 obtain⟨q1,q2⟩:=Zno hput h3 hp;have hks:KeepBut B.blk w.heap.size w (w.setCells B.blk off ps):=(KeepBut.refl _ _).setCells _ _ _;have hbx0:=Box.setCells ps off w _ h2' (by simp;omega);have hcut:((cs++rest).toArray.toList.take off++ps++(cs++rest).toArray.toList.drop (off+ps.length))=(cs.take off++ps++cs.drop (off+ps.length))++rest:=by
  simp only[Yex];rw[Yfr Zo,List.drop_append_of_le_length Zo];simp
 have hbx:Box (w.setCells B.blk off ps) B.blk b.T ((cs.take off++ps++cs.drop (off+ps.length))++rest).toArray:=by
  rw[<-hcut];exact hbx0
 have hlen:(cs.take off++ps++cs.drop (off+ps.length)).length=cs.length:=by
  simp only[Yay,Ycq,Yfs];omega
 refine⟨⟨⟨?_,?_,?_,?_,?_⟩,hext,?_,λj C hj=>Yaf (h.lt j C hj) hks.size,?_⟩,⟨Nm.le.refl _,Ext.refl _,hks.size,hks.os,hks.tape,hks.output,?_,?_,Yab _,λ_ _=>rfl⟩,?_,hbase⟩
 ·exact hks.os.trans h.fr.os
 ·exact hks.tape.trans h.fr.tape
 ·exact hks.output.trans h.fr.output
 ·exact Yak h.fr.size hks.size
 ·intro i hi hx
  rw[hks.block i (Yaf hi h.fr.size) (by
   intro e;subst e;rcases h4 hro with h4|h4
   ·omega
   ·exact hx h4)]
  exact h.fr.block i hi hx
 ·intro j j' x x' C C' hj hj' e1 e2 he
  have f:∀{j x},Liv ((k,⟨b.T,l,false,b.sp,false⟩)::bk) j x->∃x,Liv bk j x:=λhj=>by
   rcases Zbr hj with ⟨rfl,_,_⟩|⟨_,hj⟩
   ·exact⟨b,hk⟩
   ·exact⟨_,hj⟩
  obtain⟨y,hy⟩:=f hj;obtain⟨y',hy'⟩:=f hj';exact h.inj j j' y y' C C' hy hy' e1 e2 he
 ·intro j b' hj
  rcases Zbr hj with ⟨rfl,rfl,_⟩|⟨e1,hj⟩
  ·exact⟨B,_,h1,.inr ⟨hBro,hbase,rest,hr1,λhs=>by rw[Yay,hlen,<-Yay];exact hr2 hs,hbx⟩,q1,λ_=>h4 hro,h5,hBro⟩
  ·obtain⟨C,ds,g1,g2,g3,g4,g5,g6⟩:=h.box j b' hj
   refine⟨C,ds,g1,g2.of_block (hks.block _ (h.lt j C g1) λe=>?_),g3,g4,g5,g6⟩;rcases h.inj j k b' b C B hj hk g1 h1 e with h7|h7
   ·exact e1 h7
   ·rw[hBro]at h7;cases h7.2
 ·intro i hi hn
  exact hks.block i hi (λe=>hn k b B hk h1 hBro e.symm)
 ·intro j b' hj
  rcases Zbr hj with ⟨rfl,_,_⟩|⟨_,hj⟩
  ·exact .inl ⟨b,hk⟩
  ·exact .inl ⟨b',hj⟩
 ·exact h2'.there off ps.length (by simp;omega)
theorem Sat.push (h:Sat D w0 X th ρ wc w bk) {k:Nat} {b:Blk} (hk:Liv bk k b) (hro:b.ro=false) (hsp:b.sp=true) {us:List U} {ps:List Value} (hp:denL D ρ wc us ps)
  (hT:b.T≠3∨th<=k) {B:Pl} (hB:ρ k=some B) {c:Nat} (hc:ρ c=none) (hroom:widths b.cells+ps.length<=B.tot) (hck:c≠k) :
  Sat D w0 X th (addNm ρ c B) wc (w.setCells B.blk (widths b.cells) ps) ((k,⟨b.T,[],false,true,true⟩)::(c,⟨b.T,b.cells++us,false,true,false⟩)::bk)∧
  Evo ρ wc w bk c (c+1) (addNm ρ c B) wc (w.setCells B.blk (widths b.cells) ps) ((k,⟨b.T,[],false,true,true⟩)::(c,⟨b.T,b.cells++us,false,true,false⟩)::bk)∧w.there B.blk (widths b.cells) ps.length∧B.base=0:=by
 have hext:=Zq2 h hk hB hro hT (widths b.cells) ps;obtain⟨B',cs,h1,h2,h3,h4,h5,h6⟩:=h.box k b hk;cases hB.symm.trans h1;have hBro:B.ro=false:=h6.trans hro;have hle:=Zd2 (B:=B) hc;have hnew:=Zbf ρ c B;obtain⟨hbase,rest,hr1,hr2,h2'⟩:B.base=0∧∃rest,(b.sp=false->rest=[])∧(b.sp=true->(cs++rest).length=B.tot)∧Box w B.blk b.T (cs++rest).toArray:=by
  rcases h2 with ⟨g,_⟩|⟨_,g⟩
  ·rw[hBro]at g;cases g
  ·exact g
 have hw:=h3.len;have hlen0:=hr2 hsp;rw[Yay]at hlen0;have hks:KeepBut B.blk w.heap.size w (w.setCells B.blk (widths b.cells) ps):=(KeepBut.refl _ _).setCells _ _ _;have hbx0:=Box.setCells ps (widths b.cells) w _ h2' (by simp;omega);have hcut:((cs++rest).toArray.toList.take (widths b.cells)++ps++(cs++rest).toArray.toList.drop (widths b.cells+ps.length))=(cs++ps)++rest.drop ps.length:=by
  simp only[Yex];rw[Yfr Zo,Ycm Zo,List.drop_append,Yfi Zo,Ydp];congr 2
  omega
 have hbx:Box (w.setCells B.blk (widths b.cells) ps) B.blk b.T ((cs++ps)++rest.drop ps.length).toArray:=by
  rw[<-hcut];exact hbx0
 have livs:∀{j x},Liv ((k,⟨b.T,[],false,true,true⟩)::(c,⟨b.T,b.cells++us,false,true,false⟩)::bk) j x->j≠k∧((j=c∧x=⟨b.T,b.cells++us,false,true,false⟩)∨(j≠c∧Liv bk j x)):=λhj=>by
  rcases Zbr hj with ⟨_,_,hd⟩|⟨e1,hj⟩
  ·cases hd
  ·rcases Zbr hj with ⟨e2,e3,_⟩|⟨e2,hj⟩
   ·exact⟨e1,.inl ⟨e2,e3⟩⟩
   ·exact⟨e1,.inr ⟨e2,hj⟩⟩
 refine⟨⟨⟨?_,?_,?_,?_,?_⟩,hext,?_,?_,?_⟩,⟨hle,Ext.refl _,hks.size,hks.os,hks.tape,hks.output,?_,?_,Zo,?_⟩,?_,hbase⟩
 ·exact hks.os.trans h.fr.os
 ·exact hks.tape.trans h.fr.tape
 ·exact hks.output.trans h.fr.output
 ·exact Yak h.fr.size hks.size
 ·intro i hi hx
  rw[hks.block i (Yaf hi h.fr.size) (by
   intro e;subst e;rcases h4 hro with h4|h4
   ·omega
   ·exact hx h4)]
  exact h.fr.block i hi hx
 ·intro j j' x x' C C' gj gj' e1 e2 he
  obtain⟨nk,hj⟩:=livs gj;obtain⟨nk',hj'⟩:=livs gj';clear gj gj';rcases hj with ⟨a1,_⟩|⟨a1,hj⟩<;>rcases hj' with ⟨a2,_⟩|⟨a2,hj'⟩
  ·exact .inl (a1.trans a2.symm)
  ·subst a1
   rw[hnew]at e1;rw[Zaw _ _ a2]at e2;cases e1;rcases h.inj k j' b x' B C' hk hj' h1 e2 he with h7|h7
   ·exact absurd h7.symm nk'
   ·rw[hBro]at h7;cases h7.1
  ·subst a2
   rw[Zaw _ _ a1]at e1;rw[hnew]at e2;cases e2;rcases h.inj j k x b C B hj hk e1 h1 he with h7|h7
   ·exact absurd h7 nk
   ·rw[hBro]at h7;cases h7.2
  ·rw[Zaw _ _ a1]at e1;rw[Zaw _ _ a2]at e2
   exact h.inj j j' x x' C C' hj hj' e1 e2 he
 ·intro j C hj
  by_cases e:j=c
  ·subst e;rw[hnew]at hj;cases hj;exact Yaf (h.lt k _ h1) hks.size
  ·rw[Zaw _ _ e]at hj;exact Yaf (h.lt j C hj) hks.size
 ·intro j b' hj
  obtain⟨nk,hj⟩:=livs hj;rcases hj with ⟨rfl,rfl⟩|⟨e2,hj⟩
  ·refine⟨B,cs++ps,hnew,.inr ⟨hBro,hbase,rest.drop ps.length,(λhh=>by cases hh),λ_=>?_,hbx⟩,(h3.append hp).mono hle (Ext.refl _),λ_=>h4 hro,λht hh=>?_,hBro⟩
   ·simp only[Yay,Yfs];omega
   ·exact h5 ht (hT.resolve_left λhh=>hh ht)
  ·obtain⟨C,ds,g1,g2,g3,g4,g5,g6⟩:=h.box j b' hj
   refine⟨C,ds,hle j C g1,g2.of_block (hks.block _ (h.lt j C g1) λe=>?_),g3.mono hle (Ext.refl _),g4,g5,g6⟩;rcases h.inj j k b' b C B hj hk g1 h1 e with h7|h7
   ·exact nk h7
   ·rw[hBro]at h7;cases h7.2
 ·intro i hi hn
  exact hks.block i hi (λe=>hn k b B hk h1 hBro e.symm)
 ·intro j b' hj
  obtain⟨nk,hj⟩:=livs hj;rcases hj with ⟨rfl,_⟩|⟨e2,hj⟩
  ·exact .inr ⟨Yab _,Zo,B,hnew,.inr ⟨k,b,B,hk,h1,hBro,rfl⟩⟩
  ·exact .inl ⟨b',hj⟩
 ·intro j hj
  exact Zaw _ _ Zo
 ·exact h2'.there (widths b.cells) ps.length (by simp;omega)
theorem Sat.call (h:Sat D w0 X th ρ wc w bk) {w':World} (hb:Below w.heap.size w w') (c t:Nat) (hf:∀k b,bk.look k=some b->¬t<=k) :
  Sat D w0 X t ρ w' w' bk∧Evo ρ wc w bk c c ρ w' w' bk:=by
 have hx:Ext wc w':=h.ext.trans (.of_below hb);refine⟨⟨⟨hb.os.trans h.fr.os,hb.tape.trans h.fr.tape,hb.output.trans h.fr.output,Yak h.fr.size hb.size,λi hi hX=>(hb.block i (Yaf hi h.fr.size)).trans (h.fr.block i hi hX)⟩,
  Ext.refl _,h.inj,λj C hj=>Yaf (h.lt j C hj) hb.size,?_⟩,⟨Nm.le.refl _,hx,hb.size,hb.os,hb.tape,hb.output,λi hi _=>hb.block i hi,λk b hk=>.inl ⟨b,hk⟩,Yab _,λ_ _=>rfl⟩⟩
 intro j b hj;obtain⟨B,cs,h1,h2,h3,h4,h5,h6⟩:=h.box j b hj;exact⟨B,cs,h1,h2.of_block (hb.block _ (h.lt j B h1)),h3.mono (Nm.le.refl _) hx,h4,λ_ hh=>absurd hh (hf j b hj.1),h6⟩
theorem Sat.drew (h:Sat D w0 X th ρ wc w bk):Sat D w0 X th ρ wc w.drew bk:=
 ⟨⟨h.fr.os,h.fr.tape,h.fr.output,h.fr.size,h.fr.block⟩,h.ext.drew,h.inj,h.lt,λk b hk=>let ⟨B,cs,h1,h2,h3⟩:=h.box k b hk;⟨B,cs,h1,h2.of_block rfl,h3⟩⟩
theorem Evo.drew (ρ:Nm) (wc w:World) (bk:List (Nat×Blk)) (c:Nat):Evo ρ wc w bk c c ρ wc w.drew bk:=
 ⟨Nm.le.refl _,Ext.refl _,Yab _,rfl,rfl,rfl,λ_ _ _=>rfl,λk b h=>.inl ⟨b,h⟩,Yab _,λ_ _=>rfl⟩
end
end
section
theorem Zbb {α:Type} (l m:List (Nat×α)) (k:Nat):(l++m).look k=(l.look k).or (m.look k):=by
 induction l with
 | nil=>simp
 | cons p r ih =>
   obtain⟨k',x⟩:=p;rw[Ydi,Zav,Zav,ih];split<;>rfl
def Sub {α:Type} (l m:List (Nat×α)):Prop:=∀k x,l.look k=some x->m.look k=some x
theorem Sub.liv {l m:List (Nat×Blk)} (h:Sub l m) {k:Nat} {b:Blk} (hk:Liv l k b):Liv m k b:=⟨h k b hk.1,hk.2⟩
section
variable {D:Den} {w0:World} {X:Nat->Prop} {th t':Nat} {ρ ρ':Nm} {wc w wc' w':World} {bk bkR wr F G:List (Nat×Blk)} {c c':Nat}
theorem Sat.sub (h:Sat D w0 X th ρ wc w bk) (hs:Sub bkR bk):Sat D w0 X th ρ wc w bkR:=
 ⟨h.fr,h.ext,λk k' b b' B B' h1 h2=>h.inj k k' b b' B B' (hs.liv h1) (hs.liv h2),h.lt,λk b hk=>h.box k b (hs.liv hk)⟩
theorem Evo.sub (h:Evo ρ wc w bk c c' ρ' wc' w' F) (hs:Sub G F):Evo ρ wc w bk c c' ρ' wc' w' G:=
 ⟨h.rho,h.ext,h.size,h.os,h.tape,h.output,h.loc,λk b hk=>h.ids k b (hs.liv hk),h.cc,h.dom⟩
abbrev Sub' (l m:List (Nat×Blk)):Prop:=∀k b,Liv l k b->Liv m k b
theorem Sat.sub' (h:Sat D w0 X th ρ wc w bk) (hs:Sub' bkR bk):Sat D w0 X th ρ wc w bkR:=
 ⟨h.fr,h.ext,λk k' b b' B B' h1 h2=>h.inj k k' b b' B B' (hs _ _ h1) (hs _ _ h2),h.lt,λk b hk=>h.box k b (hs _ _ hk)⟩
theorem Evo.sub' (h:Evo ρ wc w bk c c' ρ' wc' w' F) (hs:Sub' G F):Evo ρ wc w bk c c' ρ' wc' w' G:=
 ⟨h.rho,h.ext,h.size,h.os,h.tape,h.output,h.loc,λk b hk=>h.ids k b (hs _ _ hk),h.cc,h.dom⟩
theorem Sat.frame (h:Sat D w0 X th ρ wc w bk) (hs:Sub bkR bk) (hf:∀k b,bk.look k=some b->k<th) (g:Sat D w0 X t' ρ' wc' w' F) (e:Evo ρ wc w bkR c c' ρ' wc' w' F) (hc:c'<=th)
  (hG:∀k b,Liv G k b->Liv F k b∨(Liv bk k b∧bkR.look k=none)) :
  Sat D w0 X th ρ' wc' w' G∧Evo ρ wc w bk c c' ρ' wc' w' G:=by
 have mix:∀k k' b b' B B',Liv F k b->Liv bk k' b'->bkR.look k'=none->ρ' k=some B->ρ' k'=some B'->B.blk=B'.blk->B.ro=true∧B'.ro=true:=by
  intro k k' b b' B B' hk hk' hn h1 h2 he;obtain⟨C',hC'⟩:=h.named k' b' hk';have e2:=e.rho k' C' hC';rw[h2]at e2;cases e2;rcases e.ids k b hk with ⟨b0,hb0⟩|⟨_,_,C,hC,hle⟩
  ·obtain⟨C,hC⟩:=h.named k b0 (hs.liv hb0)
   have e1:=e.rho k C hC;rw[h1]at e1;cases e1;rcases h.inj k k' b0 b' B B' (hs.liv hb0) hk' hC hC' he with h7|h7
   ·subst h7
    rw[hb0.1]at hn;cases hn
   ·exact h7
  ·rw[h1]at hC
   cases hC;rcases hle with hle|⟨k0,b0,B0,g1,g2,g3,g4⟩
   ·have:=h.lt k' B' hC'
    omega
   ·rcases h.inj k0 k' b0 b' B0 B' (hs.liv g1) hk' g2 hC' (g4.trans he) with h7|h7
    ·subst h7
     rw[g1.1]at hn;cases hn
    ·rw[g3]at h7;cases h7.1
 refine⟨⟨g.fr,g.ext,?_,g.lt,?_⟩,⟨e.rho,e.ext,e.size,e.os,e.tape,e.output,?_,?_,e.cc,e.dom⟩⟩
 ·intro k k' b b' B B' hk hk' h1 h2 he
  rcases hG k b hk with hk|⟨hk,hn⟩<;>rcases hG k' b' hk' with hk'|⟨hk',hn'⟩
  ·exact g.inj k k' b b' B B' hk hk' h1 h2 he
  ·exact .inr (mix k k' b b' B B' hk hk' hn' h1 h2 he)
  ·exact .inr (mix k' k b' b B' B hk' hk hn h2 h1 he.symm).symm
  ·obtain⟨C,hC⟩:=h.named k b hk
   obtain⟨C',hC'⟩:=h.named k' b' hk';have e1:=e.rho k C hC;have e2:=e.rho k' C' hC';rw[h1]at e1;rw[h2]at e2;cases e1;cases e2;exact h.inj k k' b b' B B' hk hk' hC hC' he
 ·intro k b hk
  rcases hG k b hk with hk|⟨hk,hn⟩
  ·have hkt:k<th:=by
    rcases e.ids k b hk with ⟨b0,hb0⟩|⟨_,h2,_⟩
    ·exact hf k b0 (hs k b0 hb0.1)
    ·omega
   obtain⟨B,cs,h1,h2,h3,h4,h5,h6⟩:=g.box k b hk;exact⟨B,cs,h1,h2,h3,h4,λ_ hx=>absurd hx Zo,h6⟩
  ·obtain⟨B,cs,h1,h2,h3,h4,h5,h6⟩:=h.box k b hk
   have hkt:=hf k b hk.1;refine⟨B,cs,e.rho k B h1,h2.of_block (e.loc B.blk (h.lt k B h1) λk2 b2 B2 hk2 hB hro he=>?_),h3.mono e.rho e.ext,h4,λ_ hx=>absurd hx Zo,h6⟩;rcases h.inj k2 k b2 b B2 B (hs.liv hk2) hk hB h1 he with h7|h7
   ·subst h7
    rw[hk2.1]at hn;cases hn
   ·rw[hro]at h7;cases h7.1
 ·intro i hi hn
  exact e.loc i hi λk b B hk=>hn k b B (hs.liv hk)
 ·intro k b hk
  rcases hG k b hk with hk|⟨hk,hn⟩
  ·rcases e.ids k b hk with ⟨b0,hb0⟩|⟨h1,h2,B,hB,hle⟩
   ·exact .inl ⟨b0,hs.liv hb0⟩
   ·refine .inr ⟨h1,h2,B,hB,hle.imp id λ⟨k0,b0,B0,g1,g2⟩=>⟨k0,b0,B0,hs.liv g1,g2⟩⟩
  ·exact .inl ⟨b,hk⟩
end
structure OpR where
 v:SV
 wr:List (Nat×Blk)
 obl:List Prop
 orc:List (Option Bool)
 c:Nat
 th:Nat
 pan:Option Value:=none
def OpR.fin (r:OpR) (bk:List (Nat×Blk)):List (Nat×Blk):=
 match r.pan with
 | none=>r.wr++bk
 | some _=>r.wr
def OpR.ends (r:OpR) (e:Ending) (v:Value):Prop:=
 match r.pan with
 | none=>e=.returned v
 | some p=>e=.panicked [{v:=p,recovered:=false}]
abbrev YS:=List SA->List (Nat×Blk)->Nat->Nat->List (Option Bool)->Option OpR
abbrev YEnv:=List (Nat×YS)
abbrev CallF:=YEnv->FuncId->List SA->List (Nat×Blk)->Nat->Nat->List (Option Bool)->Option OpR
structure CallS where
 call:CallF
 op:Oper->(Operand->Option SV)->Option SV
def WF (ro:Option Nat):Fence:={fn:=λ_=>True,depth:=none,alive:=false,round:=ro}
theorem callsIn_WF {ro:Option Nat} {n:Nat} {P:Program} {f:FuncId} {args:Array Value} {w:World} {R:Ending->World->Prop}:CallsIn (WF ro) n P f args w R↔Calls P f args w R:=
 callsIn_wide (n:=n)
def Post (D:Den) (w0:World) (X:Nat->Prop) (ρ:Nm) (wc w:World) (bk:List (Nat×Blk)) (c:Nat) (r:OpR) (e:Ending) (w':World):Prop:=
 ∃v ρ' wc',r.ends e v∧denV D ρ' wc' r.v v∧Sat D w0 X r.th ρ' wc' w' (r.fin bk)∧Evo ρ wc w bk c r.c ρ' wc' w' (r.fin bk)
def YOk (D:Den) (P:Program) (w0:World) (X:Nat->Prop):Nat->YEnv->Nm->World->World->Prop
 | _,[],_,_,_=>True
 | bd, (k, h) :: ys, ρ, wc, w => ∃ B lp, ρ k = some B ∧ w.heap[B.blk]? = some (.loop lp) ∧ w0.heap.size <= B.blk ∧ B.blk < bd ∧ YOk D P w0 X B.blk ys ρ wc w ∧
   ∀args bk c th orc r,h args bk c th orc=some r->(∀p∈r.obl,p)->∀ρ' wc' w' vals,ρ.le ρ'->Ext wc wc'->Sat D w0 X th ρ' wc' w' bk->YOk D P w0 X B.blk ys ρ' wc' w'->(∀j x,bk.look j=some x->j<c)->th<=c->
     (∀j,c<=j->j<r.c->ρ' j=none)->denAs D ρ' wc' args vals->w'.heap[B.blk]? = some (.loop lp)->
     ∃fn tmps assign body,(Instr.yield B.blk vals.toArray).run P w'=.ok (.round B.blk fn tmps assign body) w'∧
       RoundIn (WF none) 0 P B.blk fn tmps assign body w' λe w''=>Post D w0 X ρ' wc' w' bk c r e w''∧w''.heap[B.blk]? = some (.loop lp)
def CallFOk (D:Den) (P:Program) (w0:World) (X:Nat->Prop) (cs:CallF):Prop:=
 ∀ys f args bk c th orc r,cs ys f args bk c th orc=some r->(∀p∈r.obl,p)->∀bd ρ wc w vals,Sat D w0 X th ρ wc w bk->YOk D P w0 X bd ys ρ wc w->(∀k b,bk.look k=some b->k<c)->th<=c->(∀k,c<=k->k<r.c->ρ k=none)->denAs D ρ wc args vals->
   Calls P f vals.toArray w (Post D w0 X ρ wc w bk c r)
structure CallOk (D:Den) (P:Program) (w0:World) (X:Nat->Prop) (cs:CallS):Prop where
 call:CallFOk D P w0 X cs.call
 op:∀o get x,cs.op o get=some x->∀ρ wc w ev,Frm w0 X w->(∀y z,get y=some z->denV D ρ wc z (ev y))->∃v,(execOp ev o).run P w=.ok (.value v) w∧denV D ρ wc x v
section
variable {D:Den} {P:Program} {w0:World} {X:Nat->Prop} {th:Nat} {ρ ρ':Nm} {wc w wc' w':World} {bk bk':List (Nat×Blk)} {c c':Nat}
theorem Sat.cells (h:Sat D w0 X th ρ wc w bk) {k:Nat} {b:Blk} {B:Pl} (hk:Liv bk k b) (hB:ρ k=some B) (hro:B.ro=false):∃cs T f,w.heap[B.blk]? = some (.cells cs T f):=by
 obtain⟨B',cs,h1,h2,h3,h4,h5,h6⟩:=h.box k b hk;cases hB.symm.trans h1;rcases h2 with ⟨g,_⟩|⟨_,_,rest,_,_,hb⟩
 ·rw[hro]at g;cases g
 ·exact⟨_,_,_,hb.blk⟩
theorem Sat.stays (h:Sat D w0 X th ρ wc w bk) (e:Evo ρ wc w bk c c' ρ' wc' w' bk') {l:Nat} {o:Obj} (hl:w.heap[l]? = some o) (ho:o.isCells=false):w'.heap[l]? = some o:=by
 rw[e.loc l (Zaq hl) ?_]
 ·exact hl
 ·intro k b B hk hB hro he
  obtain⟨cs,T,f,hc⟩:=h.cells hk hB hro;rw[he,hl]at hc;cases hc;cases ho
theorem YOk.step:∀{bd:Nat} {ys:YEnv} {ρ ρ':Nm} {wc w wc' w':World},YOk D P w0 X bd ys ρ wc w->ρ.le ρ'->Ext wc wc'->(∀(l:Nat) (lp:Loop),l<bd->w.heap[l]? = some (Obj.loop lp)->w'.heap[l]? = some (Obj.loop lp))->YOk D P w0 X bd ys ρ' wc' w'
 | _,[],ρ,ρ',wc,w,wc',w',_,_,_,_=>trivial
 | bd, (k, h) :: ys, ρ, ρ', wc, w, wc', w', ⟨B, lp, h2, h3, hsz, hbd, h1, h4⟩, hr, hx, hl =>
   ⟨B,lp,hr k B h2,hl _ _ hbd h3,hsz,hbd,h1.step hr hx (λl lp hlt=>hl l lp (Nat.lt_trans hlt hbd)),λargs bk c th orc r hh ho ρ2 wc2 w2 vals g1 g2=>h4 args bk c th orc r hh ho ρ2 wc2 w2 vals (hr.trans g1) (hx.trans g2)⟩
theorem YOk.bound:∀{bd b:Nat} {ys:YEnv} {ρ:Nm} {wc w:World},YOk D P w0 X bd ys ρ wc w->(∀k B,ρ k=some B->B.blk<b)->YOk D P w0 X b ys ρ wc w
 | _,_,[],_,_,_,_,_=>trivial
 | _,_,(k,h)::ys,ρ,wc,w,⟨B,lp,h2,h3,hsz,hbd,h1,h4⟩,hb=>⟨B,lp,h2,h3,hsz,hb k B h2,h1,h4⟩
theorem YOk.evo {bd:Nat} {ys:YEnv} (h:YOk D P w0 X bd ys ρ wc w) (hS:Sat D w0 X th ρ wc w bk) (e:Evo ρ wc w bk c c' ρ' wc' w' bk'):YOk D P w0 X bd ys ρ' wc' w':=
 h.step e.rho e.ext λl lp _ hl=>hS.stays e hl rfl
end
end
section
def newsS (bk:List (Nat×Blk)) (size:Nat) (x:Option SV):Option (Nat×List U):=
 match x with
 | some (.a (.one (.slc k off n _))) => match bk.look k with
   | some b=>if b.dead then none else(subU b.cells off (n*size)).map (n,·)
   | none=>none
 | some (.a (.one (.sli k off n))) => match bk.look k with
   | some b=>if b.dead then none else(subU b.cells off (n*size)).map (n,·)
   | none=>none
 | some (.a (.one (.own k n _))) => match bk.look k with
   | some b=>if b.dead then none else(subU b.cells 0 (n*size)).map (n,·)
   | none=>none
 | some (.a (.one .emp))=>some (0,[])
 | some (.a (.one (.val (.slice none 0 _))))=>some (0,[])
 | _=>none
section
variable {D:Den} {P:Program} {w0:World} {X:Nat->Prop} {th:Nat} {ρ:Nm} {wc w:World} {bk:List (Nat×Blk)} {c:Nat} {get:Operand->Option SV} {ev:Operand->Value}
theorem Src.of_sub {B:Pl} {T:TypeId} {sp:Bool} {cs:List Value} (hh:Holds w B T sp cs) {l us:List U} (hl:denL D ρ wc l cs) {off n size:Nat} (hs:subU l off (n*size)=some us) {tx e':TypeId} (hk:P.underlying tx=some (.slice e')) (cap:Nat) :
  ∃news,Src P size tx (.slice (some ⟨B.blk,B.base+off,none⟩) n cap) n news w∧denL D ρ wc us news∧news.length=n*size∧(∀m,m<=n->(Builtin.firstCells size m (.slice (some ⟨B.blk,B.base+off,none⟩) n cap)).run P w=.ok (news.take (m*size)).toArray w)∧
    ∀j u,news[j]? = some u->w.cell? ((⟨B.blk,B.base+off,none⟩:Addr).add j)=some u:=by
 obtain⟨h1,h2⟩:=Zf7 hs hl;have key:∀j u,((cs.drop off).take (n*size))[j]? = some u->w.cell? ((⟨B.blk,B.base+off,none⟩:Addr).add j)=some u:=?_
 ·refine⟨_,Src.ofSlice w hk ⟨B.blk,B.base+off,none⟩ n cap _ h2 key h1.ones,h1,h2,λm hm=>?_,key⟩
  have hle:=Ybd size hm;refine run_firstCells_some w size m _ n cap _ (by rw[Ycq,h2];omega) λj u hj=>key j u ?_;rw[Ycv]at hj;split at hj
  ·exact hj
  ·cases hj
 intro j u hj;rw[Yem,Ybj];refine hh.cell ?_;have hjl:j<n*size:=by
  have:=(Yan.1 hj).1;omega
 rw[Ycv,if_pos hjl,Yeh]at hj;simpa using hj
theorem Zns (hB:BkOk D ρ wc w bk) {x:SV} {v:Value} (hv:denV D ρ wc x v) {size n:Nat} {us:List U} (h:newsS bk size (some x)=some (n,us)) {tx e':TypeId} (hk:P.underlying tx=some (.slice e')) :
  ∃news,Src P size tx v n news w∧denL D ρ wc us news∧news.length=n*size∧∀m,m<=n->(Builtin.firstCells size m v).run P w=.ok (news.take (m*size)).toArray w:=by
 unfold newsS at h;split at h
 ·rename_i k off n' cap e
  cases e;split at h
  ·rename_i b hb
   split at h
   ·cases h
   ·rename_i hd
    obtain⟨m,hm,e2⟩:=Yad.1 h;cases e2;obtain⟨B,cs,h1,h2,h3,h4⟩:=hB k b hb (by simpa using hd);obtain⟨B',hB',e1⟩:=hv;cases h1.symm.trans hB';rw[show v=_ from by simpa using e1];obtain⟨news,q1,q2,q3,q4,_⟩:=Src.of_sub (P:=P) h2 h3 hm hk cap;exact⟨news,q1,q2,q3,q4⟩
  ·cases h
 ·rename_i k off n' e
  cases e;split at h
  ·rename_i b hb
   split at h
   ·cases h
   ·rename_i hd
    obtain⟨m,hm,e2⟩:=Yad.1 h;cases e2;obtain⟨B,cs,h1,h2,h3,h4⟩:=hB k b hb (by simpa using hd);obtain⟨B',cap,hB',hc,e1⟩:=hv;cases h1.symm.trans hB';rw[show v=_ from by simpa using e1];obtain⟨news,q1,q2,q3,q4,_⟩:=Src.of_sub (P:=P) h2 h3 hm hk cap;exact⟨news,q1,q2,q3,q4⟩
  ·cases h
 ·rename_i k n' s e
  cases e;split at h
  ·rename_i b hb
   split at h
   ·cases h
   ·rename_i hd
    obtain⟨m,hm,e2⟩:=Yad.1 h;cases e2;obtain⟨B,cs,h1,h2,h3,h4⟩:=hB k b hb (by simpa using hd);obtain⟨B',hB',_,_,hb0,e1⟩:=hv;cases h1.symm.trans hB';rw[show v=_ from by simpa using e1];obtain⟨news,q1,q2,q3,q4,_⟩:=Src.of_sub (P:=P) h2 h3 hm hk B.cap;rw[hb0]at q1 q4;exact⟨news,q1,q2,q3,q4⟩
  ·cases h
 ·rename_i e
  cases e;cases h;obtain⟨p,cp,hp,e1⟩:=hv;rw[show v=_ from by simpa using e1];refine⟨[],?_,rfl,Zs,λm hm=>?_⟩
  ·cases p with
   | none=>rw[hp rfl];exact Src.ofNil w hk 0
   | some a=>exact Src.ofSlice w hk a 0 cp [] Zs (λj u hj=>by simp at hj) Zs
  ·obtain rfl:m=0:=by omega
   cases p with
   | none=>simpa using run_firstCells_none w size 0 0 cp
   | some a=>simpa using run_firstCells_some w size 0 a 0 cp [] Zs (λj u hj=>by simp at hj)
 ·rename_i cp e
  cases e;cases h;rw[show v=_ from by simpa using hv.1];exact⟨[],Src.ofNil w hk _,rfl,Zs,λm hm=>by simpa using run_firstCells_none w size m 0 _⟩
 ·cases h
def EffOk (D:Den) (P:Program) (w0:World) (X:Nat->Prop) (th:Nat) (ρ:Nm) (wc w:World) (bk:List (Nat×Blk)) (c:Nat) (s:Sem Next) (x:SV) (wr:List (Nat×Blk)) (c':Nat):Prop:=
 ∃nx v w' ρ',s.run P w=.ok nx w'∧(nx=.value v∨(nx=.skip∧v=undef))∧denV D ρ' wc x v∧Sat D w0 X th ρ' wc w' (wr++bk)∧Evo ρ wc w bk c c' ρ' wc w' (wr++bk)
theorem Zmb (h:Sat D w0 X th ρ wc w bk) (hc:ρ c=none) {t tx ty e:TypeId} {i:TypeInfo} {z:Value} (ht:P.underlying t=some (.slice e)) (hi:P.info? e=some i) (hz:i.zero=some z) (hzs:z.cells.size=i.size)
  {base:Option Addr} {sLen sCap:Nat} {olds news:List Value} {lo ln:List U} (hlo:denL D ρ wc lo olds) (hln:denL D ρ wc ln news) (hol:olds.length=sLen*i.size)
  (hold:∀w':World,w'.heap=w.heap->(Builtin.firstCells i.size sLen (.slice base sLen sCap)).run P w'=.ok olds.toArray w') {x:Value} {n:Nat} (hs:Src P i.size tx x n news w) (hnl:news.length=n*i.size)
  (hg:sCap<sLen+n) (h40:sLen+n<=2 ^ 40) (hby:(sLen+n)*i.bytes<=140737488355328) :
  ∃v w' ρ',(Builtin.append_ #[t,tx] ty #[.slice base sLen sCap,x]).run P w=.ok v w'∧denV D ρ' wc (.a (.one (.own c (sLen+n) i.size))) v∧
    Sat D w0 X th ρ' wc w' ((c,⟨e,lo++ln,false,true,false⟩)::bk)∧Evo ρ wc w bk c (c+1) ρ' wc w' ((c,⟨e,lo++ln,false,true,false⟩)::bk):=by
 have hrun:=run_append_grow_src (P:=P) w t tx ty e i z ht hi hz base sLen sCap olds (hold _ rfl) x n news hs hg Zo (growslice_fits hg hby);have hge:=grownCap_ge w (sLen+n) sCap e;generalize grownCap w (sLen+n) sCap e=cap at hrun hge;have hsz:(Builtin.zeroCells z.cells (cap-(sLen+n))).size=(cap-(sLen+n))*i.size:=by rw[size_zeroCells,hzs]
 obtain⟨k1,k2⟩:=(h.drew).alloc hc e true cap (cap*i.size) (l:=lo++ln) (cs:=olds++news) (rest:=(Builtin.zeroCells z.cells (cap-(sLen+n))).toList) (hlo.append hln) (λhh=>by cases hh) (λ_=>by
  simp only[Yay,Yaz,hsz,hol,hnl];rw[<-Nat.add_mul,<-Nat.add_mul];congr 1
  omega)
 have earr:(((olds++news)++(Builtin.zeroCells z.cells (cap-(sLen+n))).toList).toArray:Array Value)=(olds++news).toArray++Builtin.zeroCells z.cells (cap-(sLen+n)):=by
  apply Yee.1;simp
 rw[earr]at k1 k2;exact⟨_,_,_,hrun,⟨_,Zbf _ _ _,hge,rfl,rfl,rfl⟩,k1,(Evo.drew ρ wc w bk c).trans k2 h.named⟩
def infoZ (P:Program) (e:TypeId):Option (Nat×Nat):=
 match P.info? e with
 | some i => match i.zero with
   | some z=>if Nat.beq z.cells.size i.size then some (i.size,i.bytes) else none
   | none=>none
 | none=>none
theorem Znt {e:TypeId} {s b:Nat} (h:infoZ P e=some (s,b)):∃i z,P.info? e=some i∧i.zero=some z∧z.cells.size=i.size∧i.size=s∧i.bytes=b:=by
 unfold infoZ at h;split at h
 ·rename_i i hi
  split at h
  ·rename_i z hz
   split at h
   ·rename_i hs
    cases h;exact⟨i,z,hi,hz,Ybe hs,rfl,rfl⟩
   ·cases h
  ·cases h
 ·cases h
def small (n bytes:Nat):Bool:=Nat.ble n (2 ^ 40)&&Nat.ble (n*bytes) 140737488355328
end
def Zmn (s:Option SV):Option SV:=
 match s with
 | some (.a (.one (.slc k off len cap)))=>if Nat.ble len cap then some (.a (.one (.slc k off len cap))) else none
 | some (.a (.one (.sli k off len)))=>some (.a (.one (.sli k off len)))
 | some (.a (.one (.own k len sz)))=>some (.a (.one (.own k len sz)))
 | some (.a (.one .emp))=>some (.a (.one .emp))
 | some (.a (.one (.val (.slice none 0 0))))=>some (.a (.one (.val (.slice none 0 0))))
 | _=>none
def appendS (P:Program) (t tx:TypeId) (s x:Option SV) (bk:List (Nat×Blk)) (th c:Nat):Option (SV×List (Nat×Blk)×Nat):=
 match P.underlying t,P.underlying tx with
 | some (.slice e), some (.slice _) => match infoZ P e with
   | some (size, bytes) => match newsS bk size x with
     | some (n, us) => if Nat.beq n 0 then (Zmn s).map λr => (r, [], c) else match s with
       | some (.a (.one (.slc k off len cap))) => match bk.look k with
         | some b => if b.dead then none else
           if Nat.ble (len+n) cap then(if b.ro || !(b.T != 3 || Nat.ble th k) then none else
            (putX b.cells (off+len*size) us).map λl=>(.a (.one (.slc k off (len+n) cap)),[(k,⟨b.T,l,false,b.sp,false⟩)],c))
           else if small (len+n) bytes then(subU b.cells off (len*size)).map λlo=>(.a (.one (.own c (len+n) size)),[(c,⟨e,lo++us,false,true,false⟩)],c+1) else none
         | none=>none
       | some (.a (.one (.val (.slice none 0 0))))=>if small n bytes then some (.a (.one (.own c n size)),[(c,⟨e,us,false,true,false⟩)],c+1) else none
       | some (.a (.one (.own k len sz))) => match bk.look k with
         | some b => if b.dead || b.ro || !b.sp || !(b.T != 3 || Nat.ble th k) || !Nat.beq b.T e || !Nat.beq sz size || !Nat.beq (widths b.cells) (len * size) || !bk.all (λp => Nat.blt p.1 c) || !small (len + n) bytes then none else
           some (.a (.one (.own c (len+n) size)),[(k,⟨b.T,[],false,true,true⟩),(c,⟨e,b.cells++us,false,true,false⟩)],c+1)
         | none=>none
       | _=>none
     | none=>none
   | none=>none
 | _,_=>none
section
variable {D:Den} {P:Program} {w0:World} {X:Nat->Prop} {th:Nat} {ρ:Nm} {wc w:World} {bk:List (Nat×Blk)} {c:Nat}
theorem Zgb {n b:Nat} (h:small n b=true):n<=2 ^ 40∧n*b<=140737488355328:=by
 unfold small at h;rw[Yam]at h;exact⟨Yaa h.1,Yaa h.2⟩
theorem Zt9 {s:SV} {r:SV} {v:Value} (h:Zmn (some s)=some r) (hv:denV D ρ wc s v):r=s∧∃p n cap,v=.slice p n cap∧n<=cap:=by
 unfold Zmn at h;split at h
 ·rename_i e
  cases e;split at h
  ·rename_i hb
   cases h;obtain⟨B,hB,e1⟩:=hv;exact⟨rfl,_,_,_,by simpa using e1,Yaa hb⟩
  ·cases h
 ·rename_i e
  cases e;cases h;obtain⟨B,cp,hB,hc,e1⟩:=hv;exact⟨rfl,_,_,_,by simpa using e1,hc⟩
 ·rename_i e
  cases e;cases h;obtain⟨B,hB,hc,_,_,e1⟩:=hv;exact⟨rfl,_,_,_,by simpa using e1,hc⟩
 ·rename_i e
  cases e;cases h;obtain⟨p,cp,hp,e1⟩:=hv;exact⟨rfl,_,_,_,by simpa using e1,Yat _⟩
 ·rename_i e
  cases e;cases h;exact⟨rfl,_,_,_,by simpa using hv.1,Yab _⟩
 ·cases h
theorem Znu {k:Nat} {x:Blk} {l:List (Nat×Blk)} (hd:x.dead=true):Sub' ((k,x)::l) l:=λj y hj=>by
 rcases Zbr hj with ⟨_,e,hd'⟩|⟨_,hj⟩
 ·rw[hd]at hd';cases hd'
 ·exact hj
theorem Zoy (h:Sat D w0 X th ρ wc w bk) {bkR:List (Nat×Blk)} (hs:Sub bkR bk) {s x:SV} {vs vx:Value} (hvs:denV D ρ wc s vs) (hvx:denV D ρ wc x vx) {t tx ty:TypeId} {r:SV} {wr:List (Nat×Blk)} {c':Nat}
  (ha:appendS P t tx (some s) (some x) bkR th c=some (r,wr,c')) (hn:∀k,c<=k->k<c'->ρ k=none) :
  ∃v w' ρ',(Builtin.append_ #[t,tx] ty #[vs,vx]).run P w=.ok v w'∧denV D ρ' wc r v∧Sat D w0 X th ρ' wc w' (wr++bk)∧Evo ρ wc w bk c c' ρ' wc w' (wr++bk):=by
 have hBk:BkOk D ρ wc w bkR:=λk b hk=>h.bkOk k b (hs k b hk);unfold appendS at ha;split at ha
 ·rename_i e e' ht htx
  split at ha
  ·rename_i size bytes hinf
   obtain⟨i,z,hi,hz,hzs,rfl,rfl⟩:=Znt hinf;split at ha
   ·rename_i n us hnews
    obtain⟨news,hsrc,hln,hnl,_⟩:=Zns (P:=P) hBk hvx hnews htx;split at ha
    ·rename_i hn0
     have hn0:=Ybe hn0;subst hn0;obtain⟨r',hr,e1⟩:=Yad.1 ha;cases e1;obtain⟨rfl,p,m,cap,rfl,hle⟩:=Zt9 hr hvs;obtain rfl:news=[]:=List.eq_nil_of_length_eq_zero (by simpa using hnl);exact⟨_,_,ρ,run_append_nothing w t tx ty e i ht hi p m cap hle vx hsrc,hvs,h,Evo.refl _ _ _ _ _⟩
    ·rename_i hn0
     have hnp:0<n:=by
      rcases Yff n with h0|h0
      ·subst h0;simp at hn0
      ·exact h0
     split at ha
     ·rename_i k off len cap e1
      cases e1;obtain⟨B,hB,e2⟩:=hvs;obtain rfl:vs=.slice (some ⟨B.blk,B.base+off,none⟩) len cap:=by simpa using e2
      split at ha
      ·rename_i b hb
       split at ha
       ·cases ha
       ·rename_i hd
        have hliv:Liv bk k b:=⟨hs k b hb,by simpa using hd⟩
        obtain⟨B',cs,h1,h2,h3,h4,h5,h6⟩:=h.box k b hliv;cases hB.symm.trans h1;split at ha
        ·rename_i hroom
         have hroom:=Yaa hroom;split at ha
         ·cases ha
         ·rename_i hT
          simp only[Ybo,Ydz,not_or,Bool.not_eq_true,Bool.or_eq_false_iff,bne_eq_false_iff_eq,Nat.ble_eq,not_and]at hT;obtain⟨hro,hT⟩:=hT;have hro:b.ro=false:=by simpa using hro
          have hT:b.T≠3∨th<=k:=by
           by_cases h3:b.T=3
           ·right
            have:=hT;simp[h3]at this;exact this
           ·exact .inl h3
          obtain⟨l,hl,e3⟩:=Yad.1 ha;cases e3;obtain⟨k1,k2,k3,k4⟩:=h.store hliv hro hl hln hT hB c;refine⟨.slice (some ⟨B.blk,B.base+off,none⟩) (len+n) cap,_,ρ,?_,⟨B,hB,rfl⟩,k1,k2⟩;rw[k4,Yba];refine run_append_room_src w t tx ty e i ht hi B.blk off len cap vx n news hsrc hroom (λj hj=>?_) (λj hj=>?_)
          ·exact(k3 j hj).1
          ·exact(k3 j hj).2
        ·rename_i hroom
         have hroom:cap<len+n:=by
          rcases Ydu cap (len+n) with h|h
          ·exact h
          ·rw[Nat.ble_eq_true_of_le h]at hroom;simp at hroom
         split at ha
         ·rename_i hsm
          obtain⟨g1,g2⟩:=Zgb hsm;obtain⟨lo,hl,e3⟩:=Yad.1 ha;cases e3;obtain⟨olds,q1,q2,q3,_,q4⟩:=Src.of_sub (P:=P) h2 h3 hl htx cap;refine Zmb h (hn c (Yab _) (Yca _)) ht hi hz hzs q2 hln q3 (λw' hw'=>?_) hsrc hnl hroom g1 g2;refine run_firstCells_some w' _ _ _ _ _ _ q3 λj u hj=>?_;rw[<-q4 j u hj];simp only[World.cell?,hw']
         ·cases ha
      ·cases ha
     ·rename_i e1
      cases e1;obtain rfl:vs=.slice none 0 0:=by simpa using hvs.1
      split at ha
      ·rename_i hsm
       obtain⟨g1,g2⟩:=Zgb hsm;cases ha;have:=Zmb (sLen:=0) (sCap:=0) (base:=none) (olds:=[]) (lo:=[]) (ty:=ty) h (hn c (Yab _) (Yca _)) ht hi hz hzs rfl hln Zs (λw' _=>run_firstCells_none w' _ _ _ _) hsrc hnl Zo Zo (by rw[Yba];exact g2);simpa using this
      ·cases ha
     ·rename_i k len sz e1
      cases e1;obtain⟨B,hB,hlc,htot,hb0,e2⟩:=hvs;obtain rfl:vs=.slice (some ⟨B.blk,0,none⟩) len B.cap:=by simpa using e2
      split at ha
      ·rename_i b hb
       split at ha
       ·cases ha
       ·rename_i hc
        simp only[Ybo,Ydz,not_or,Bool.not_eq_true,Bool.not_eq_false]at hc;obtain⟨⟨⟨⟨⟨⟨⟨⟨c1,c2⟩,c3⟩,c4⟩,c5⟩,c6⟩,c7⟩,c8⟩,c9⟩:=hc;cases ha;have c5:=Ybe c5;have c6:=Ybe c6;have c7:=Ybe c7;obtain⟨g1,g2⟩:=Zgb c9;have hT:b.T≠3∨th<=k:=by
         rcases c4 with h|h
         ·exact .inl (by simpa using h)
         ·exact .inr (Yaa h)
        have hliv:Liv bk k b:=⟨hs k b hb,c1⟩
        have hkc:c≠k:=λe=>by
         have:=hn c (Yab _) (Yca _);rw[e,hB]at this;cases this
        obtain⟨B',cs,h1,h2,h3,h4,h5,h6⟩:=h.box k b hliv;cases hB.symm.trans h1;have hcn:=hn c (Yab _) (Yca _);subst c5;subst c6;by_cases hroom:len+n<=B.cap
        ·have hrm:widths b.cells+news.length<=B.tot:=by
          rw[c7,hnl,htot,<-Nat.add_mul];exact Ybd _ hroom
         obtain⟨k1,k2,k3,k4⟩:=h.push hliv c2 c3 hln hT hB hcn hrm hkc;refine⟨.slice (some ⟨B.blk,0,none⟩) (len+n) B.cap,_,_,?_,⟨B,Zbf _ _ _,hroom,htot,hb0,rfl⟩,k1,k2⟩;rw[c7]at k3 ⊢;have:=run_append_room_src w t tx ty b.T i ht hi B.blk 0 len B.cap vx n news hsrc hroom (λj hj=>by rw[Yba];exact(k3 j hj).1) (λj hj=>by rw[Yba];exact(k3 j hj).2);rw[Yba]at this;exact this
        ·have hcs:=h3.len
         obtain⟨v,w',ρ',q1,q2,q3,q4⟩:=Zmb (ty:=ty) (olds:=cs) (base:=some ⟨B.blk,0,none⟩) (sLen:=len) (sCap:=B.cap) h hcn ht hi hz hzs h3 hln (by rw[hcs,c7]) (λw' hw'=>run_firstCells_some w' _ _ _ _ _ _ (by rw[hcs,c7]) λj u hj=>by
          have:=h2.cell hj;rw[hb0,Yba]at this;rw[Yem,Yba,<-this];simp only[World.cell?,hw']) hsrc hnl Zo g1 g2
         exact⟨v,w',ρ',q1,q2,q3.sub' (Znu rfl),q4.sub' (Znu rfl)⟩
      ·cases ha
     ·cases ha
   ·cases ha
  ·cases ha
 ·cases ha
end
end
end Go.Ex
namespace Go.Mono
open Go.RowKit
def RdC (w:World) (p:Option Addr) (n c sz:Nat) (cell:Nat->Nat->Value):Prop:=
 n<=c∧n<=140737488351232∧(0<n->∃b off,p=some ⟨b,off,none⟩∧b<w.heap.size∧(∀i j,i<n->j<sz->w.cell? ⟨b,off+i*sz+j,none⟩=some (cell i j)))
theorem RdC.below {w w':World} {p:Option Addr} {n c sz:Nat} {f:Nat->Nat->Value} (h:RdC w p n c sz f) (hB:Below w.heap.size w w'):RdC w' p n c sz f:=by
 obtain⟨h1,h2,h3⟩:=h;refine⟨h1,h2,λhn=>?_⟩;obtain⟨b,off,hp,hb,hc⟩:=h3 hn;exact⟨b,off,hp,Yaf hb hB.size,λi j hi hj=>(hB.cell hb).trans (hc i j hi hj)⟩
def FilmsAt (w:World) (p:Option Addr) (n c:Nat) (F:Nat->Flm):Prop:=RdC w p n c 3 (λi j=>(F i).vals.getD j undef)
theorem FilmsAt.below {w w':World} {p:Option Addr} {n c:Nat} {F:Nat->Flm} (h:FilmsAt w p n c F) (hB:Below w.heap.size w w'):FilmsAt w' p n c F:=RdC.below h hB
theorem FilmsAt.range {w:World} {p:Option Addr} {n c:Nat} {F:Nat->Flm} (h:FilmsAt w p n c F) (hn:0<n):∃b off,p=some ⟨b,off,none⟩∧b<w.heap.size∧∀i,i<n->∀W,Below w.heap.size w W->W.rangeAt b (off+i*3) (F i).vals.toList:=by
 obtain⟨_,_,hx⟩:=h;obtain⟨b,off,hp,hb,hc⟩:=hx hn;refine⟨b,off,hp,hb,λi hi W hW j v hv=>?_⟩;have hj:j<3:=by
  have:=(Yan.1 hv).1;simpa[Flm.vals]using this
 refine((hW.cell (p:=⟨b,off+i*3+j,none⟩) hb).trans (hc i j hi hj)).trans ?_;dsimp only;rw[Yaq]at hv;rw[Yax,hv];rfl
def CoatAt (w:World) (p:Option Addr) (c:Nat) (l:List Flm):Prop:=FilmsAt w p l.length c (λi=>l.getD i ⟨0,0,0⟩)
theorem CoatAt.below {w w':World} {p:Option Addr} {c:Nat} {l:List Flm} (h:CoatAt w p c l) (hB:Below w.heap.size w w'):CoatAt w' p c l:=FilmsAt.below h hB
theorem CoatAt.nil (w:World) (p:Option Addr) (c:Nat):CoatAt w p c []:=⟨Yat _,Yat _,λh=>absurd h (Yfw 0)⟩
theorem CoatAt.alt {w:World} {p p':Option Addr} {c c':Nat} {l:List Flm} (h:l=[]∨p'=p∧c'=c) (H:CoatAt w p c l):CoatAt w p' c' l:=by
 rcases h with rfl|⟨rfl,rfl⟩
 ·exact CoatAt.nil _ _ _
 ·exact H
end Go.Mono
namespace Go.Proofs.W
open Go.RowKit Go.Mono
theorem Zbg (n lo hi:Int) (h1:lo<=n) (h2:n<=hi) (w:World) :
  Calls Tryz.prog 258 #[.int .i64 n,.int .i64 lo,.int .i64 hi] w λe w'=>e=.returned (.bool true)∧w'=w:=by
 go_enter Tryz.func258,Tryz.ntmps258
 go_wp2
 go_ret
 exact⟨rfl,rfl⟩
theorem Zuf (B:Nat) (nm:ByteArray) (di pu st pr:Int) (pf pw' ps pc:Option Addr) (nf cf n cw ns cs nc cc:Nat) (L W:Nat->Int) (w:World)
  (b0:Box w B 285 #[.string nm,.int .i64 di,.int .i64 pu,.int .i64 st,.int .i64 pr,.slice pf nf cf,.slice pw' n cw,.slice ps ns cs,.slice pc nc cc])
  (hr:RdC w pw' n cw 2 (λi j=>if j=0 then .int .i64 (L i) else .int .i64 (W i)))
  (n1:1<=n) (n2:n<=5) (q1:0<=pr) (q2:pr<=n-1)
  (l0:∀i,i<n->300000<=L i∧L i<=2500000) (l1:∀i,i+1<n->L i<L (i+1)) (w0:∀i,i<n->1<=W i∧W i<=100) :
  Calls Tryz.prog 260 #[.pointer (some ⟨B,0,none⟩)] w λe w'=>e=.returned (.bool true)∧Below w.heap.size w w':=by
 have cb0:=b0.cell;obtain⟨hc1,hn1,hx⟩:=hr;obtain⟨b,off,rfl,hb,hcell⟩:=hx Zo;go_enter Tryz.func260,Tryz.ntmps260
 go_wp2
 go_loopw [3,12] (λl a wr=>∃(i:Nat) (la:Int),i<=n∧a=.int .i64 (i:Int)∧l=.int .i64 la∧(i=0->la=299999)∧(0<i->la=L (i-1))∧Below w.heap.size w wr) (λ_ a _=>(n-intOf a).toNat)
 case atStart=>exact⟨0,299999,Yat _,rfl,rfl,λ_=>rfl,λh=>Zo,Yae _ _⟩
 case round=>
  obtain⟨i,la,hi,rfl,rfl,ha0,ha1,hB⟩:=hrel;by_cases hin:i<n
  ·have hlt:la<L i:=by
    by_cases h0:i=0
    ·have:=ha0 h0;have:=l0 i hin;omega
    ·have:=ha1 (Zo);have:=l1 (i-1) Zo
     rw[show i-1+1=i by omega]at this;omega
   obtain⟨l2,l3⟩:=l0 i hin;obtain⟨w1,w2⟩:=w0 i hin;have f1:¬(L i<=la):=Zo;have f2:¬(2500000<L i):=Zo;have hin':(i:Int)<n:=Zo;have a0:=(hB.cell hb).trans (hcell i 0 hin Zo);have a1:=(hB.cell hb).trans (hcell i 1 hin Zo);simp only[if_true,Yce,Nat.succ_ne_self,if_false]at a0 a1;replace l0:=Yah l0;replace l1:=Yah l1;replace w0:=Yah w0;replace ha0:=Yah ha0;replace ha1:=Yah ha1;clear hcell;go_wp2_with (go_at_call 258;refine(Zbg _ _ _ w1 w2 _).mono ?_;rintro e w' ⟨rfl,rfl⟩)
   go_roundw
   case rel=>exact⟨i+1,L i,Zo,Zs,rfl,λh=>Zo,λ_=>rfl,Zad hB _⟩
   case measure=>simp[intOf];omega
  ·obtain rfl:i=n:=by omega
   have hb0:=b0.below hB;have cbb:=hb0.cell;have lbb:=hb0.lt;clear hcell cb0 l0 l1 w0 ha0 ha1;have e1:(1:Int)<=i:=Zo;have e2:(i:Int)<=5:=Zo;have hw:pr<=IntKind.i64.wrap ((i:Int)-1):=by
    have:IntKind.i64.wrap ((i:Int)-1)=(i:Int)-1:=by rw[Ybi];omega
    omega
   go_wp2_with fail
   go_region_held3 (λw'=>(∀b o,b<wr.heap.size->w'.cell? ⟨b,o,none⟩=wr.cell? ⟨b,o,none⟩)∧Below wr.heap.size wr w') ((refine Za2 ?_;first|exact(Yae _ _).drew|(repeat' (first|exact Yai ‹_› | exact Zaa (Yai ‹_›) ‹_› | exact Zad (Yai ‹_›) _|exact Zad ‹_› _|refine Zag ?_ Zo _ _)))) (first|(go_at_call 258;(with_reducible refine(Zbg (i:Int) 1 5 e1 e2 _).mono ?_);rintro e w' ⟨rfl,rfl⟩)|(go_at_call 258;(with_reducible refine(Zbg pr 0 (IntKind.i64.wrap ((i:Int)-1)) q1 hw _).mono ?_);rintro e w' ⟨rfl,rfl⟩))
   all_goals
    go_wp2
    go_ret
    exact⟨rfl,Zaa hB (Yai ‹_›)⟩
end Go.Proofs.W
namespace Go.Mono
open Go.RowKit
def Srf.flds (s:Srf):Array Value:=#[.int .i64 s.kind,.int .i64 s.curv,.int .i64 s.conic,.int .i64 s.curvx,.int .i64 s.conicx,.int .i64 s.order,.int .i64 s.thick,.int .i64 s.semi,.int .i64 s.hole,.int .i64 s.dx,.int .i64 s.dy,.int .i64 s.ax,.int .i64 s.ay,.int .i64 s.az,.int .i64 0,.int .i64 0,.int .i64 s.a0,.int .i64 s.a1,.int .i64 s.a2,.int .i64 s.a3,.int .i64 s.p0,.int .i64 s.p1,.string s.glass]
def Srf.lits (s:Srf):List Lit:=[.int .i64 s.kind,.int .i64 s.curv,.int .i64 s.conic,.int .i64 s.curvx,.int .i64 s.conicx,.int .i64 s.order,.int .i64 s.thick,.int .i64 s.semi,.int .i64 s.hole,.int .i64 s.dx,.int .i64 s.dy,.int .i64 s.ax,.int .i64 s.ay,.int .i64 s.az,.int .i64 0,.int .i64 0,.int .i64 s.a0,.int .i64 s.a1,.int .i64 s.a2,.int .i64 s.a3,.int .i64 s.p0,.int .i64 s.p1,.string s.glass.data.toList]
theorem Zcd {m z:Int} (h:In m z) (hm:m<=1000000000):(Lit.int .i64 z).wf=true:=by
 obtain⟨h1,h2⟩:=h;have e1:IntKind.i64.min = -9223372036854775808:=Zd;have e2:IntKind.i64.max=9223372036854775807:=Zd;simp only[Lit.wf,e1,e2,Yam,decide_eq_true_eq];omega
theorem Zpc {s:Srf} (h:s.ok):s.glass.size<=16:=by
 rcases h.glass with h|h
 ·rw[h];decide
 ·exact h.2.1
end Go.Mono
namespace Go.Proofs.W
open Go.RowKit Go.Mono
theorem Zuj (d:Nat) (s:ByteArray) (h:s.size<=16):Tryz.prog.keyLits (d+1) 9 [.string s]=some [.string s.data.toList]:=by
 have hu:Tryz.prog.underlying 9=some .string:=Zk;have:s.size<=maxLen:=Yak h Zd;simp[Program.keyLits,hu,this]
theorem Zk2 (s:Srf) (hs:s.ok):Tryz.prog.keyLits 6 340 s.flds.toList=some s.lits:=by
 have c299:Tryz.prog.cellsOf 340=23:=Zk;have c297:Tryz.prog.cellsOf 338=16:=Zk;have c91:Tryz.prog.cellsOf 157=4:=Zk;have c49:Tryz.prog.cellsOf 100=2:=Zk;have c3:Tryz.prog.cellsOf 3=1:=Zk;have c9:Tryz.prog.cellsOf 9=1:=Zk;have hg:=Zuj 4 s.glass (Zpc hs);have w0:(Lit.int .i64 0).wf=true:=Zd;have w_kind:(Lit.int .i64 s.kind).wf=true:=Zcd (m:=4) ⟨by have:=hs.k1;omega,hs.k2⟩ Zo;have w_curv:(Lit.int .i64 s.curv).wf=true:=Zcd hs.curv Zo;have w_conic:(Lit.int .i64 s.conic).wf=true:=Zcd hs.conic Zo;have w_curvx:(Lit.int .i64 s.curvx).wf=true:=Zcd hs.curvx Zo;have w_conicx:(Lit.int .i64 s.conicx).wf=true:=Zcd hs.conicx Zo;have w_order:(Lit.int .i64 s.order).wf=true:=Zcd hs.order Zo;have w_thick:(Lit.int .i64 s.thick).wf=true:=Zcd hs.thick Zo;have w_semi:(Lit.int .i64 s.semi).wf=true:=Zcd (m:=1000000000) ⟨by have:=hs.semi0;omega,hs.semi1⟩ Zo;have w_hole:(Lit.int .i64 s.hole).wf=true:=Zcd (m:=1000000000) ⟨by have:=hs.hole0;omega,hs.hole1⟩ Zo;have w_dx:(Lit.int .i64 s.dx).wf=true:=Zcd hs.dx Zo;have w_dy:(Lit.int .i64 s.dy).wf=true:=Zcd hs.dy Zo;have w_ax:(Lit.int .i64 s.ax).wf=true:=Zcd hs.ax Zo;have w_ay:(Lit.int .i64 s.ay).wf=true:=Zcd hs.ay Zo;have w_az:(Lit.int .i64 s.az).wf=true:=Zcd hs.az Zo;have w_a0:(Lit.int .i64 s.a0).wf=true:=Zcd hs.a0 Zo;have w_a1:(Lit.int .i64 s.a1).wf=true:=Zcd hs.a1 Zo;have w_a2:(Lit.int .i64 s.a2).wf=true:=Zcd hs.a2 Zo;have w_a3:(Lit.int .i64 s.a3).wf=true:=Zcd hs.a3 Zo;have w_p0:(Lit.int .i64 s.p0).wf=true:=Zcd hs.p0 Zo;have w_p1:(Lit.int .i64 s.p1).wf=true:=Zcd hs.p1 Zo;clear hs;have h297:Tryz.prog.keyLits 5 338 [.int .i64 s.kind,.int .i64 s.curv,.int .i64 s.conic,.int .i64 s.curvx,.int .i64 s.conicx,.int .i64 s.order,.int .i64 s.thick,.int .i64 s.semi,.int .i64 s.hole,.int .i64 s.dx,.int .i64 s.dy,.int .i64 s.ax,.int .i64 s.ay,.int .i64 s.az,.int .i64 0,.int .i64 0]=some [.int .i64 s.kind,.int .i64 s.curv,.int .i64 s.conic,.int .i64 s.curvx,.int .i64 s.conicx,.int .i64 s.order,.int .i64 s.thick,.int .i64 s.semi,.int .i64 s.hole,.int .i64 s.dx,.int .i64 s.dy,.int .i64 s.ax,.int .i64 s.ay,.int .i64 s.az,.int .i64 0,.int .i64 0]:=by
  simp[Program.keyLits,Tryz.underlying338,Ydo, *]
 have h91:Tryz.prog.keyLits 5 157 [.int .i64 s.a0,.int .i64 s.a1,.int .i64 s.a2,.int .i64 s.a3]=some [.int .i64 s.a0,.int .i64 s.a1,.int .i64 s.a2,.int .i64 s.a3]:=by
  simp[Program.keyLits,Tryz.underlying157,Ydo, *]
 have h49:Tryz.prog.keyLits 5 100 [.int .i64 s.p0,.int .i64 s.p1]=some [.int .i64 s.p0,.int .i64 s.p1]:=by
  simp[Program.keyLits,Tryz.underlying100,Ydo, *]
 rw[Program.keyLits.eq_def];simp only[Tryz.underlying340];simp[Srf.flds,Srf.lits,h297,h91,h49,hg,c299,c297,c91,c49,c9]
theorem Zuk (s:Srf) (hs:s.ok) (w:World):(binOp .eql 340 (.agg s.flds) (.agg s.flds)).run Tryz.prog w=.ok (.bool true) w:=by
 obtain⟨r,h1,h2⟩:=run_equalIn_deep (P:=Tryz.prog) 9995 5 340 Zk w 6 6 (.agg s.flds) (.agg s.flds) s.lits s.lits Zk Zk (Zk2 s hs) (Zk2 s hs);rw[run_eql_struct];have h3:r=true:=h2.2 rfl;subst h3;rw[show(10000:Nat)=9995+5 from rfl,h1];rfl
theorem Zk6 (z lo hi:Int) (B0 B1:Nat) (w:World) (b0:Box w B0 3 #[.int .i64 lo]) (b1:Box w B1 3 #[.int .i64 hi]) :
  Calls Tryz.prog 311 #[.int .i64 z,.pointer (some ⟨B0,0,none⟩),.pointer (some ⟨B1,0,none⟩)] w λe w'=>e=.returned (.bool (!decide (lo<=z∧z<=hi)))∧∃k,w'=w.drewN k:=by
 by_cases h:lo<=z∧z<=hi
 ·rw[decide_eq_true h]
  refine(Zg1 z lo hi B0 B1 w b0 b1 h.1 h.2).mono ?_;rintro e w' ⟨rfl,rfl⟩;exact⟨rfl,0,rfl⟩
 ·rw[decide_eq_false h]
  have c0:=b0.cell;have c1:=b1.cell;by_cases e1:z<lo
  ·clear h
   go_enter Tryz.func311,Tryz.ntmps311
   go_wp2
   go_ret
   exact⟨rfl,0,rfl⟩
  ·have e2:hi<z:=by omega
   clear h;go_enter Tryz.func311,Tryz.ntmps311
   go_wp2
   go_ret
   exact⟨rfl,0,rfl⟩
theorem Zro (p:Option Addr) (c:Nat) (z:Int) (r:Bool) (g:Nat) (eg:∀args w,(callFunc g args).run Tryz.prog w=.ok (.enter g args) w) (cap:Array Value) (w:World) (h:RdF w p 1 c (λ_=>z))
  (hf:Calls Tryz.prog g (#[.int .i64 z]++cap) w λe w'=>e=.returned (.bool r)∧∃k,w'=w.drewN k) :
  Calls Tryz.prog 318 #[.slice p 1 c,.func (.func g) #[] cap] w λe w'=>e=.returned (.int .i64 (if r then 0 else -1))∧∃k,w'=w.drewN k:=by
 obtain⟨hc1,hn1,hx1⟩:=h;obtain⟨b,off,rfl,hb,hcell⟩:=hx1 Zd;have a1:=hcell 0 Zd;clear hcell hx1;have hcj:∀j:Nat,j<1->w.cell? ⟨b,off+j,none⟩=some (.int .i64 z):=λj hj=>by
  obtain rfl:j=0:=Zo;exact a1
 clear a1;go_enter Tryz.func318,Tryz.ntmps318
 go_wp2
 go_loopw [8] (λa wr=>∃j:Nat,j<=1∧a=.int .i64 (j:Int)∧(j=0->wr=w)∧(j=1->r=false)∧∃k,wr=w.drewN k) (λa _=>(1-intOf a).toNat)
 case atStart=>exact⟨0,Zd,rfl,λ_=>rfl,λh=>Zo,0,rfl⟩
 case round=>
  obtain⟨j,hj,rfl,h0,h1,hk⟩:=hrel;by_cases hj0:j<1
  ·obtain rfl:=h0 Zo
   have a1:=hcj j hj0;have hj':(j:Int)<1:=Zo;clear h0 h1 hk hcj;go_wp2
   refine hf.mono ?_;rintro e w' ⟨rfl,k,rfl⟩;cases r with
   | true =>
     go_wp2
     go_ret
     exact⟨by simp;omega,k,rfl⟩
   | false =>
     go_wp2
     go_roundw
     case rel=>exact⟨j+1,Zo,Zs,λh=>Zo,Zs,k,rfl⟩
     case measure=>simp[intOf];omega
  ·obtain rfl:j=1:=by omega
   obtain rfl:=h1 rfl;obtain⟨k,rfl⟩:=hk;clear h0 hf hcj;go_wp2
   go_ret
   exact⟨rfl,k,rfl⟩
theorem Zk7 (p:Option Addr) (c:Nat) (z:Int) (r:Bool) (g:Nat) (eg:∀args w,(callFunc g args).run Tryz.prog w=.ok (.enter g args) w) (cap:Array Value) (w:World) (h:RdF w p 1 c (λ_=>z))
  (hf:Calls Tryz.prog g (#[.int .i64 z]++cap) w λe w'=>e=.returned (.bool r)∧∃k,w'=w.drewN k) :
  Calls Tryz.prog 310 #[.slice p 1 c,.func (.func g) #[] cap] w λe w'=>e=.returned (.bool r)∧∃k,w'=w.drewN k:=by
 have hi:=Zro p c z r g eg cap w h hf;clear h hf;cases r with
 | true =>
   simp only[if_true]at hi;go_enter Tryz.func310,Tryz.ntmps310
   go_wp2_with (go_at_call 318;refine hi.mono ?_;rintro e w' ⟨rfl,k,rfl⟩)
   go_ret
   exact⟨rfl,k,rfl⟩
 | false =>
   simp only[if_false,Ybq]at hi;go_enter Tryz.func310,Tryz.ntmps310
   go_wp2_with (go_at_call 318;refine hi.mono ?_;rintro e w' ⟨rfl,k,rfl⟩)
   go_ret
   exact⟨rfl,k,rfl⟩
theorem Zed (lo hi:Int) (p:Option Addr) (c:Nat) (z:Int) (w:World) (h:RdF w p 1 c (λ_=>z)) :
  Calls Tryz.prog 293 #[.int .i64 lo,.int .i64 hi,.slice p 1 c] w λe w'=>e=.returned (.bool (decide (lo<=z∧z<=hi)))∧Below w.heap.size w w':=by
 have hmf:∀(fn:Fn) (first cap:Array Value) (w:World),(Instr.makeFunc fn first cap).run Tryz.prog w=.ok (.func fn first cap) w:=λ_ _ _ _=>rfl;generalize hr:decide (lo<=z∧z<=hi)=r;replace hr:=Yah hr;go_enter Tryz.func293,Tryz.ntmps293
 go_wp2_with fail
 refine Zbq λW hB hs b0 b1=>?_;replace h:=h.below hB;have h1:=Zk6 z lo hi _ _ W b0 b1;rw[hr.out]at h1;refine(Zk7 p c z (!r) _ Zdu _ W h ?_).mono ?_
 ·exact h1
 rintro e W1 ⟨rfl,k,rfl⟩;go_wp2
 go_ret
 exact⟨Zs,below_drewN hB k⟩
theorem Zul (f:Flm) (w:World):Calls Tryz.prog 303 #[.agg f.vals] w λe w'=>e=.returned (.bool (decide f.ok))∧Below w.heap.size w w':=by
 obtain⟨ix,p,q⟩:=f;unfold Flm.vals;dsimp only;have e0:decide (Flm.ok ⟨ix,p,q⟩)=((decide (10000000<=ix∧ix<=40000000)&&decide (0<=p∧p<=1000))&&decide (1<=q∧q<=1000)):=by
  rw[<-Bool.decide_and,<-Bool.decide_and];exact decide_eq_decide.2 (by unfold Flm.ok;dsimp only;omega)
 rw[e0];generalize h1:decide (10000000<=ix∧ix<=40000000)=r1;generalize h2:decide (0<=p∧p<=1000)=r2;generalize h3:decide (1<=q∧q<=1000)=r3;replace h1:=Yah h1;replace h2:=Yah h2;replace h3:=Yah h3;clear e0;go_enter Tryz.func303,Tryz.ntmps303
 go_wp2_with fail
 refine Zbq (T1:=3) λW hB hs b0 b1=>?_;have c0:=b0.cell;have l0:=b0.lt;refine(Zed 10000000 40000000 _ 1 ix W (.box b1 0 1 _ (λi hi=>by obtain rfl:i=0:=(Zo);rfl) Zo)).mono ?_;rintro e W1 ⟨rfl,hb⟩;rw[h1.out];replace hB:=Zaa hB hb;replace b0:=b0.below hb;clear c0 l0;have c0:=b0.cell;have l0:=b0.lt;cases r1 with
 | false =>
   go_wp2
   go_ret
   exact⟨rfl,hB⟩
 | true =>
   go_wp2_with fail
   refine Zby (T0:=3) λW2 hB2 hs2 b2=>?_;have hBB:=Zaa hB hB2;refine(Zed 0 1000 _ 1 p W2 (.box b2 0 1 _ (λi hi=>by obtain rfl:i=0:=(Zo);rfl) Zo)).mono ?_;rintro e W3 ⟨rfl,hb⟩;rw[h2.out];replace hB:=Zaa hBB hb;replace b0:=(b0.below hB2).below hb;clear c0 l0;have c0:=b0.cell;have l0:=b0.lt;cases r2 with
   | false =>
     go_wp2
     go_ret
     exact⟨rfl,hB⟩
   | true =>
     go_wp2_with fail
     refine Zby (T0:=3) λW4 hB4 hs4 b4=>?_;have hBB4:=Zaa hB hB4;refine(Zed 1 1000 _ 1 q W4 (.box b4 0 1 _ (λi hi=>by obtain rfl:i=0:=(Zo);rfl) Zo)).mono ?_;rintro e W5 ⟨rfl,hb⟩;rw[h3.out];go_wp2
     go_ret
     exact⟨Zs,Zaa hBB4 hb⟩
theorem Zph (w:World):(Instr.alloc 271 true (.tuple #[])).run Tryz.prog w=.ok (.pointer (some ⟨w.heap.size,0,none⟩)) (w.alloc (.cells #[.int .i64 0,.int .i64 0,.int .i64 0] 271)):=by
 go_simp
end Go.Proofs.W
namespace Go.Ex
open Go.RowKit Go.Mono
section
def zerosU (P:Program) (e:TypeId) (n:Nat):Option (List U):=
 match (P.info? e).bind (·.zero) with
 | some z=>(λl:List Value=>if l.all (·.oneCell') then some (l.map .val) else none) ((Array.range n).map (z.cells[· % z.cells.size]!)).toList
 | none=>none
theorem Zoz {D:Den} {ρ:Nm} {w:World} {x:SA} {v:Value} (h:denA D ρ w x v):(∃cs:Array Value,v=.agg cs)∨v.oneCell'=true:=by
 cases x with
 | one u=>exact .inr (denU.ones h v Zs)
 | agg l=>obtain⟨cs,e,_⟩:=h;exact .inl ⟨_,e⟩
theorem Zgw {P:Program} (w:World) (b o:Nat) (ty:TypeId) (v:Value) (hv:(∃cs:Array Value,v=.agg cs)∨v.oneCell'=true) (ht:w.there b o v.cells.size) (hi:(P.info? ty).map (·.size)=some v.cells.size)
  (h1:∀u∈v.cells.toList,u.oneCell'=true):(Instr.storeAt ty (.pointer (some ⟨b,o,none⟩)) v).run P w=.ok () (w.setCells b o v.cells.toList):=by
 rcases hv with ⟨cs,rfl⟩|hv
 ·exact run_storeAt_mid w b o ty cs ht hi (by rw[Array.all_eq_true_iff_forall_mem];intro u hu;exact h1 u (by simpa[Value.cells]using hu))
 ·rw[Zdh hv]at ht hi ⊢
  have:=run_storeAt_mid (P:=P) w b o ty #[v] ht hi (by simpa using hv);rw[<-this];unfold Instr.storeAt storeVar;rw[Zdh hv];rfl
def makeS (P:Program) (t:TypeId) (l x:Option SV) (c:Nat):Option (SV×List (Nat×Blk)×Nat):=
 match l,x with
 | some (.a (.one (.val (.int _ (.ofNat n))))), some (.a (.one (.val (.int _ (.ofNat m))))) => match P.underlying t with
   | some (.slice e) => match infoZ P e with
     | some (size, bytes) => if Nat.ble n m && small m bytes then match (P.info? e).bind (·.zero) with
       | some z=>if z.cells.toList.all (·.oneCell') then some (.a (.one (.slc c 0 n m)),[(c,⟨e,(madeCells z.cells (m*size)).toList.map .val,false,false,false⟩)],c+1) else none
       | none=>none
       else none
     | none=>none
   | _=>none
 | _,_=>none
def copyS (P:Program) (t:TypeId) (d x:Option SV) (bk:List (Nat×Blk)) (th c:Nat):Option (SV×List (Nat×Blk)×Nat):=
 match P.underlying t with
 | some (.slice e) => match szOf P e with
   | some size => match d, newsS bk size x with
     | some (.a (.one (.slc k off len cap))), some (n, us) => match bk.look k, takeU us (Nat.min n len * size) with
       | some b, some vs => if b.dead || b.ro || !(b.T != 3 || Nat.ble th k) then none else
         (putX b.cells (off+0) vs).map λl=>(.a (.one (.val (goInt (Nat.min n len)))),[(k,⟨b.T,l,false,b.sp,false⟩)],c)
       | _,_=>none
     | _,_=>none
   | none=>none
 | _=>none
def effS (P:Program) (o:Oper) (get:Operand->Option SV) (bk:List (Nat×Blk)) (th c:Nat):Option (SV×List (Nat×Blk)×Nat):=
 match o.op with
 | .alloc T=>(zeroU P T).map λl=>(.a (.one (.ptr c 0)),[(c,⟨T,l,false,false,false⟩)],c+1)
 | .box T x => match get x with
   | some (.a s)=>some (.a (.one (.ptr c 0)),[(c,⟨T,unitsA s,false,false,false⟩)],c+1)
   | _=>none
 | .buildSlice t len parts => match P.underlying t with
   | some (.slice e) => match szOf P e, partsS get parts.toList with
     | some s, some ps => if len * s <= 2 ^ 24 && len * s != 0 then
       match zerosU P e (len*s) with
       | some z=>(fillS (λi=>some (i*s,s)) z ps).map λm=>(.a (.one (.slc c 0 len len)),[(c,⟨e,m,false,false,false⟩)],c+1)
       | none=>none
       else none
     | _,_=>none
   | _=>none
 | .store t x y => match get x, get y with
   | some (.a (.one (.ptr k off))), some (.a s) => match bk.look k with
     | some b=>if(szOf P t).any (·==widths (unitsA s))&&(b.T != 3 || Nat.ble th k)&&!b.ro&&!b.dead then(putX b.cells off (unitsA s)).map λl=>(.tup [],[(k,⟨b.T,l,false,b.sp,false⟩)],c) else none
     | none=>none
   | _,_=>none
 | .makeSlice t l x=>makeS P t (get l) (get x) c
 | .call ⟨.builtin .append,⟨[s,x]⟩,⟨[t,tx]⟩⟩=>appendS P t tx (get s) (get x) bk th c
 | .call ⟨.builtin .copy, ⟨[d, x]⟩, ⟨[t, tx]⟩⟩ => match P.underlying tx with
   | some (.slice _)=>copyS P t (get d) (get x) bk th c
   | _=>none
 | _=>(evPure P o get bk).map λx=>(x,[],c)
section
variable {D:Den} {P:Program} {w0:World} {X:Nat->Prop} {th:Nat} {ρ:Nm} {wc w:World} {bk bkR:List (Nat×Blk)} {c:Nat} {get:Operand->Option SV} {ev:Operand->Value}
theorem Zgc (h:Sat D w0 X th ρ wc w bk) (hk:ρ c=none) {T:TypeId} {l:List U} {cells:Array Value} {s:Sem Value} (mk:Addr->Value) (x:SV) (hx:∀B,denV D (addNm ρ c ⟨B,0,false,0,0⟩) wc x (mk ⟨B,0,none⟩))
  (hrun:s.run P w=.ok (mk ⟨w.heap.size,0,none⟩) (w.alloc (.cells cells T))) (hl:denL D ρ wc l cells.toList) {S:Sem Next} (hex:S=do pure (Next.value (<-s))) :
  EffOk D P w0 X th ρ wc w bk c S x [(c,⟨T,l,false,false,false⟩)] (c+1):=by
 obtain⟨k1,k2⟩:=h.alloc hk T false 0 0 (rest:=[]) hl (λ_=>rfl) (λhh=>by cases hh);rw[Ydg,Array.toArray_toList]at k1 k2;refine⟨_,_,_,_,?_,.inl rfl,hx _,k1,k2⟩;rw[hex];simp only[Yar,hrun,Yag,Yau]
theorem Zq3 {z:Value} (hz:z.cells.toList.all (·.oneCell')=true) (n:Nat) (hn:z.cells.size=0->n=0):denL D ρ wc ((madeCells z.cells n).toList.map .val) (madeCells z.cells n).toList:=by
 refine Zds _ λv hv=>?_;unfold madeCells at hv;simp only[Array.toList_map,Ydl]at hv;obtain⟨i,hi,rfl⟩:=hv;have hi:i<n:=by simpa using hi
 have h0:0<z.cells.size:=by
  rcases Yff z.cells.size with h|h
  ·have:=hn h;omega
  ·exact h
 have hm:=Nat.mod_lt i h0;rw[getElem!_pos z.cells (i%z.cells.size) hm];exact Ybn.1 hz _ Zs
theorem Zua (h:Sat D w0 X th ρ wc w bk) (hn:∀k,c<=k->k<c+1->ρ k=none) {t:TypeId} {sl sx x:SV} {vl vx:Value} (hl:denV D ρ wc sl vl) (hx:denV D ρ wc sx vx) {wr:List (Nat×Blk)} {c':Nat}
  (he:makeS P t (some sl) (some sx) c=some (x,wr,c')) {S:Sem Next} (hex:S=do pure (Next.value (<-Instr.makeSlice t vl vx))):EffOk D P w0 X th ρ wc w bk c S x wr c':=by
 unfold makeS at he;split at he
 ·rename_i kl n km m e1 e2
  cases e1;cases e2;obtain rfl:vl=_:=by simpa using hl.1
  obtain rfl:vx=_:=by simpa using hx.1
  split at he
  ·rename_i e hu
   split at he
   ·rename_i size bytes hinf
    obtain⟨i,z,hi,hz,hzs,rfl,rfl⟩:=Znt hinf;split at he
    ·rename_i hc
     rw[Yam]at hc;obtain⟨g1,g2⟩:=Zgb hc.2;have g0:=Yaa hc.1;split at he
     ·rename_i z' hz'
      rw[hi]at hz';have hz2:z'=z:=by
       have:i.zero=some z':=hz';rw[hz]at this;cases this;rfl
      subst hz2;split at he
      ·rename_i hall
       cases he;have g3:(i.bytes:Int)*(m:Int)<=281474976710656:=by
        have g4:i.bytes*m<=140737488355328:=by rw[Ycu];exact g2
        have:((i.bytes*m:Nat):Int)<=140737488355328:=Zo;rw[Ycw]at this;omega
       have hrun:=run_make (P:=P) w t e i z' hu hi hz kl km (n:Int) (m:Int) (Int.natCast_nonneg _) Zo g3 Zo;rw[Ycb,Ycb]at hrun;exact Zgc h (hn c (Yab _) (Yca _)) (λp=>.slice (some p) n m) (.a (.one (.slc c 0 n m))) (λB=>⟨_,Zbf _ _ _,rfl⟩) hrun (Zq3 hall _ (λh0=>by rw[<-hzs,h0];simp)) hex
      ·cases he
     ·cases he
    ·cases he
   ·cases he
  ·cases he
 ·cases he
theorem Zub (h:Sat D w0 X th ρ wc w bk) (hs:Sub bkR bk) {t tx ty e':TypeId} (htx:P.underlying tx=some (.slice e')) {sd sx x:SV} {vd vx:Value} (hd:denV D ρ wc sd vd) (hx:denV D ρ wc sx vx) {wr:List (Nat×Blk)} {c':Nat}
  (he:copyS P t (some sd) (some sx) bkR th c=some (x,wr,c')) {S:Sem Next} (hex:S=do pure (Next.value (<-Builtin.copy_ #[t,tx] ty #[vd,vx]))):EffOk D P w0 X th ρ wc w bk c S x wr c':=by
 have hBk:BkOk D ρ wc w bkR:=λk b hk=>h.bkOk k b (hs k b hk);unfold copyS at he;split at he
 ·rename_i e hu
  split at he
  ·rename_i size hz
   split at he
   ·rename_i k off len cap n us e1 hnews
    cases e1;obtain⟨news,hsrc,hln,hnl,hfc⟩:=Zns (P:=P) hBk hx hnews htx;split at he
    ·rename_i b vs hb htk
     split at he
     ·cases he
     ·rename_i hc
      simp only[Ybo,Ydz,not_or,Bool.not_eq_true,Bool.not_eq_false]at hc;obtain⟨⟨c1,c2⟩,c3⟩:=hc;obtain⟨l,hl,e3⟩:=Yad.1 he;cases e3;obtain⟨B,hB,e2⟩:=hd;obtain rfl:vd=.slice (some ⟨B.blk,B.base+off,none⟩) len cap:=by simpa using e2
      have hT:b.T≠3∨th<=k:=by
       rcases c3 with h|h
       ·exact .inl (by simpa using h)
       ·exact .inr (Yaa h)
      obtain⟨q1,q2⟩:=Zeq htk hln;obtain⟨k1,k2,k3,k4⟩:=h.store ⟨hs k b hb,c1⟩ c2 hl q1 hT hB c;obtain⟨i,hi,rfl⟩:=Yad.1 hz;have hcp:=hfc (Nat.min n len) (Nat.min_le_left _ _);have hst:=run_storeCells_cells (P:=P) B.blk off (news.take (Nat.min n len*i.size)) 0 w (by simpa using λj hj=>(k3 j (by simpa using hj)).1) (by simpa using λj hj=>(k3 j (by simpa using hj)).2) q1.ones;rw[Yce]at k1 k2 hst;refine⟨_,goInt (Nat.min n len),_,ρ,?_,.inl rfl,⟨rfl,rfl⟩,k1,k2⟩;rw[hex];have hrun:(Builtin.copy_ #[t,tx] ty #[.slice (some ⟨B.blk,B.base+off,none⟩) len cap,vx]).run P w=.ok (goInt (Nat.min n len)) (w.setCells B.blk off (news.take (Nat.min n len*i.size))):=by
       rw[k4,Yba];simp[Builtin.copy_,run_underlying hu,sizeOf,typeInfo,hi,hsrc.len,hcp,hst]
      simp only[Yar,hrun,Yag,Yau]
    ·cases he
   ·cases he
  ·cases he
 ·cases he
theorem Zv8 (h : Sat D w0 X th ρ wc w bk) (hs : Sub bkR bk) (hg : ∀ x z, get x = some z -> denV D ρ wc z (ev x)) {o : Oper} {x : SV} {wr : List (Nat × Blk)} {c' : Nat}
  (he:effS P o get bkR th c=some (x,wr,c')) (hn:∀k,c<=k->k<c'->ρ k=none):EffOk D P w0 X th ρ wc w bk c (execOp ev o) x wr c':=by
 unfold effS at he;split at he
 ·rename_i T ho
  obtain⟨l,hl,e⟩:=Yad.1 he;cases e;obtain⟨i,z,h1,h2,h3⟩:=Znq hl D ρ wc;exact Zgc h (hn c (Yab _) (Yca _)) (λp=>.pointer (some p)) (.a (.one (.ptr c 0))) (λB=>⟨_,Zbf _ _ _,rfl⟩) (s:=Instr.alloc T true (.tuple #[])) (by simp[Instr.alloc,zeroValue,typeInfo,h1,h2,newVar,newRow]) h3 (by unfold execOp;rw[ho])
 ·rename_i T y ho
  split at he
  ·rename_i s hy
   cases he;have hd:=hg _ _ hy;exact Zgc h (hn c (Yab _) (Yca _)) (λp=>.pointer (some p)) (.a (.one (.ptr c 0))) (λB=>⟨_,Zbf _ _ _,rfl⟩) (s:=Instr.box T (ev y)) (by simp[Instr.box,newVar,newRow]) (Zff hd) (by unfold execOp;rw[ho])
  ·cases he
 ·rename_i t len parts ho
  split at he
  ·rename_i e hu
   split at he
   ·rename_i s ps hz hp
    split at he
    ·rename_i hlen
     rw[Yam]at hlen;split at he
     ·rename_i z hzs
      obtain⟨m,hm,e1⟩:=Yad.1 he;cases e1;unfold zerosU at hzs;split at hzs
      ·rename_i zv hzv
       obtain⟨ie,hie,hze⟩:=Ybg.1 hzv;dsimp only at hzs;split at hzs
       ·rename_i hall
        cases hzs;have hps:=Zgv (D:=D) (ρ:=ρ) (w:=wc) hg hp;obtain⟨cells,hf1,hf2⟩:=Zga _ hm (Zds _ λv hv=>Ybn.1 hall v hv) hps;obtain⟨ie',hie',rfl⟩:=Yad.1 hz;cases hie.symm.trans hie';refine Zgc h (hn c (Yab _) (Yca _)) (λp=>.slice (some p) len len) (.a (.one (.slc c 0 len len))) (λB=>⟨_,Zbf _ _ _,rfl⟩) (s:=Instr.buildSlice t len (parts.map λ(i,x)=>(i,ev x))) ?_ hf2 (by unfold execOp;rw[ho]);refine run_buildSlice w t e len _ cells ie zv hu hie hze (by have:=hlen.1;simp only[decide_eq_true_eq]at this;omega) (by simpa using hlen.2) ?_;rw[<-hf1];congr 1
        simp
       ·cases hzs
      ·cases hzs
     ·cases he
    ·cases he
   ·cases he
  ·cases he
 ·rename_i t y z ho
  split at he
  ·rename_i k off s hy hz
   split at he
   ·rename_i b hb
    split at he
    ·rename_i hc
     rw[Yam,Yam,Yam]at hc;obtain⟨⟨⟨hc1,hc2⟩,hro⟩,hdd⟩:=hc;obtain⟨l,hl,e⟩:=Yad.1 he;cases e;obtain⟨B,hB,e1⟩:=hg _ _ hy;have e2:ev y=.pointer (some ⟨B.blk,B.base+off,none⟩):=by simpa using e1
     have hd:=hg _ _ hz;have hcs:=Zff hd;obtain⟨sz,hsz,hw⟩:=Option.any_eq_true_iff_get .. |>.1 hc1 |> λ⟨h1,h2⟩=>(⟨_,Option.some_get h1 |>.symm,by simpa using h2⟩:∃sz,szOf P t=some sz∧sz=widths (unitsA s))
     obtain⟨k1,k2,k3,hbase⟩:=h.store ⟨hs k b hb,by simpa using hdd⟩ (by simpa using hro) hl hcs (by
      rw[Ybo]at hc2;rcases hc2 with h|h
      ·exact .inl (by simpa using h)
      ·exact .inr (Yaa h)) hB c
     rw[hbase,Yba]at e2;have hrun:=Zgw (P:=P) w B.blk off t (ev z) (Zoz hd) (by rw[<-Yaz];exact k3) (by rw[<-Yaz,hcs.len,<-hw];exact hsz) hcs.ones;refine⟨.skip,undef,_,ρ,?_,.inr ⟨rfl,rfl⟩,⟨[],rfl,rfl⟩,k1,k2⟩;unfold execOp;rw[ho];simp only[e2,Yar,hrun,Yag,Yau]
    ·cases he
   ·cases he
  ·cases he
 ·rename_i t l y ho
  cases hl:get l with
  | none=>rw[hl]at he;simp[makeS]at he
  | some sl =>
    cases hy:get y with
    | none=>rw[hl,hy]at he;unfold makeS at he;split at he<;>first|cases he|(rename_i e;cases e)
    | some sy =>
      rw[hl,hy]at he;have hc':c'=c+1:=by
       unfold makeS at he;repeat' (split at he<;>try cases he)
       rfl
      subst hc';exact Zua h hn (hg _ _ hl) (hg _ _ hy) he (by unfold execOp;rw[ho])
 ·rename_i s y t tx ho
  cases hl:get s with
  | none =>
    rw[hl]at he;unfold appendS at he;repeat' (split at he)
    all_goals first|contradiction|(simp[Zmn]at he;done)
  | some sl =>
    cases hy:get y with
    | none =>
      rw[hl,hy]at he;unfold appendS at he;have:∀n us size,newsS bkR size none≠some (n,us):=λn us size hh=>by simp[newsS]at hh
      repeat' (split at he)
      all_goals first|contradiction|(exfalso;apply this;assumption)
    | some sy =>
      rw[hl,hy]at he;obtain⟨v,w',ρ',q1,q2,q3,q4⟩:=Zoy (ty:=o.type) h hs (hg _ _ hl) (hg _ _ hy) he hn;refine⟨_,v,w',ρ',?_,.inl rfl,q2,q3,q4⟩;unfold execOp;simp only[ho,resolve,Yar,Yau,Yag,invoke,builtin];simp only[Yev,Ybz,Yfp,Yar,q1,Yag,Yau]
 ·rename_i s y t tx ho
  split at he
  ·rename_i e' htx
   cases hl:get s with
   | none =>
     rw[hl]at he;unfold copyS at he;repeat' (split at he)
     all_goals contradiction
   | some sl =>
     cases hy:get y with
     | none =>
       rw[hl,hy]at he;unfold copyS at he;have:∀n us size,newsS bkR size none≠some (n,us):=λn us size hh=>by simp[newsS]at hh
       repeat' (split at he)
       all_goals first|contradiction|(exfalso;apply this;assumption)
     | some sy =>
       rw[hl,hy]at he;have hc':c'=c:=by
        unfold copyS at he;split at he
        ·split at he
         ·split at he
          ·split at he
           ·split at he
            ·cases he
            ·obtain⟨l,hl,e⟩:=Yad.1 he
             cases e;rfl
           ·cases he
          ·cases he
         ·cases he
        ·cases he
       refine Zub (ty:=o.type) h hs htx (hg _ _ hl) (hg _ _ hy) he ?_;unfold execOp;simp only[ho,resolve,invoke,builtin,Yev,Ybz,Yfp];rfl
  ·cases he
 ·obtain⟨y,hy,e⟩:=Yad.1 he
  cases e;obtain⟨v,h1,h2⟩:=Zko (P:=P) hg (λk b hk=>h.bkOk k b (hs k b hk)) hy;exact⟨_,v,w,ρ,h1,.inl rfl,h2,h,Evo.refl _ _ _ _ _⟩
end
end
section
def sargs (get:Operand->Option SV):List Operand->Option (List SA)
 | []=>some []
 | x :: r => match get x with
   | some (.a s)=>(sargs get r).map (s::·)
   | _=>none
def capsA (caps:List (Nat×Nat)):List SA:=caps.map λp=>.one (.ptr p.1 p.2)
def entersB (P:Program) (f:FuncId):Bool:=
 match P.funcs[f]? with
 | some fn=>!(fn.name== "runtime.NumGoroutine")&&fn.body.isSome
 | none=>false
theorem Zfg {P:Program} {f:FuncId} (h:entersB P f=true) (args:Array Value) (w:World):(callFunc f args).run P w=.ok (.enter f args) w:=by
 unfold entersB at h;split at h
 ·rename_i fn hf
  rw[Yam]at h;obtain⟨h1,h2⟩:=h;unfold callFunc;have e1:(fn.name== "runtime.NumGoroutine")=false:=by simpa using h1
  have e2:fn.body.isNone=false:=by cases hb:fn.body<;>simp_all
  simp only[Yar,run_program,Yag,hf,e1,e2,Ybq,if_false,Yau]
 ·cases h
section
variable {D:Den} {P:Program} {ρ:Nm} {wc w:World} {get:Operand->Option SV} {ev:Operand->Value}
theorem denAs.append:∀{l m:List SA} {vs us:List Value},denAs D ρ w l vs->denAs D ρ w m us->denAs D ρ w (l++m) (vs++us)
 | [],m,vs,us,e,hm=>by rw[show vs=[] from e];exact hm
 | x::l,m,_,us,⟨v,r,e,hv,hr⟩,hm=>⟨v,r++us,by rw[e,Ydi],hv,denAs.append hr hm⟩
theorem Zi9 (hg:∀x z,get x=some z->denV D ρ wc z (ev x)):∀{l:List Operand} {s:List SA},sargs get l=some s->denAs D ρ wc s (l.map ev)
 | [],s,h=>by cases h;rfl
 | x :: r, s, h => by
   unfold sargs at h;split at h
   ·rename_i y hy
    obtain⟨q,hq,rfl⟩:=Yad.1 h;exact⟨_,_,rfl,hg _ _ hy,Zi9 hg hq⟩
   ·cases h
theorem Zgd:∀{l:List (Nat×Nat)} {vs:List Value},adrs ρ l vs->denAs D ρ w (capsA l) vs
 | [],vs,e=>e
 | p::r,vs,⟨B,v',hB,e,hr⟩=>⟨_,v',e,⟨B,hB,rfl⟩,Zgd hr⟩
end
def ans (b:Bool):List (Option Bool)->Bool×List Prop×List (Option Bool)
 | some x::r=>(x,[b=x],r)
 | none::r=>(b,[],r)
 | []=>(b,[],[])
theorem Zx1 {b:Bool} {orc:List (Option Bool)} (h:∀p∈(ans b orc).2.1,p):(ans b orc).1=b:=by
 match orc,h with
 | some x::r,h=>exact(h (b=x) (by simp[ans])).symm
 | none::r,h=>rfl
 | [],h=>rfl
def fixB (x:SV) (orc:List (Option Bool)):SV×List Prop×List (Option Bool):=
 match x with
 | .a (.one (.tst b))=>(.a (.one (.val (.bool (ans b orc).1))),(ans b orc).2.1,(ans b orc).2.2)
 | x=>(x,[],orc)
theorem Zq4 {D:Den} {ρ:Nm} {w:World} {x:SV} {orc:List (Option Bool)} {v:Value} (h:∀p∈(fixB x orc).2.1,p) (hv:denV D ρ w x v):denV D ρ w (fixB x orc).1 v:=by
 unfold fixB at h ⊢;split
 ·rename_i b
  dsimp only at h ⊢;rw[Zx1 h];exact⟨hv,rfl⟩
 ·exact hv
def inR (z:Int):Prop:=-9223372036854775808<=z∧z<=9223372036854775807
theorem Znv {z:Int} (h:inR z):IntKind.i64.wrap z=z:=by
 rw[Ybi];have:=h.1;have:=h.2;omega
def intOf:Option SV->Option (IntKind×Int×Bool)
 | some (.a (.one (.val (.int k n))))=>some (k,n,false)
 | some (.a (.one (.sym z)))=>some (.i64,z,true)
 | some (.a (.one (.sml k z)))=>some (k,z,true)
 | _=>none
theorem Zbj {D:Den} {ρ:Nm} {w:World} {x:SV} {k:IntKind} {z:Int} {b:Bool} {v:Value} (h:intOf (some x)=some (k,z,b)) (hv:denV D ρ w x v):v=.int k z:=by
 unfold intOf at h;split at h
 ·rename_i k' n e
  cases h;cases e;simpa using hv.1
 ·rename_i z' e
  cases h;cases e;simpa[denV,denA,denU]using hv
 ·rename_i k' z' e
  cases h;cases e;simpa[denV,denA,denU]using hv
 ·cases h
def mkI (k:IntKind) (z:Int):SV:=
 match k with
 | .i64=>.a (.one (.sym z))
 | k=>.a (.one (.sml k z))
theorem Zfh {D:Den} {ρ:Nm} {w:World} (k:IntKind) (z:Int):denV D ρ w (mkI k z) (.int k z):=by
 cases k<;>rfl
def inK (k:IntKind) (z:Int):Prop:=
 match k with
 | .i64=>inR z
 | k=>k.wrap z=z
theorem Zkp {k:IntKind} {z:Int} (h:inK k z):k.wrap z=z:=by
 cases k<;>first|exact Znv h|exact h
def arith (op:BinOp) (k:IntKind) (a b:Int):Option (SV×List Prop):=
 match op with
 | .add=>some (mkI k (a+b),[inK k (a+b)])
 | .sub=>some (mkI k (a-b),[inK k (a-b)])
 | .mul=>some (mkI k (a*b),[inK k (a*b)])
 | .quo=>some (mkI k (a.tdiv b),[b≠0,inK k (a.tdiv b)])
 | .rem=>some (mkI k (a.tmod b),[b≠0])
 | .eql=>some (.a (.one (.tst (a==b))),[])
 | .neq=>some (.a (.one (.tst (a != b))),[])
 | .lss=>some (.a (.one (.tst (decide (a<b)))),[])
 | .leq=>some (.a (.one (.tst (decide (a<=b)))),[])
 | .gtr=>some (.a (.one (.tst (decide (a>b)))),[])
 | .geq=>some (.a (.one (.tst (decide (a>=b)))),[])
 | _=>none
def symS (P:Program) (o:Oper) (get:Operand->Option SV):Option (SV×List Prop):=
 match o.op with
 | .binOp op _ x y _ => match intOf (get x), intOf (get y) with
   | some (k,a,s),some (k',b,s')=>if(s || s')&&decide (k=k') then arith op k a b else none
   | _,_=>none
 | .unOp .neg _ x => match intOf (get x) with
   | some (.i64,a,true)=>some (.a (.one (.sym (0-a))),[inR (0-a)])
   | _=>none
 | .convert src dst x => match intOf (get x) with
   | some (_, a, true) => match P.underlying src, P.underlying dst with
     | some _,some (.int k)=>some (mkI k a,[inK k a])
     | _,_=>none
   | _=>none
 | _=>none
theorem Zuc {D:Den} {P:Program} {ρ:Nm} {wc w:World} {op:BinOp} {t:TypeId} {x y:Operand} {k:IntKind} {a b:Int} {r:SV} {ps:List Prop} (h:arith op k a b=some (r,ps)) (hp:∀p∈ps,p) :
  ∃v,(do eqGuard op t x y (.int k a) (.int k b);binOp op t (.int k a) (.int k b):Sem Value).run P w=.ok v w∧denV D ρ wc r v:=by
 have hg:∀(s:Sem Value),(do eqGuard op t x y (.int k a) (.int k b);s:Sem Value).run P w=s.run P w:=by
  intro s;unfold eqGuard;cases op<;>rfl
 rw[hg];unfold arith at h;split at h<;>cases h
 ·exact⟨.int k (a+b),by simp[binOp,Op.intArith,Zkp (hp (inK k (a+b)) Zs)],Zfh _ _⟩
 ·exact⟨.int k (a-b),by simp[binOp,Op.intArith,Zkp (hp (inK k (a-b)) Zs)],Zfh _ _⟩
 ·exact⟨.int k (a*b),by simp[binOp,Op.intArith,Zkp (hp (inK k (a*b)) Zs)],Zfh _ _⟩
 ·exact⟨.int k (a.tdiv b),by simp[binOp,Op.intDiv,hp (b≠0) Zs,Zkp (hp (inK k (a.tdiv b)) Zs)],Zfh _ _⟩
 ·exact⟨.int k (a.tmod b),by simp[binOp,Op.intDiv,hp (b≠0) Zs],Zfh _ _⟩
 ·exact⟨.bool (a==b),by simp[binOp,Op.intCmp],rfl⟩
 ·exact⟨.bool (a != b),by simp[binOp,Op.intCmp],rfl⟩
 ·exact⟨.bool (decide (a<b)),by simp[binOp,Op.intCmp],rfl⟩
 ·exact⟨.bool (decide (a<=b)),by simp[binOp,Op.intCmp],rfl⟩
 ·exact⟨.bool (decide (a>b)),by simp[binOp,Op.intCmp],rfl⟩
 ·exact⟨.bool (decide (a>=b)),by simp[binOp,Op.intCmp],rfl⟩
theorem Zv9 {D:Den} {P:Program} {ρ:Nm} {wc w:World} {get:Operand->Option SV} {ev:Operand->Value} (hg:∀x z,get x=some z->denV D ρ wc z (ev x)) {o:Oper} {r:SV} {ps:List Prop} (h:symS P o get=some (r,ps)) (hp:∀p∈ps,p) :
  ∃v,(execOp ev o).run P w=.ok (.value v) w∧denV D ρ wc r v:=by
 have ofInt:∀{x:Operand} {k:IntKind} {z:Int} {b:Bool},intOf (get x)=some (k,z,b)->ev x=.int k z:=by
  intro x k z b hx;cases hgx:get x with
  | none=>rw[hgx]at hx;simp[intOf]at hx
  | some s=>rw[hgx]at hx;exact Zbj hx (hg _ _ hgx)
 have viaV:∀{s:Sem Value},(∃v,s.run P w=.ok v w∧denV D ρ wc r v)->∃v,(do pure (Next.value (<-s)):Sem Next).run P w=.ok (.value v) w∧denV D ρ wc r v:=by
  rintro s ⟨v,h1,h2⟩;exact⟨v,by simp only[Yar,h1,Yag,Yau],h2⟩
 unfold symS at h;split at h
 ·rename_i op t x y ty ho
  split at h
  ·rename_i k a s k' b s' ha hb
   split at h
   ·rename_i hkk
    rw[Yam,decide_eq_true_eq]at hkk;obtain⟨_,rfl⟩:=hkk;unfold execOp;rw[ho];refine viaV ?_;rw[ofInt ha,ofInt hb];exact Zuc h hp
   ·cases h
  ·cases h
 ·rename_i t x ho
  split at h
  ·rename_i a ha
   cases h;unfold execOp;rw[ho];refine viaV ⟨.int .i64 (0-a),?_,rfl⟩;rw[ofInt ha];have:=Znv (hp (inR (0-a)) Zs);simp only[Op.unary,Op.intArith,Yau,this]
  ·cases h
 ·rename_i src dst x ho
  split at h
  ·rename_i k0 a ha
   split at h
   ·rename_i ts k hs hd
    cases h;unfold execOp;rw[ho];refine viaV ⟨.int k a,?_,Zfh _ _⟩;rw[ofInt ha];have:=Zkp (hp (inK k a) Zs);simp only[convert,Yar,run_underlying hs,run_underlying hd,Yag,Conv.intToInt,Yau,this]
   ·cases h
  ·cases h
 ·cases h
def unar:List (Option Bool)->Nat×List (Option Bool)
 | some false::r=>((unar r).1+1,(unar r).2)
 | some true::r=>(0,r)
 | r=>(0,r)
def letterOf:Option SV->Option (IntKind×Int)
 | some (.a (.one (.sym z)))=>some (.i64,z)
 | some (.a (.one (.sml k z)))=>some (k,z)
 | _=>none
theorem Zmc {D:Den} {ρ:Nm} {w:World} {x:SV} {k:IntKind} {z:Int} {v:Value} (h:letterOf (some x)=some (k,z)) (hv:denV D ρ w x v):v=.int k z:=by
 unfold letterOf at h;split at h
 ·rename_i z' e
  cases h;cases e;simpa[denV,denA,denU]using hv
 ·rename_i k' z' e
  cases h;cases e;simpa[denV,denA,denU]using hv
 ·cases h
def idxS (P:Program) (o:Oper) (get:Operand->Option SV) (orc:List (Option Bool)):Option (SV×List Prop×List (Option Bool)):=
 match o.op with
 | .index t x ix => match letterOf (get ix) with
   | some (k,z)=>(indexS P t (get x) (some (.a (.one (.val (.int k (unar orc).1)))))).map λr=>(r,[z=((unar orc).1:Int)],(unar orc).2)
   | none=>none
 | .indexAddr t x ix => match letterOf (get ix) with
   | some (k,z)=>(indexAddrS P t (get x) (some (.a (.one (.val (.int k (unar orc).1)))))).map λr=>(r,[z=((unar orc).1:Int)],(unar orc).2)
   | none=>none
 | .call ⟨.builtin .min, ⟨[x, y]⟩, _⟩ => match intOf (get x), intOf (get y), orc with
   | some (k,a,s),some (k',b,s'),some true::r=>if(s || s')&&decide (k=k') then(get x).map λz=>(z,[a<=b],r) else none
   | some (k,a,s),some (k',b,s'),some false::r=>if(s || s')&&decide (k=k') then(get y).map λz=>(z,[b<=a],r) else none
   | _,_,_=>none
 | .call ⟨.builtin .max, ⟨[x, y]⟩, _⟩ => match intOf (get x), intOf (get y), orc with
   | some (k,a,s),some (k',b,s'),some true::r=>if(s || s')&&decide (k=k') then(get y).map λz=>(z,[a<=b],r) else none
   | some (k,a,s),some (k',b,s'),some false::r=>if(s || s')&&decide (k=k') then(get x).map λz=>(z,[b<=a],r) else none
   | _,_,_=>none
 | _=>none
theorem Zwa {D:Den} {P:Program} {ρ:Nm} {wc w:World} {get:Operand->Option SV} {ev:Operand->Value} (hg:∀x z,get x=some z->denV D ρ wc z (ev x)) {o:Oper} {orc orc':List (Option Bool)} {r:SV} {ps:List Prop} (h:idxS P o get orc=some (r,ps,orc')) (hp:∀p∈ps,p) :
  ∃v,(execOp ev o).run P w=.ok (.value v) w∧denV D ρ wc r v:=by
 have hl:∀{x:Operand} {k:IntKind} {z:Int},letterOf (get x)=some (k,z)->ev x=.int k z:=by
  intro x k z hx;cases hgx:get x with
  | none=>rw[hgx]at hx;simp[letterOf]at hx
  | some s=>rw[hgx]at hx;exact Zmc hx (hg _ _ hgx)
 have viaV:∀{s:Sem Value},(∃v,s.run P w=.ok v w∧denV D ρ wc r v)->∃v,(do pure (Next.value (<-s)):Sem Next).run P w=.ok (.value v) w∧denV D ρ wc r v:=by
  rintro s ⟨v,h1,h2⟩;exact⟨v,by simp only[Yar,h1,Yag,Yau],h2⟩
 have one:∀{k:IntKind} {j:Nat} {v:Value},v=.int k (j:Int)->∀s,some (SV.a (.one (.val (.int k (j:Int)))))=some s->denV D ρ wc s v:=by
  intro k j v e s hs;cases hs;exact⟨by rw[e],by simp[Value.oneCell']⟩
 unfold idxS at h;split at h
 ·rename_i t x ix ho
  split at h
  ·rename_i k z hz
   obtain⟨y,hy,e⟩:=Yad.1 h;cases e;have e1:z=((unar orc).1:Int):=hp _ Zs;have e2:=hl hz;rw[e1]at e2;unfold execOp;rw[ho];exact viaV (Zii (hg x) (one e2) hy)
  ·cases h
 ·rename_i t x ix ho
  split at h
  ·rename_i k z hz
   obtain⟨y,hy,e⟩:=Yad.1 h;cases e;have e1:z=((unar orc).1:Int):=hp _ Zs;have e2:=hl hz;rw[e1]at e2;unfold execOp;rw[ho];exact viaV (Zd9 (hg x) (one e2) hy)
  ·cases h
 ·rename_i x y ts ho
  have ofInt:∀{x:Operand} {k:IntKind} {z:Int} {b:Bool},intOf (get x)=some (k,z,b)->ev x=.int k z:=by
   intro x k z b hx;cases hgx:get x with
   | none=>rw[hgx]at hx;simp[intOf]at hx
   | some s=>rw[hgx]at hx;exact Zbj hx (hg _ _ hgx)
  have run:∀{k:IntKind} {a b:Int},ev x=.int k a->ev y=.int k b->(execOp ev o).run P w=.ok (.value (.int k (if b<a then b else a))) w:=by
   intro k a b e1 e2;unfold execOp;simp only[ho,resolve,Yar,Yau,Yag,invoke,builtin,Builtin.min_,Yev,Ybz,Yfp,e1,e2];rfl
  split at h
  ·rename_i k a s k' b s' r' hx hy
   split at h
   ·rename_i hc
    rw[Yam,decide_eq_true_eq]at hc;obtain⟨_,rfl⟩:=hc;obtain⟨z,hz,e⟩:=Yad.1 h;cases e;have hab:a<=b:=hp _ Zs;refine⟨_,run (ofInt hx) (ofInt hy),?_⟩;rw[if_neg Zo,<-ofInt hx];exact hg _ _ hz
   ·cases h
  ·rename_i k a s k' b s' r' hx hy
   split at h
   ·rename_i hc
    rw[Yam,decide_eq_true_eq]at hc;obtain⟨_,rfl⟩:=hc;obtain⟨z,hz,e⟩:=Yad.1 h;cases e;have hab:b<=a:=hp _ Zs;refine⟨_,run (ofInt hx) (ofInt hy),?_⟩;have e3:(if b<a then b else a)=b:=by split<;>omega
    rw[e3,<-ofInt hy];exact hg _ _ hz
   ·cases h
  ·cases h
 ·rename_i x y ts ho
  have ofInt:∀{x:Operand} {k:IntKind} {z:Int} {b:Bool},intOf (get x)=some (k,z,b)->ev x=.int k z:=by
   intro x k z b hx;cases hgx:get x with
   | none=>rw[hgx]at hx;simp[intOf]at hx
   | some s=>rw[hgx]at hx;exact Zbj hx (hg _ _ hgx)
  split at h
  ·rename_i k a s k' b s' r' hx hy
   split at h
   ·rename_i hc
    rw[Yam,decide_eq_true_eq]at hc;obtain⟨_,rfl⟩:=hc;obtain⟨z,hz,e⟩:=Yad.1 h;cases e;have hab:a<=b:=hp _ Zs;have hrun:(execOp ev o).run P w=.ok (.value (.int k (if b>a then b else a))) w:=by
     unfold execOp;simp only[ho,resolve,Yar,Yau,Yag,invoke,builtin,Builtin.max_,Yev,Ybz,Yfp,ofInt hx,ofInt hy];rfl
    refine⟨_,hrun,?_⟩;have e3:(if b>a then b else a)=b:=by split<;>omega
    rw[e3,<-ofInt hy];exact hg _ _ hz
   ·cases h
  ·rename_i k a s k' b s' r' hx hy
   split at h
   ·rename_i hc
    rw[Yam,decide_eq_true_eq]at hc;obtain⟨_,rfl⟩:=hc;obtain⟨z,hz,e⟩:=Yad.1 h;cases e;have hab:b<=a:=hp _ Zs;have hrun:(execOp ev o).run P w=.ok (.value (.int k (if b>a then b else a))) w:=by
     unfold execOp;simp only[ho,resolve,Yar,Yau,Yag,invoke,builtin,Builtin.max_,Yev,Ybz,Yfp,ofInt hx,ofInt hy];rfl
    refine⟨_,hrun,?_⟩;have e3:(if b>a then b else a)=a:=by split<;>omega
    rw[e3,<-ofInt hx];exact hg _ _ hz
   ·cases h
  ·cases h
 ·cases h
def rngOf:Option SV->Option (FuncId×List SA×List (Nat×Nat))
 | some (.a (.one (.clo gf caps)))=>some (gf,[],caps)
 | some (.a (.one (.bnd gf g l)))=>some (gf,[bndA g l],[])
 | _=>none
theorem Znw {D:Den} {ρ:Nm} {w:World} {y:Option SV} {gf:FuncId} {fs:List SA} {caps:List (Nat×Nat)} (h:rngOf y=some (gf,fs,caps)) {v:Value} (hv:∀x,y=some x->denV D ρ w x v) :
  ∃us vs:List Value,v=.func (.func gf) us.toArray vs.toArray∧denAs D ρ w fs us∧adrs ρ caps vs:=by
 unfold rngOf at h;split at h
 ·cases h
  obtain⟨vs,hvs,e⟩:=hv _ rfl;exact⟨[],vs,by simpa using e,rfl,hvs⟩
 ·cases h
  obtain⟨u,e,hu⟩:=hv _ rfl;exact⟨[u],[],by simpa using e,⟨u,[],rfl,hu.up,rfl⟩,rfl⟩
 ·cases h
def callOf (P:Program) (o:Oper) (get:Operand->Option SV):Option (FuncId×List SA):=
 match o.op with
 | .call c => match c.callee with
   | .value fv => match rngOf (get fv), sargs get c.args.toList with
     | some (f,fs,caps),some args=>if entersB P f then some (f,fs++(args++capsA caps)) else none
     | _,_=>none
   | _=>none
 | _=>none
def yldOf (o:Oper) (get:Operand->Option SV):Option (Nat×List SA):=
 match o.op with
 | .call c => match c.callee with
   | .value fv => match get fv, sargs get c.args.toList with
     | some (.a (.one (.yld k))),some args=>some (k,args)
     | _,_=>none
   | _=>none
 | _=>none
def panOf (o:Oper) (get:Operand->Option SV):Option Value:=
 match o.op with
 | .panic x => match (get x).bind realV with
   | some (.iface t v)=>some (.iface t v)
   | _=>none
 | .call ⟨.builtin .panic, ⟨[x]⟩, _⟩ => match (get x).bind realV with
   | some (.iface t v)=>some (.iface t v)
   | _=>none
 | _=>none
def isDefer (o:Oper):Bool:=
 match o.op with
 | .defer _=>true
 | _=>false
def tmin (a b:Nat):Nat:=bif Nat.ble a b then a else b
theorem Zmd (a b:Nat):tmin a b<=b:=by
 unfold tmin;cases h:Nat.ble a b with
 | true=>exact Yaa h
 | false=>exact Yab _
def retS (r:OpR):OpR:=⟨(fixB r.v r.orc).1,r.wr,r.obl++(fixB r.v r.orc).2.1,(fixB r.v r.orc).2.2,r.c,r.th,r.pan⟩
def opS (P : Program) (cs : CallS) (ys : YEnv) (o : Oper) (get : Operand -> Option SV) (bk : List (Nat × Blk)) (th c : Nat) (orc : List (Option Bool)) : Option (OpR × Bool) :=
 if isDefer o then none else
 match cs.op o get with
 | some x=>some (⟨x,[],[],orc,c,th,none⟩,false)
 | none=>
 match callOf P o get with
 | some (f, args) => if bk.all (λp => Nat.blt p.1 c) then (match cs.call ys f args bk c (tmin th c) orc with
   | some r=>if Nat.ble c r.c then some (retS r,true) else none
   | none=>none) else none
 | none => match yldOf o get with
   | some (k, args) => match ys.look k with
     | some h => if bk.all (λp => Nat.blt p.1 c) then (match h args bk c (tmin th c) orc with
       | some r=>if Nat.ble c r.c then some (retS r,true) else none
       | none=>none) else none
     | none=>none
   | none => match panOf o get with
     | some p=>some (⟨.no,bk,[],orc,c,th,some p⟩,false)
     | none => match idxS P o get orc with
      | some (x,ps,orc')=>some (⟨x,[],ps,orc',c,th,none⟩,false)
      | none=>match symS P o get with
       | some (x,ps)=>some (⟨(fixB x orc).1,[],ps++(fixB x orc).2.1,(fixB x orc).2.2,c,th,none⟩,false)
       | none => match effS P o get bk th c with
         | some (x,wr,c')=>if Nat.ble c c' then some (⟨x,wr,[],orc,c',th,none⟩,false) else none
         | none=>none
theorem Zc4 {α:Type} {l:List (Nat×α)} {c:Nat} (h:l.all (λp=>Nat.blt p.1 c)=true):∀k b,l.look k=some b->k<c:=by
 induction l with
 | nil=>intro k b hk;simp at hk
 | cons p r ih =>
   obtain⟨k',x⟩:=p;intro k b hk;rw[List.all_cons,Yam]at h;rw[Zav]at hk;split at hk
   ·rename_i e
    subst e;exact of_eq_true (by rw[<-Nat.blt_eq];simpa using h.1)
   ·exact ih h.2 k b hk
theorem Sat.reth {D:Den} {w0:World} {X:Nat->Prop} {th t:Nat} {ρ:Nm} {wc w:World} {bk:List (Nat×Blk)} (h:Sat D w0 X th ρ wc w bk) (hf:∀k b,bk.look k=some b->k<t):Sat D w0 X t ρ wc w bk:=
 ⟨h.fr,h.ext,h.inj,h.lt,λk b hk=>let ⟨B,cs,h1,h2,h3,h4,_,h6⟩:=h.box k b hk;⟨B,cs,h1,h2,h3,h4,λ_ hh=>absurd hh (Nat.not_le.2 (hf k b hk.1)),h6⟩⟩
theorem Sat.tmin {D:Den} {w0:World} {X:Nat->Prop} {th c:Nat} {ρ:Nm} {wc w:World} {bk:List (Nat×Blk)} (h:Sat D w0 X th ρ wc w bk) (hf:∀k b,bk.look k=some b->k<c):Sat D w0 X (tmin th c) ρ wc w bk:=by
 unfold Go.Ex.tmin;cases hb:Nat.ble th c with
 | true=>exact h
 | false=>exact h.reth hf
theorem YOk.at {D:Den} {P:Program} {w0:World} {X:Nat->Prop}:∀{bd:Nat} {ys:YEnv} {ρ:Nm} {wc w:World} {k:Nat} {h:YS},YOk D P w0 X bd ys ρ wc w->ys.look k=some h->
  ∃B,ρ k=some B∧∀args bk c th orc r,h args bk c th orc=some r->(∀p∈r.obl,p)->∀vals,Sat D w0 X th ρ wc w bk->(∀j x,bk.look j=some x->j<c)->th<=c->
    (∀j,c<=j->j<r.c->ρ j=none)->denAs D ρ wc args vals->
    ∃fn tmps assign body,(Instr.yield B.blk vals.toArray).run P w=.ok (.round B.blk fn tmps assign body) w∧
      RoundIn (WF none) 0 P B.blk fn tmps assign body w (Post D w0 X ρ wc w bk c r)
 | _, (k', h') :: ys, ρ, wc, w, k, h, ⟨B, lp, h2, h3, _, _, h1, h4⟩, hk => by
   rw[Zav]at hk;split at hk
   ·rename_i e
    cases hk;subst e;refine⟨B,h2,λargs bk c th orc r hh ho vals g1 g2 g3 g4 g5=>?_⟩;obtain⟨fn,tmps,assign,body,q1,q2⟩:=h4 args bk c th orc r hh ho ρ wc w vals (Nm.le.refl _) (Ext.refl _) g1 h1 g2 g3 g4 g5 h3;exact⟨fn,tmps,assign,body,q1,q2.mono λe w' hp=>hp.1⟩
   ·exact YOk.at h1 hk
section
variable {D:Den} {P:Program} {w0:World} {X:Nat->Prop} {th:Nat} {ρ:Nm} {wc w:World} {bk bkR:List (Nat×Blk)} {c:Nat} {get:Operand->Option SV} {a:Act} {cs:CallS} {ys:YEnv}
theorem Zkq {o:Oper} {orc:List (Option Bool)} {r:OpR} {cl:Bool} (he:opS P cs ys o get bkR th c orc=some (r,cl)):c<=r.c:=by
 unfold opS at he;split at he
 ·cases he
 ·split at he
  ·cases he
   exact Yab _
  split at he
  ·split at he
   ·split at he
    ·split at he
     ·rename_i h
      cases he;exact Yaa h
     ·cases he
    ·cases he
   ·cases he
  ·split at he
   ·split at he
    ·split at he
     ·split at he
      ·split at he
       ·rename_i h
        cases he;exact Yaa h
       ·cases he
      ·cases he
     ·cases he
    ·cases he
   ·split at he
    ·cases he
     exact Yab _
    ·split at he
     ·cases he
      exact Yab _
     split at he
     ·cases he
      exact Yab _
     ·split at he
      ·split at he
       ·rename_i h
        cases he;exact Yaa h
       ·cases he
      ·cases he
theorem Znx (hcs:CallOk D P w0 X cs) {bd:Nat} (hy:YOk D P w0 X bd ys ρ wc w) (h:Sat D w0 X th ρ wc w bk) (hs:Sub bkR bk) (hg:∀x z,get x=some z->denV D ρ wc z (a.eval x)) {o:Oper} {orc:List (Option Bool)} {r:OpR} {cl:Bool}
  (he:opS P cs ys o get bkR th c orc=some (r,cl)) (hobl:∀p∈r.obl,p) (hn:∀k,c<=k->k<r.c->ρ k=none) {G:List (Nat×Blk)} {th':Nat} {ro:Option Nat} {n:Nat}
  (hcl:cl=true->(∀k b,bkR.look k=some b->k<c)->∀ρ' wc' w',Sat D w0 X r.th ρ' wc' w' (r.fin bkR)->Evo ρ wc w bkR c r.c ρ' wc' w' (r.fin bkR)->Sat D w0 X th' ρ' wc' w' G∧Evo ρ wc w bk c r.c ρ' wc' w' G)
  (hpl:cl=false->r.th=th->th'=th∧((r.pan=none∧G=r.wr++bk)∨(r.pan≠none∧(r.wr=bkR->Sub' G bk))))
  {K:Act->World->Prop} {Q:Exit->Act->World->Prop}
  (hK:r.pan=none->∀ρ' wc' w' v,denV D ρ' wc' r.v v->Sat D w0 X th' ρ' wc' w' G->Evo ρ wc w bk c r.c ρ' wc' w' G->K (a.put o.dst v) w')
  (hP:∀p,r.pan=some p->∀ρ' wc' w',Sat D w0 X th' ρ' wc' w' G->Evo ρ wc w bk c r.c ρ' wc' w' G->Q (.panic [{v:=p,recovered:=false}]) a w'):o.wpIn (WF ro) n P a w K Q:=by
 refine⟨λ_ _=>trivial,?_⟩;unfold opS at he;split at he
 ·cases he
 rename_i hdf;rw[Oper.semAt_eq _ _ _ (λc hc=>by rw[isDefer,hc]at hdf;simp at hdf)]
 have fin:∀{r':OpR} {e:Ending} {w':World},r=retS r'->(∀ρ' wc' w',Sat D w0 X r'.th ρ' wc' w' (r'.fin bkR)->Evo ρ wc w bkR c r'.c ρ' wc' w' (r'.fin bkR)->Sat D w0 X th' ρ' wc' w' G∧Evo ρ wc w bk c r'.c ρ' wc' w' G)->Post D w0 X ρ wc w bkR c r' e w'->
   (match e,w' with
    | .returned v,w''=>K (a.put o.dst v) w''
    | .panicked chain,w''=>Q (.panic chain) a w''
    | .outgrown,_=>LetsOut Q):=by
  intro r' e w' hr hm ⟨v,ρ',wc',hend,hv,hS,hE⟩;subst hr;obtain⟨k1,k2⟩:=hm ρ' wc' w' hS hE;unfold OpR.ends at hend;split at hend
  ·rename_i hp
   subst hend;exact hK hp ρ' wc' w' v (Zq4 (λp hp=>hobl p (Ydv _ hp)) hv) k1 k2
  ·rename_i p hp
   subst hend;exact hP p hp ρ' wc' w' k1 k2
 split at he
 ·rename_i x hx
  obtain⟨rfl,rfl⟩:(⟨x,[],[],orc,c,th,none⟩:OpR)=r∧false=cl:=by simpa using he
  obtain⟨rfl,hG⟩:=hpl rfl rfl;obtain rfl:G=bk:=by
   rcases hG with ⟨_,h2⟩|⟨h2,_⟩
   ·exact h2
   ·exact absurd rfl h2
  obtain⟨v,h1,h2⟩:=hcs.op o get x hx ρ wc w a.eval h.fr hg;rw[h1,Oper.uponIn_value];exact hK rfl ρ wc w v h2 h (Evo.refl _ _ _ _ _)
 split at he
 ·rename_i f args hcall
  split at he
  ·rename_i hall
   split at he
   ·rename_i r' hr
    split at he
    ·rename_i hle
     obtain⟨rfl,rfl⟩:retS r'=r∧true=cl:=by simpa using he
     have hlt:=Zc4 hall;unfold callOf at hcall;split at hcall
     ·rename_i cc ho
      split at hcall
      ·rename_i fv hcal
       split at hcall
       ·rename_i gf fs caps sa hfv hsa
        split at hcall
        ·rename_i hen
         obtain⟨rfl,rfl⟩:gf=f∧fs++(sa++capsA caps)=args:=by simpa using hcall
         obtain⟨us,vs,e2,hus,hvs⟩:=Znw hfv (hg fv);have hargs:=hus.append ((Zi9 hg hsa).append (Zgd (D:=D) (w:=wc) hvs));have hx:(execOp a.eval o).run P w=.ok (.enter gf (us++(cc.args.toList.map a.eval++vs)).toArray) w:=by
          unfold execOp;simp only[ho,resolve,hcal,Deferred.ofValue,e2,Yar,Yau,Yag,invoke];rw[Zfg hen];congr 2
          apply Yee.1;simp
         rw[hx,Oper.uponIn_enter];refine⟨(λhh=>by cases hh),callsIn_WF.2 ((hcs.call _ _ _ _ _ _ _ _ hr (λp hp=>hobl p (Ycy _ hp)) bd ρ wc w _ ((h.sub hs).tmin hlt) hy hlt (Zmd _ _) hn hargs).mono ?_)⟩;intro e w' hp;exact fin rfl (hcl rfl hlt) hp
        ·cases hcall
       ·cases hcall
      ·cases hcall
     ·cases hcall
    ·cases he
   ·cases he
  ·cases he
 ·split at he
  ·rename_i k args hyl
   split at he
   ·rename_i hd hhd
    split at he
    ·rename_i hall
     split at he
     ·rename_i r' hr
      split at he
      ·rename_i hle
       obtain⟨rfl,rfl⟩:retS r'=r∧true=cl:=by simpa using he
       have hlt:=Zc4 hall;unfold yldOf at hyl;split at hyl
       ·rename_i cc ho
        split at hyl
        ·rename_i fv hcal
         split at hyl
         ·rename_i k' sa hfv hsa
          obtain⟨rfl,rfl⟩:k'=k∧sa=args:=by simpa using hyl
          obtain⟨B,hB,e1⟩:=hg _ _ hfv;have e2:a.eval fv=.func (.yield B.blk) #[] #[]:=by simpa using e1
          have hargs:=Zi9 (D:=D) (wc:=wc) hg hsa;obtain⟨B',hB',hround⟩:=hy.at hhd;cases hB.symm.trans hB';obtain⟨fn,tmps,assign,body,q1,q2⟩:=hround _ _ _ _ _ _ hr (λp hp=>hobl p (Ycy _ hp)) _ ((h.sub hs).tmin hlt) hlt (Zmd _ _) hn hargs;have hx:(execOp a.eval o).run P w=.ok (.round B.blk fn tmps assign body) w:=by
           rw[<-q1];unfold execOp;simp only[ho,resolve,hcal,Deferred.ofValue,e2,Yar,Yau,Yag,invoke];congr 2
           apply Yee.1;simp
          rw[hx,Oper.uponIn_round];refine⟨(λhh=>by cases hh),?_⟩;refine RoundIn.mono (F:=WF ro) (R:=Post D w0 X ρ wc w bkR c r') ⟨trivial,λc' cs' hroom=>?_⟩ λe w' hp=>fin rfl (hcl rfl hlt) hp;exact q2.2 c' cs' (λd hd=>by cases hd)
         ·cases hyl
        ·cases hyl
       ·cases hyl
      ·cases he
     ·cases he
    ·cases he
   ·cases he
  ·split at he
   ·rename_i p hpan
    obtain⟨rfl,rfl⟩:(⟨.no,bkR,[],orc,c,th,some p⟩:OpR)=r∧false=cl:=by simpa using he
    obtain⟨rfl,hG⟩:=hpl rfl rfl;have hG:Sub' G bk:=by
     rcases hG with ⟨h1,_⟩|⟨_,h2⟩
     ·cases h1
     ·exact h2 rfl
    have real:∀{x:Operand} {u:Value},(get x).bind realV=some u->a.eval x=u:=by
     intro x u hx;obtain⟨z,hz,hr⟩:=Ybg.1 hx;exact Zgu hr (hg _ _ hz)
    have hrun:(execOp a.eval o).run P w=.halt (.panic p) w:=by
     unfold panOf at hpan;split at hpan
     ·rename_i x ho
      split at hpan
      ·rename_i t v hx
       cases hpan;unfold execOp;simp only[ho,real hx];rfl
      ·cases hpan
     ·rename_i x ts ho
      split at hpan
      ·rename_i t v hx
       cases hpan;unfold execOp;simp only[ho,resolve,Yar,Yau,Yag,invoke,builtin,Yev,Ybz,Yfp,real hx];rfl
      ·cases hpan
     ·cases hpan
    rw[hrun,Oper.uponIn_panic];exact hP p rfl ρ wc w (h.sub' hG) ((Evo.refl ρ wc w bk c).sub' hG)
   ·split at he
    ·rename_i x ps orc' hidx
     obtain⟨rfl,rfl⟩:(⟨x,[],ps,orc',c,th,none⟩:OpR)=r∧false=cl:=by simpa using he
     obtain⟨rfl,hG⟩:=hpl rfl rfl;obtain rfl:G=bk:=by
      rcases hG with ⟨_,h2⟩|⟨h2,_⟩
      ·exact h2
      ·exact absurd rfl h2
     obtain⟨v,h1,h2⟩:=Zwa (P:=P) (w:=w) hg hidx hobl;rw[h1,Oper.uponIn_value];exact hK rfl ρ wc w v h2 h (Evo.refl _ _ _ _ _)
    split at he
    ·rename_i x ps hsym
     obtain⟨rfl,rfl⟩:(⟨(fixB x orc).1,[],ps++(fixB x orc).2.1,(fixB x orc).2.2,c,th,none⟩:OpR)=r∧false=cl:=by simpa using he
     obtain⟨rfl,hG⟩:=hpl rfl rfl;obtain rfl:G=bk:=by
      rcases hG with ⟨_,h2⟩|⟨h2,_⟩
      ·exact h2
      ·exact absurd rfl h2
     obtain⟨v,h1,h2⟩:=Zv9 (P:=P) (w:=w) hg hsym (λp hp=>hobl p (Ycy _ hp));rw[h1,Oper.uponIn_value];exact hK rfl ρ wc w v (Zq4 (λp hp=>hobl p (Ydv _ hp)) h2) h (Evo.refl _ _ _ _ _)
    ·split at he
     ·rename_i x wr c' heff
      split at he
      ·obtain⟨rfl,rfl⟩:(⟨x,wr,[],orc,c',th,none⟩:OpR)=r∧false=cl:=by simpa using he
       obtain⟨rfl,hG⟩:=hpl rfl rfl;obtain rfl:G=wr++bk:=by
        rcases hG with ⟨_,h2⟩|⟨h2,_⟩
        ·exact h2
        ·exact absurd rfl h2
       obtain⟨nx,v,w',ρ',hrun,hnx,hv,k1,k2⟩:=Zv8 h hs hg heff hn;rw[hrun];rcases hnx with rfl|⟨rfl,rfl⟩
       ·exact hK rfl ρ' wc w' v hv k1 k2
       ·exact hK rfl ρ' wc w' undef hv k1 k2
      ·cases he
     ·cases he
end
/-! ### slots -/
def putT (tm:List (Nat×SV)) (d:Option Tmp) (x:SV):List (Nat×SV):=
 match d with
 | some t=>(t,x)::tm
 | none=>tm
def dstOk (n:Nat) (d:Option Tmp):Bool:=
 match d with
 | some t=>Nat.blt t n
 | none=>true
theorem TSat.put {D:Den} {ρ:Nm} {w:World} {n:Nat} {tm:List (Nat×SV)} {a:Act} (h:TSat D ρ w n tm a) {d:Option Tmp} (hd:dstOk n d=true) {x:SV} {v:Value} (hv:denV D ρ w x v) :
  TSat D ρ w n (putT tm d x) (a.put d v):=by
 cases d with
 | none=>exact h
 | some t =>
   have ht:t<a.tmps.size:=by rw[h.size];exact Nat.blt_eq▸(show Nat.blt t n=true from hd)
   refine⟨by simp[Act.put,h.size],λs y hs=>?_⟩;unfold putT at hs;dsimp only at hs;rw[Zav]at hs;show ∃v',(a.tmps.setIfInBounds t v)[s]? = some v'∧_;by_cases e:s=t
   ·rw[if_pos e]at hs
    cases hs;subst e;exact⟨v,by simp[ht],hv⟩
   ·rw[if_neg e]at hs
    obtain⟨v',h1,h2⟩:=h.at_ s y hs;exact⟨v',by rw[Array.getElem?_setIfInBounds,if_neg (λh=>e h.symm)];exact h1,h2⟩
def wantS (ops:Array Oper) (o:Oper) (tm:List (Nat×SV)) (orc:List (Option Bool)):Option (Bool×List Prop×List (Option Bool)):=
 match o.guard with
 | none=>some (true,[],orc)
 | some (j, want) => match (ops[j]?).bind (·.dst) with
   | some d => match tm.look d with
     | some (.a (.one (.val (.bool b))))=>some (b==want,[],orc)
     | some (.tup _)=>some (false,[],orc)
     | _=>none
   | none=>none
theorem Zet {D:Den} {ρ:Nm} {w:World} {n:Nat} {tm:List (Nat×SV)} {a:Act} (h:TSat D ρ w n tm a) {ops:Array Oper} {o:Oper} {orc orc':List (Option Bool)} {b:Bool} {ps:List Prop}
  (hw:wantS ops o tm orc=some (b,ps,orc')) (hps:∀p∈ps,p):Region.wanted o (yielded ops a.tmps)=b:=by
 unfold wantS at hw;unfold Region.wanted;split at hw
 ·rename_i hg
  cases hw;rw[hg]
 ·rename_i j want hg
  rw[hg];dsimp only;split at hw
  ·rename_i d hd
   split at hw
   ·rename_i b' hb
    obtain⟨v,hv,hden⟩:=h.at_ d _ hb;have hvb:v=.bool b':=by simpa using hden.1
    subst hvb;cases hw;unfold yielded;rw[hd,Yfq,hv];cases b'<;>cases want<;>rfl
   ·rename_i l hb
    cases hw;obtain⟨v,hv,vs,rfl,_⟩:=h.at_ d _ hb;unfold yielded;rw[hd,Yfq,hv];rfl
   ·cases hw
  ·cases hw
end
end Go.Ex
