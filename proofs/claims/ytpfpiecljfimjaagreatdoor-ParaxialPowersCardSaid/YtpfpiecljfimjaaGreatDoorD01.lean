/- The drafted optics of chapter 13: what it is and that it is valid. Part 1 of 14. No condition beside the row. -/
import Derived.LaidOnce
import Derived.LaidMore
import Derived.ProofKit
import Derived.Stop.Joined
import Derived.Deep.Slices
import Derived.Deep.Strs
import Derived.OpenShut
import Derived.Carry
import Derived.SizedLaws
import Derived.Test.YtpfpiecljfimjaaGreatDoorA03
import Derived.Test.YtpfpiecljfimjaaGreatDoorA04
import Derived.Test.YtpfpiecljfimjaaGreatDoorA13
import Derived.Test.YtpfpiecljfimjaaGreatDoorA16
import Derived.Test.YtpfpiecljfimjaaGreatDoorA23
import Derived.Test.YtpfpiecljfimjaaGreatDoorA24
set_option linter.unusedVariables false
set_option linter.unusedSimpArgs false
set_option maxRecDepth 100000
set_option maxHeartbeats 4000000
namespace Go.Mono
open Go.RowKit

structure SD where
 kind:Int
 c0:Int
 c1:Int
 k0:Int
 k1:Int
 a0:Int
 a1:Int
 a2:Int
 a3:Int
 p0:Int
 p1:Int
 order:Int
 thick:Int
 glass:Int
 semi:Int
 hole:Int
 b0:Int
 b1:Int
 b2:Int
 b3:Int
 b4:Int
 films:List Int
def R8 (z:Int):Prop:=-128<=z∧z<=127
def R16 (z:Int):Prop:=-32768<=z∧z<=32767
def U8 (z:Int):Prop:=0<=z∧z<=255
def U16 (z:Int):Prop:=0<=z∧z<=65535
structure SD.ok (d:SD):Prop where
 kind:U8 d.kind
 c0:R16 d.c0
 c1:R16 d.c1
 k0:R16 d.k0
 k1:R16 d.k1
 a0:R8 d.a0
 a1:R8 d.a1
 a2:R8 d.a2
 a3:R8 d.a3
 p0:R8 d.p0
 p1:R8 d.p1
 order:R8 d.order
 thick:R16 d.thick
 glass:U8 d.glass
 semi:U8 d.semi
 hole:U8 d.hole
 b0:R8 d.b0
 b1:R8 d.b1
 b2:R8 d.b2
 b3:R8 d.b3
 b4:R8 d.b4
 films:∀z∈d.films,U8 z
def nmNone:ByteArray:={data:=#[]}
def nmBK7:ByteArray:={data:=#[66,75,55]}
def nmSF1:ByteArray:={data:=#[83,70,45,49]}
def nmF2:ByteArray:={data:=#[102,95,50]}
def dGlass (n:Int):ByteArray:=
 if n%5=0 then nmNone else if n%5=1 then nmBK7 else if n%5=2 then nmSF1 else if n%5=3 then mirror else nmF2
def dFilm (n:Int):Flm:=⟨13000000+50000*n,n%7,1+n%5⟩
def SD.semiS (d:SD):Int:=100000*d.semi
def SD.holeS (d:SD):Int:=if d.hole%4=1∧0<d.semi then d.semiS/4 else 0
def SD.base (d:SD):Srf:=
 {kind:=1,curv:=1000*d.c0,conic:=1000*d.k0.tmod 3000,curvx:=0,conicx:=0,a0:=0,a1:=0,a2:=0,a3:=0,p0:=0,p1:=0,order:=0,thick:=1000*d.thick.tmod 20000,glass:=dGlass d.glass,semi:=d.semiS,hole:=d.holeS,dx:=0,dy:=0,ax:=0,ay:=0,az:=0}
def SD.asp (d:SD):Srf:={d.base with a0:=1000*d.a0,a1:=1000*d.a1,a2:=1000*d.a2,a3:=1000*d.a3,co:=(d.films.take 3).map dFilm}
def SD.bic (d:SD):Srf:={d.base with kind:=2,curvx:=1000*d.c1,conicx:=1000*d.k1.tmod 3000}
def SD.brk (d:SD):Srf:=
 {kind:=3,curv:=0,conic:=0,curvx:=0,conicx:=0,a0:=0,a1:=0,a2:=0,a3:=0,p0:=0,p1:=0,order:=0,thick:=1000*d.thick.tmod 20000,glass:=nmNone,semi:=0,hole:=0,dx:=10000*d.b0,dy:=10000*d.b1,ax:=100000*d.b2,ay:=100000*d.b3,az:=100000*d.b4}
def SD.idl (d:SD):Srf:=
 {kind:=4,curv:=1000*d.c0,conic:=0,curvx:=0,conicx:=0,a0:=0,a1:=0,a2:=0,a3:=0,p0:=0,p1:=0,order:=0,thick:=1000*d.thick.tmod 20000,glass:=nmNone,semi:=d.semiS,hole:=d.holeS,dx:=0,dy:=0,ax:=0,ay:=0,az:=0}
def SD.grt (d:SD):Srf:={d.base with order:=d.order.tmod 4,p0:=1000*d.p0,p1:=1000*d.p1}
def SD.srf (d:SD):Srf:=
 if d.kind%8=4 then d.asp
 else if d.kind%8=5 then d.bic
 else if d.kind%8=6 then d.brk
 else if d.kind%8=7 then(if d.order.tmod 2=0 then d.idl else if d.glass%5=3 then d.base else d.grt)
 else d.base
theorem Zr6 (n:Int):dGlass n = {data:=#[]}∨NameOk (dGlass n):=by
 unfold dGlass;split
 ·exact .inl rfl
 ·right
  split
  ·exact⟨Zd,Zd,Zd⟩
  ·split
   ·exact⟨Zd,Zd,Zd⟩
   ·split
    ·exact⟨Zd,Zd,Zd⟩
    ·exact⟨Zd,Zd,Zd⟩
theorem Zdg (n:Int):dGlass n=mirror↔n%5=3:=by
 unfold dGlass;constructor
 ·intro h
  split at h
  ·exact absurd h Zd
  ·split at h
   ·exact absurd h Zd
   ·split at h
    ·exact absurd h Zd
    ·split at h
     ·assumption
     ·exact absurd h Zd
 ·intro h
  rw[if_neg Zo,if_neg Zo,if_neg Zo,if_pos h]
theorem Zuq {n:Int} (h:U8 n):(dFilm n).ok:=by
 obtain⟨h1,h2⟩:=h;unfold dFilm Flm.ok;dsimp only;omega
theorem Zdq {z m:Int} (hm:0<m) : -m<z.tmod m∧z.tmod m<m:=by
 have h1:=Int.tmod_lt_of_pos z hm;have h2:=Int.tmod_lt_of_pos (-z) hm;rw[Int.neg_tmod]at h2;omega
theorem SD.base_ok {d:SD} (h:d.ok):d.base.ok:=by
 obtain⟨s0,s1⟩:=h.semi;obtain⟨e0,e1⟩:=h.hole;obtain⟨c0,c1⟩:=h.c0;have k:=Zdq (z:=d.k0) (m:=3000) Zd;have t:=Zdq (z:=d.thick) (m:=20000) Zd;have z0:∀m:Int,0<=m->In m 0:=λm hm=>⟨Zo,hm⟩
 have hh:0<=d.holeS∧d.holeS<=1000000000∧(d.semiS=0∨d.holeS<d.semiS):=by
  unfold SD.holeS SD.semiS;split<;>omega
 exact {k1:=(by decide:(1:Int)<=1),k2:=(by decide:(1:Int)<=4),kept:=by simp[Srf.kept,SD.base],curv:=⟨by simp only[SD.base];omega,by simp only[SD.base];omega⟩,curvx:=z0 _ Zd,thick:=⟨by simp only[SD.base];omega,by simp only[SD.base];omega⟩,dx:=z0 _ Zd,dy:=z0 _ Zd,a0:=z0 _ Zd,a1:=z0 _ Zd,a2:=z0 _ Zd,a3:=z0 _ Zd,p0:=z0 _ Zd,p1:=z0 _ Zd,conic:=⟨by simp only[SD.base];omega,by simp only[SD.base];omega⟩,conicx:=z0 _ Zd,ax:=z0 _ Zd,ay:=z0 _ Zd,az:=z0 _ Zd,order:=z0 _ Zd,semi0:=by simp only[SD.base,SD.semiS];omega,semi1:=by simp only[SD.base,SD.semiS];omega,hole0:=hh.1,hole1:=hh.2.1,ring:=hh.2.2,glass:=Zr6 _,coats:=by simp[SD.base],films:=by simp[SD.base]}
theorem SD.srf_ok {d:SD} (h:d.ok):d.srf.ok:=by
 have hb:=SD.base_ok h;have z0:∀m:Int,0<=m->In m 0:=λm hm=>⟨Zo,hm⟩
 have r8:∀{z:Int} (m k:Int),R8 z->0<=k->128*k<=m->In m (k*z):=by
  intro z m k hz hk hm;obtain⟨h1,h2⟩:=hz;have e1:k*z<=k*127:=Ycr h2 hk;have e2:k*(-128)<=k*z:=Ycr h1 hk;exact⟨Zo,Zo⟩
 have hcl:d.asp.co.length<=8:=by
  simp only[SD.asp,Ybt,Ycq];omega
 have hcf:∀f∈d.asp.co,f.ok:=λf hf=>by
  simp only[SD.asp,Ydl]at hf;obtain⟨z,hz,rfl⟩:=hf;exact Zuq (h.films z (Yfu hz))
 unfold SD.srf;split
 ·exact {hb with kept:=by simp[Srf.kept,SD.base,SD.asp],a0:=r8 _ 1000 h.a0 Zd Zd,a1:=r8 _ 1000 h.a1 Zd Zd,a2:=r8 _ 1000 h.a2 Zd Zd,a3:=r8 _ 1000 h.a3 Zd Zd,coats:=hcl,films:=hcf}
 ·split
  ·have hc:=h.c1
   have k:=Zdq (z:=d.k1) (m:=3000) Zd;obtain⟨c0,c1⟩:=hc;exact {hb with k1:=by simp[SD.bic],k2:=by simp[SD.bic],kept:=by simp[Srf.kept,SD.base,SD.bic],curvx:=⟨by simp only[SD.bic];omega,by simp only[SD.bic];omega⟩,conicx:=⟨by simp only[SD.bic];omega,by simp only[SD.bic];omega⟩}
  ·split
   ·exact {k1:=by simp[SD.brk],k2:=by simp[SD.brk],kept:=by simp[Srf.kept,SD.brk,nmNone],curv:=z0 _ Zd,curvx:=z0 _ Zd,thick:=hb.thick,dx:=r8 _ 10000 h.b0 Zd Zd,dy:=r8 _ 10000 h.b1 Zd Zd,a0:=z0 _ Zd,a1:=z0 _ Zd,a2:=z0 _ Zd,a3:=z0 _ Zd,p0:=z0 _ Zd,p1:=z0 _ Zd,conic:=z0 _ Zd,conicx:=z0 _ Zd,ax:=r8 _ 100000 h.b2 Zd Zd,ay:=r8 _ 100000 h.b3 Zd Zd,az:=r8 _ 100000 h.b4 Zd Zd,order:=z0 _ Zd,semi0:=Yek 0,semi1:=(by decide:(0:Int)<=1000000000),hole0:=Yek 0,hole1:=(by decide:(0:Int)<=1000000000),ring:=.inl rfl,glass:=.inl rfl,coats:=by simp[SD.brk],films:=by simp[SD.brk]}
   ·split
    ·split
     ·exact {hb with k1:=by simp[SD.idl],k2:=by simp[SD.idl],kept:=by simp[Srf.kept,SD.idl,nmNone],conic:=z0 _ Zd,glass:=.inl rfl}
     ·split
      ·exact hb
      ·rename_i ho hg
       have hm:dGlass d.glass≠mirror:=λe=>hg ((Zdg _).1 e);have t:=Zdq (z:=d.order) (m:=4) Zd;have hne:d.order.tmod 4≠0:=λe=>ho (Int.tmod_eq_zero_of_dvd (Int.dvd_trans Zd (Int.dvd_of_tmod_eq_zero e)));exact {hb with kept:=by simp[Srf.kept,SD.base,SD.grt,hne,hm],p0:=r8 _ 1000 h.p0 Zd Zd,p1:=r8 _ 1000 h.p1 Zd Zd,order:=⟨by simp only[SD.grt];omega,by simp only[SD.grt];omega⟩}
    ·exact hb
structure KeepNew (base:Nat) (V V':World):Prop where
 size:V.heap.size<=V'.heap.size
 cells:∀(k:Nat) cs T fr,base<=k->V.heap[k]? = some (.cells cs T fr)->V'.heap[k]? = some (.cells cs T fr)
theorem KeepNew.refl (base:Nat) (V:World):KeepNew base V V:=⟨Yab _,λ_ _ _ _ _ h=>h⟩
theorem KeepNew.mono {base base':Nat} {V V':World} (h:KeepNew base V V') (hb:base<=base'):KeepNew base' V V':=⟨h.size,λk cs T fr hk hh=>h.cells k cs T fr Zo hh⟩
theorem KeepNew.trans {base:Nat} {a b c:World} (h:KeepNew base a b) (k:KeepNew base b c):KeepNew base a c:=⟨Yak h.size k.size,λi cs T fr hi hh=>k.cells i cs T fr hi (h.cells i cs T fr hi hh)⟩
theorem KeepNew.of_below {base:Nat} {V V':World} (h:Below V.heap.size V V'):KeepNew base V V':=⟨h.size,λk _ _ _ _ hh=>(h.block k (Zam hh)).trans hh⟩
theorem KeepNew.box {base:Nat} {V V':World} (h:KeepNew base V V') {B:Nat} {T:TypeId} {cs:Array Value} (b:Box V B T cs) (hB:base<=B):Box V' B T cs:=⟨h.cells B cs T _ hB b.blk⟩
theorem KeepNew.grown {base:Nat} {V V':World} {row:Option Nat} (hg:V.grownBy V' row) (hr:∀r,row=some r->∃o:Obj,V.heap[r]? = some o∧o.isCells=false):KeepNew base V V':=by
 obtain⟨_,_,_,hs,hb⟩:=hg;refine⟨hs,λk cs T fr _ hh=>(hb k (Zam hh) λe=>?_).trans hh⟩;obtain⟨o,ho,hc⟩:=hr k e.symm;rw[hh]at ho;cases ho;cases hc
end Go.Mono
namespace Go.Proofs.W
open Go.RowKit Go.Mono
section
open Go Go.ChangeShapes Go.WideShapes Go.ChangeAt
theorem Zsj:laidOutB Tryz.prog=true:=Zk
theorem Zhf {P:Program} (hl:laidOutB P=true) {H:Type} {enc:TypeId×Value->H} {W W':World} (hb:Below W.heap.size W W'):∀(ts:List TypeId) (vs:List Value) (ds:List (DataW H)) (ps:List MemPlace),
  (ts.all λt=>P.readableRec t&&decide (t<P.types.size))=true->DataW.TrodAll enc P W 0 (λ_=>true) true ts vs ds ps->(∀x∈ps,x.block<W.heap.size)->DataW.TrodAll enc P W' 0 (λb=>decide (b<W.heap.size)) true ts vs ds ps:=by
 intro ts;induction ts with
 | nil =>
   intro vs ds ps _ h _;obtain⟨rfl,rfl,rfl⟩:=trodAll_nil h;exact rfl
 | cons t ts ih =>
   intro vs ds ps hr h hlt;obtain⟨v,vs1,d,ds1,a,b,rfl,rfl,rfl,h1,h2⟩:=trodAll_cons h;rw[List.all_cons,Yam,Yam,decide_eq_true_eq]at hr;exact⟨a,b,Below.trod hl hr.1.1 hr.1.2 h1 hb (λx hx=>hlt x (Ycy _ hx)),ih _ _ _ hr.2 h2 (λx hx=>hlt x (Ydv _ hx)),rfl⟩
theorem cell_lt18 {w:World} {a:Addr} {u:Value} (h:w.cell? a=some u):a.block<w.heap.size:=by
 by_cases hb:a.block<w.heap.size
 ·exact hb
 ·rw[World.cell?,Yfj Zo]at h
  cases h
section
variable {H:Type} {enc:TypeId×Value->H} {W:World} {base:Nat} {r:Reach} {v:Value} {d:DataW H} {p:List MemPlace} {fuel:Nat} {cs:List Value} {x:DataW H×List MemPlace}
end
end
end Go.Proofs.W
namespace Go.Mono
open Go.RowKit
section
section
variable {P:Program} {ops:Array Oper} {Q:Exit->Act->World->Prop} {md:Region.Mode} {S:World->Prop}
theorem join_at {α:Type} {fuel fuel':Nat} {listed listed':Array Bool} {a:Act} {w:World} (puts:α->Act->Act) (wd:α->World) (G:α->Prop)
  (h1:∀x,G x->wpAnyH P md ops Q S fuel' listed' (puts x a) (wd x))
  (h2:Hid (∀x,G x->wpAnyH P md ops Q S fuel' listed' (puts x a) (wd x))->wpAnyH P md ops Q S fuel listed a w):wpAnyH P md ops Q S fuel listed a w:=h2 h1
theorem meet {fuel:Nat} {listed listed':Array Bool} {a a':Act} {w:World} (h:wpAnyH P md ops Q S fuel listed' a' w) (hl:listed=listed':=by rfl)
  (ha:a=a':=by(simp only[Act.put,Zsi,Zs0,Zss];try rfl)):wpAnyH P md ops Q S fuel listed a w:=by
 subst ha;subst hl;exact h
theorem sto (i:Nat) {o:Oper} {fuel:Nat} {listed:Array Bool} {a:Act} {w:World} (ty:TypeId) (x y:Operand) (B off:Nat) (T:TypeId) (old cells new:Array Value)
  (ho:ops[i]? = some o) (hop:o.op=.store ty x y) (hx:a.eval x=.pointer (some ⟨B,off,none⟩)) (hy:a.eval y=.agg cells)
  (hb:Box w B T old) (hi:(P.info? ty).map (·.size)=some cells.size) (hold:off+cells.size<=old.size) (h1:cells.all (·.oneCell')=true)
  (hn:old.toList.take off++cells.toList++old.toList.drop (off+cells.size)=new.toList)
  (h:∀W,KeepBut B w.heap.size w W->Box W B T new->S W∧wpAnyH P md ops Q S fuel (listed.setIfInBounds i true) (a.put o.dst undef) W)
  (hr:Region.ready md ops listed=[i]:=by as_aux_lemma=>kernel_rfl) (hw:Region.wanted o (yielded ops a.tmps)=true:=by as_aux_lemma=>kernel_rfl):wpAnyH P md ops Q S (fuel+1) listed a w:=by
 refine st i (λK hK=>?_) ho hr;rw[if_pos hw];have hz:=h _ ((KeepBut.refl _ _).setCells cells.toList off _) (by
  have:=Box.setCells cells.toList off w old hb (by simpa using hold);simpa[hn]using this)
 exact wp_store_mid ty x y hop B off cells hx hy (hb.there off cells.size hold) hi h1 (hK.out _ _ hz.1 λ_=>hz.2)
end
end
section
section
variable {P:Program} {ops:Array Oper} {Q:Exit->Act->World->Prop} {md:Region.Mode} {S S':World->Prop}
theorem Zhj (hS:∀w,S' w->S w):∀(fuel:Nat) (listed:Array Bool) (a:Act) (w:World),wpAnyH P md ops Q S' fuel listed a w->wpAnyH P md ops Q S fuel listed a w
 | 0,_,_,_,h=>h
 | fuel+1,listed,a,w,h=>⟨h.1,λi hi=>wpOp_mono (λa' w' hk=>⟨hS _ hk.1,Zhj hS fuel _ _ _ hk.2⟩) (h.2 i hi)⟩
theorem Fl.more {N F:Nat} {ps:List Fa} {listed:Array Bool} {a:Act} {V:World} (S':World->Prop) (hS:∀w,S' w->S w) (hB:∀w,Below V.heap.size V w->S w->S' w) (h:Fl P md ops Q S' N ps F listed a V):Fl P md ops Q S N ps F listed a V:=
 λqs w hq hV hw hok=>Zhj hS _ _ _ _ (h qs w hq hV (hB w hV hw) hok)
end
end
theorem Za2 {P:Program} {ops:Array Oper} {Q:Exit->Act->World->Prop} {o:Oper} {rest:List Oper} {a:Act} {w:World} (hg:o.guard=none) (ty:TypeId) (x y:Operand) (ho:o.op=.store ty x y) (B off:Nat) (T:TypeId) (old new:Array Value) (v:Value) (hx:a.eval x=.pointer (some ⟨B,off,none⟩)) (hy:a.eval y=v)
  (hrun:∀w:World,(w.cell? ⟨B,off,none⟩).isSome=true->w.frozen? ⟨B,off,none⟩=false->(Instr.storeAt ty (.pointer (some ⟨B,off,none⟩)) v).run P w=.ok () (w.setCell ⟨B,off,none⟩ v))
  (hb:Box w B T old) (hoff:off<old.size) (hn:old.setIfInBounds off v=new)
  (h:∀W,KeepBut B w.heap.size w W->Box W B T new->wpList P ops Q rest (a.put o.dst undef) W):wpList P ops Q (o::rest) a w:=by
 refine wpList_plain hg λK hK=>?_;have hc:(w.cell? ⟨B,off,none⟩).isSome=true:=by rw[hb.cell];simp[hoff]
 unfold Oper.wp execOp;simp only[ho,hx,hy,Yar,hrun w hc (hb.frozen off),Yag,Yau];exact hK _ _ (h _ ((KeepBut.refl _ _).set off v) (hn▸hb.set off v))
end Go.Mono
namespace Go.Proofs.W
open Go.RowKit Go.Mono
theorem Zu3 {v1 v2:Value} {a b:Rat} (w:World) (h1:QtV 600 w v1 a) (h2:QtV 600 w v2 b) (hb0:0<b) (hf:Fits (a/b)) :
  Calls Tryz.prog 96 #[v1,v2] w λe w'=>∃C,e=.returned (.tuple #[.agg C,.int .i64 0])∧QtV 600 w' (.agg C) (a/b)∧Below w.heap.size w w':=by
 have hr1:=λ(X:World) (hX:Ext w X)=>Zbq X (h1.ext hX);have hr2:=λ(X:World) (hX:Ext w X)=>Zbq X (h2.ext hX);have hpr1:=λ(X:World) (hX:Ext w X)=>h1.ext hX;have hpr2:=λ(X:World) (hX:Ext w X)=>h2.ext hX;obtain⟨s1,p1,n1,c1,t1,q1,m1,d1,rfl,x1,x2⟩:=h1;obtain⟨s2,p2,n2,c2,t2,q2,m2,d2,rfl,y1,y2⟩:=h2;have hbn:0<b.num:=by
  have k1:=Rat.num_nonneg.2 (Rat.le_of_lt hb0);have k2:b.num≠0:=λh=>by rw[Rat.num_eq_zero.1 h]at hb0;exact absurd hb0 Zd
  omega
 have hn2:=y1.len.2.2.1 Zo;have hn2':((n2:Int)==0)=false:=by simp;omega
 have hden:(0:Int)<(a.den:Int)*b.num:=Int.mul_pos (by have:=a.den_pos;omega) hbn;have hab:Rat.divInt (a.num*b.den) ((a.den:Int)*b.num)=a/b:=by
  rw[<-Rat.divInt_mul_divInt,Yds,Yew];congr 1
  rw[Rat.inv_def]
 clear hpr1 hpr2;go_enter Tryz.func96,Tryz.ntmps96
 go_wp2_with fail
 refine Zbk λW hB hs b0 b1 bO=>?_;refine(hr1 W (.of_below hB)).mono ?_;rintro e W2 ⟨rfl,hb⟩;replace b0:=b0.below hb;replace b1:=b1.below hb;replace bO:=bO.below hb;replace hB:=Zaa hB hb;have cb0:=b0.cell;have lb0:=b0.lt;have fb0:=b0.frozen;have cb1:=b1.cell;have lb1:=b1.lt;have fb1:=b1.frozen;clear hb hr1 hs;go_wp2_with fail
 refine(hr2 W2 (.of_below hB)).mono ?_;rintro e W3 ⟨rfl,hb⟩;replace b0:=b0.below hb;replace b1:=b1.below hb;replace bO:=bO.below hb;replace hB:=Zaa hB hb;clear cb0 lb0 fb0 cb1 lb1 fb1;have cb0:=b0.cell;have lb0:=b0.lt;have fb0:=b0.frozen;have cb1:=b1.cell;have lb1:=b1.lt;have fb1:=b1.frozen;clear hb hr2;go_wp2_with fail
 refine wp_region_held_drew (S:=λw'=>(∀b o,b<W3.heap.size->b≠(w.heap.size+1+1)->w'.cell? ⟨b,o,none⟩=W3.cell? ⟨b,o,none⟩)∧KeepBut (w.heap.size+1+1) W3.heap.size W3 w') Zx (KeepBut.S (KeepBut.refl _ _).drew) (λhHeld=>?_);have hBel:Below W3.heap.size W3 W3.drew:=(Yae _ _).drew;refine tk 0 (some 21) ?_;refine tl 1 (some 22) rfl (.agg #[.bool s1,.slice p1 n1 c1]) (Zai 49 _ rfl w.heap.size 0 rfl  #[.bool s1,.slice p1 n1 c1] (λw h=>(h.2.box b0 b0.lt Zo).part 0 #[.bool s1,.slice p1 n1 c1] rfl) _ Tryz.underlying49 rfl Zae) ?_;refine tk 2 (some 23) ?_;refine tl 3 (some 24) rfl (.agg #[.bool t2,.slice q2 m2 d2]) (Zai 49 _ rfl (w.heap.size+1) 2 rfl  #[.bool t2,.slice q2 m2 d2] (λw h=>(h.2.box b1 b1.lt Zo).part 2 #[.bool t2,.slice q2 m2 d2] rfl) _ Tryz.underlying49 rfl Zae) ?_;refine tk 5 (some 26) ?_;refine tl 6 (some 27) rfl (.agg #[.bool t1,.slice q1 m1 d1]) (Zai 49 _ rfl w.heap.size 2 rfl  #[.bool t1,.slice q1 m1 d1] (λw h=>(h.2.box b0 b0.lt Zo).part 2 #[.bool t1,.slice q1 m1 d1] rfl) _ Tryz.underlying49 rfl Zae) ?_;refine tk 7 (some 28) ?_;refine tl 8 (some 29) rfl (.agg #[.bool s2,.slice p2 n2 c2]) (Zai 49 _ rfl (w.heap.size+1) 0 rfl  #[.bool s2,.slice p2 n2 c2] (λw h=>(h.2.box b1 b1.lt Zo).part 0 #[.bool s2,.slice p2 n2 c2] rfl) _ Tryz.underlying49 rfl Zae) ?_;refine Mono.stc 4 (some 25) (Zcu _ (x1.ext ((Ext.of_below hB).trans (.of_below hBel))) (y2.ext ((Ext.of_below hB).trans (.of_below hBel))) Zd Zd) (λe Wn4 hR=>?_);obtain⟨V4,rfl,R4,hb4⟩:=hR;replace hBel:=Zaa hBel hb4;refine⟨(KeepBut.S (hHeld.2.call hb4)),λhHeld=>Mono.pt ?_⟩;refine Mono.stc 9 (some 30) (Zcu _ (x2.ext ((Ext.of_below hB).trans (.of_below hBel))) (y1.ext ((Ext.of_below hB).trans (.of_below hBel))) Zd Zd) (λe Wn9 hR=>?_);obtain⟨V9,rfl,R9,hb9⟩:=hR;replace hBel:=Zaa hBel hb9;replace R4:=R4.ext (.of_below hb9);refine⟨(KeepBut.S (hHeld.2.call hb9)),λhHeld=>Mono.pt ?_⟩;refine Mono.stc 10 (some 31) (Zc0 _ R4 R9 hden Zd) (λe Wn10 hR=>?_);obtain⟨V10,rfl,R10,hb10⟩:=hR;rw[hab]at R10;replace hBel:=Zaa hBel hb10;replace R4:=R4.ext (.of_below hb10);replace R9:=R9.ext (.of_below hb10);refine⟨(KeepBut.S (hHeld.2.call hb10)),λhHeld=>Mono.pt ?_⟩;refine Mono.stc 11 (some 32) (Ze5 _ (R10.tight hf.1 hf.2)) (λe Wn11 hR=>?_);obtain⟨rfl,hb9⟩:=hR;have h9:=(R10.tight hf.1 hf.2).below hb9;obtain⟨C,rfl,zC,oC⟩:=h9.cells;replace hBel:=Zaa hBel hb9;replace R4:=R4.ext (.of_below hb9);replace R9:=R9.ext (.of_below hb9);replace R10:=R10.ext (.of_below hb9);refine⟨(KeepBut.S (hHeld.2.call hb9)),λhHeld=>Mono.pt ?_⟩;refine tk 12 (some 33) ?_;refine tk 13 (some 34) ?_;refine Zb5 (w.heap.size+1+1) 51 14 rfl rfl rfl rfl 0 C _ C Zx (λw' i u hS=>KeepBut.S (hS.2.set i u)) rfl rfl (bO.below hBel) hHeld (by rw[zC];exact Zah) (Ybl (by rw[zC];rfl)) oC (Zaf (by rw[zC];rfl)) (λWs hks bs hHeld=>?_);refine tk 15 (some 5) ?_;refine wpAnyH_done Zx ?_ _;have xS:=hks.ext (bO.below hBel) Zd;go_wp2
 refine bodyPost_ret (bs.resultsT rfl _ _ rfl Tryz.underlying51 rfl (by rw[zC];exact Zah)) rfl ?_;exact⟨_,rfl,h9.ext xS,hHeld.2.below hB Zo hB.size⟩
end Go.Proofs.W
