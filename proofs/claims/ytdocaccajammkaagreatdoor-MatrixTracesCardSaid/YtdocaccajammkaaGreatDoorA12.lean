/- Contracts of package matrix,and a verified evaluator. Part 12 of 28. No condition beside the row. -/
import Derived.Shelf.Abstract
import Derived.Great.BuildSlice
import Derived.Test.YtdocaccajammkaaGreatDoorA01
import Derived.Test.YtdocaccajammkaaGreatDoorA02
import Derived.Test.YtdocaccajammkaaGreatDoorA11
set_option linter.unusedVariables false
set_option linter.unusedSimpArgs false
set_option maxRecDepth 100000
set_option maxHeartbeats 4000000
namespace Go.Proofs.W
open Go.RowKit Go.Mono
theorem Zwh (a b:Int) (h0:b≠0) (p q:Option Addr) (k c l d:Nat) (w wf:World) (hx:Ext wf w) (x:Sz 600 wf (.slice p k c) a.natAbs) (y:Sz 600 wf (.slice q l d) b.natAbs) :
  Calls Tryz.prog 165 #[.agg #[.bool (decide (a<0)),.slice p k c],.agg #[.bool (decide (b<0)),.slice q l d]] w λe w'=>∃r,e=.returned (.tuple #[r,.int .i64 0])∧QV w' r (Rat.divInt a b)∧Below w.heap.size w w':=by
 replace x:=x.ext hx;replace y:=y.ext hx;clear hx;obtain⟨g1,g2,g3⟩:=Zox a b h0;have hi0:∀w:World,(Instr.index 269 (.agg #[.bool (decide (a<0)),.slice p k c,.bool (decide (b<0)),.slice q l d]) (.int .i64 0)).run Tryz.prog w=.ok (.agg #[.bool (decide (a<0)),.slice p k c]) w:=λ_=>Zk;have hi1:∀w:World,(Instr.index 269 (.agg #[.bool (decide (a<0)),.slice p k c,.bool (decide (b<0)),.slice q l d]) (.int .i64 1)).run Tryz.prog w=.ok (.agg #[.bool (decide (b<0)),.slice q l d]) w:=λ_=>Zk;have hl:((l:Int)==0)=false:=by
  have:=y.len_pos.1 Zo;simp;omega
 have ha:decide (a<0)=true->(0:Int)<a.natAbs:=by intro h;simp at h;omega
 have hb':decide (b<0)=true->(0:Int)<b.natAbs:=by intro h;simp at h;omega
 go_enter Tryz.func165,Tryz.ntmps165
 go_wp2_with fail
 refine Zf0 λW hB hs b0 b1 b2=>?_;replace x:=x.ext (.of_below hB);replace y:=y.ext (.of_below hB);go_loopw [12] (λa wr=>∃i:Nat,i<=2∧a=.int .i64 (i:Int)∧Below W.heap.size W wr) (λa _=>(2-intOf a).toNat)
 case atStart=>exact⟨0,Zo,rfl,Yae _ _⟩
 case round=>
  obtain⟨i,hi,rfl,hb⟩:=hrel;rcases(by omega:i=0∨i=1∨i=2) with rfl|rfl|rfl
  ·go_wp2_with (go_at_call 150;(with_reducible refine(Zdb _ p k c _ _ W ((Ext.of_below hb).alloc _) x ha).mono ?_);rintro e W4 ⟨rfl,hb4⟩)
   go_roundw
   case rel=>exact⟨1,Zo,Zs,Zaa (Zad hb _) hb4⟩
   case measure=>simp[intOf]
  ·go_wp2_with (go_at_call 150;(with_reducible refine(Zdb _ q l d _ _ W ((Ext.of_below hb).alloc _) y hb').mono ?_);rintro e W4 ⟨rfl,hb4⟩)
   go_roundw
   case rel=>exact⟨2,Zo,Zs,Zaa (Zad hb _) hb4⟩
   case measure=>simp[intOf]
  ·replace hB:=Zaa hB hb
   replace x:=x.ext (.of_below hb);replace y:=y.ext (.of_below hb);replace b0:=b0.below hb;try clear cb0 lb0 fb0
   have cb0:=b0.cell;have lb0:=b0.lt;have fb0:=b0.frozen;replace b1:=b1.below hb;try clear cb1 lb1 fb1
   have cb1:=b1.cell;have lb1:=b1.lt;have fb1:=b1.frozen;replace b2:=b2.below hb;try clear cb2 lb2 fb2
   have cb2:=b2.cell;have lb2:=b2.lt;have fb2:=b2.frozen;clear hi0 hi1 hi ha hb';go_wp2_with fail
   refine(Zfe _ p q k c l d 600 _ _ wr wr (Ext.refl _) x y Zo Zo).mono ?_;rintro e W1 ⟨p1,n1,c1,q1,l1,d1,rfl,z1,z2,hb1⟩;rw[<-g2]at z1;rw[<-g3]at z2;replace hB:=Zaa hB hb1;replace b2:=b2.below hb1;clear cb2 lb2 fb2;have cb2:=b2.cell;have lb2:=b2.lt;have fb2:=b2.frozen;go_wp2_with fail
   refine(Zeb 600 _ p1 q1 n1 c1 l1 d1 (Rat.divInt a b) _ W1 (Ext.refl _) g1 z1 z2 Zo).mono ?_;rintro e W2 ⟨p7,k7,c7,q7,l7,d7,rfl,z7,y7,hb7⟩;replace hB:=Zaa hB hb7;replace b2:=b2.below hb7;clear cb2 lb2 fb2;have cb2:=b2.cell;have lb2:=b2.lt;have fb2:=b2.frozen;go_wp2
   have b3':=((((b2.set 0 (.bool (decide ((Rat.divInt a b).num<0)))).set 1 (.slice p7 k7 c7)).set 2 (.bool false)).set 3 (.slice q7 l7 d7)).cell;have xE:Ext W2 _:=(((((Ext.refl W2).set b2 Zd 0 (.bool (decide ((Rat.divInt a b).num<0)))).set (b2.set 0 (.bool (decide ((Rat.divInt a b).num<0)))) Zd 1 (.slice p7 k7 c7))).set ((b2.set 0 (.bool (decide ((Rat.divInt a b).num<0)))).set 1 (.slice p7 k7 c7)) Zd 2 (.bool false)).set (((b2.set 0 (.bool (decide ((Rat.divInt a b).num<0)))).set 1 (.slice p7 k7 c7)).set 2 (.bool false)) Zd 3 (.slice q7 l7 d7);refine bodyPost_ret (v:=.tuple #[.agg #[.bool (decide ((Rat.divInt a b).num<0)),.slice p7 k7 c7,.bool false,.slice q7 l7 d7],.int .i64 0]) (by simp[results,Tryz.results165,go_sem,b3']) rfl ⟨_,rfl,⟨_,_,_,_,_,_,rfl,z7.ext xE,y7.ext xE⟩,?_⟩;exact Zag (Zag (Zag (Zag hB Zo _ _) Zo _ _) Zo _ _) Zo _ _
end Go.Proofs.W
namespace Go.Ex
open Go.Mono
section
structure Cf where
 n:Int
 d:Nat
def Cf.ev (c:Cf):Rat:=mkRat c.n (c.d+1)
def Cf.low (n:Int) (d:Nat):Cf:=⟨n/(Nat.gcd n.natAbs d:Nat),d/Nat.gcd n.natAbs d-1⟩
def Cf.add (a b:Cf):Cf:=Cf.low (a.n*(b.d+1:Nat)+b.n*(a.d+1:Nat)) ((a.d+1)*(b.d+1))
def Cf.mul (a b:Cf):Cf:=Cf.low (a.n*b.n) ((a.d+1)*(b.d+1))
def rpow (x:Rat):Nat->Rat
 | 0=>1
 | n+1=>rpow x n*x
abbrev Mon:=List Nat
abbrev Pol:=List (Cf×Mon)
section
variable (env:Nat->Rat)
def monEv:Nat->Mon->Rat
 | _,[]=>1
 | i,e::r=>rpow (env i) e*monEv (i+1) r
def polEv:Pol->Rat
 | []=>0
 | t::r=>t.1.ev*monEv env 0 t.2+polEv r
end
end
end Go.Ex
namespace Go.Mono
structure Mat where
 a:Rat
 b:Rat
 c:Rat
 d:Rat
theorem Mat.ext {x y:Mat} (h1:x.a=y.a) (h2:x.b=y.b) (h3:x.c=y.c) (h4:x.d=y.d):x=y:=by
 cases x;cases y;simp_all
def Mat.one:Mat:=⟨1,0,0,1⟩
def Mat.mul (x y:Mat):Mat:=⟨x.a*y.a-x.b*y.c,x.a*y.b+x.b*y.d,x.c*y.a+x.d*y.c,x.d*y.d-x.c*y.b⟩
theorem Mat.mul_assoc (x y z:Mat):(x.mul y).mul z=x.mul (y.mul z):=by
 apply Mat.ext<;>simp only[Mat.mul]<;>grind
theorem Mat.one_mul (x:Mat):Mat.one.mul x=x:=by
 apply Mat.ext<;>simp only[Mat.mul,Mat.one]<;>grind
theorem Mat.mul_one (x:Mat):x.mul Mat.one=x:=by
 apply Mat.ext<;>simp only[Mat.mul,Mat.one]<;>grind
def Mat.det (x:Mat):Rat:=x.a*x.d+x.b*x.c
theorem Mat.det_mul (x y:Mat):(x.mul y).det=x.det*y.det:=by
 simp only[Mat.mul,Mat.det];grind
def Flm.sq (f:Flm):Int:=f.q*f.q+f.p*f.p
def Flm.cos (f:Flm):Rat:=Rat.divInt (f.q*f.q-f.p*f.p) f.sq
def Flm.sin (f:Flm):Rat:=Rat.divInt (2*f.p*f.q) f.sq
def idx (n:Int):Rat:=Rat.divInt n 10000000
def Flm.mat (f:Flm):Mat:=⟨f.cos,f.sin/idx f.ix,idx f.ix*f.sin,f.cos⟩
theorem Flm.ok.sq_pos {f:Flm} (h:f.ok):1<=f.sq:=by
 obtain⟨_,_,h1,_,h2,_⟩:=h;have a:=Yef h2 h2 Zo Zo;have b:=Ycg h1 h1;unfold Flm.sq;omega
theorem Zin {n:Int} (h:n≠0):(n:Rat)≠0:=by
 intro e;apply h;exact Rat.intCast_inj.1 (by simpa using e)
theorem Zx4 {n:Int} (h:n≠0):idx n≠0:=by
 unfold idx;rw[Rat.divInt_eq_div];have:=Zin h;grind
theorem Flm.cs (f:Flm) (h:f.sq≠0):f.cos*f.cos+f.sin*f.sin=1:=by
 unfold Flm.cos Flm.sin;rw[Rat.divInt_eq_div,Rat.divInt_eq_div];have h0:=Zin h;have e:((f.sq:Int):Rat)=(f.q:Rat)*f.q+f.p*f.p:=by
  unfold Flm.sq;rw[Rat.intCast_add,Yfc,Yfc]
 have e1:((f.q*f.q-f.p*f.p:Int):Rat)=(f.q:Rat)*f.q-f.p*f.p:=by
  rw[Rat.intCast_sub,Yfc,Yfc]
 have e2:((2*f.p*f.q:Int):Rat)=2*(f.p:Rat)*f.q:=by
  rw[Yfc,Yfc];rfl
 rw[e1,e2];generalize ((f.sq:Int):Rat)=s at *;generalize (f.p:Rat)=p at *;generalize (f.q:Rat)=q at *;have:((q*q-p*p)*(q*q-p*p)+(2*p*q)*(2*p*q))=s*s:=by rw[e];grind
 grind
theorem Flm.ok.ne {f:Flm} (h:f.ok):f.sq≠0∧f.ix≠0:=by
 have:=h.sq_pos;have:=h.1;omega
theorem Flm.det {f:Flm} (h:f.ok):f.mat.det=1:=by
 have h1:=f.cs h.ne.1;have h2:=Zx4 h.ne.2;simp only[Flm.mat,Mat.det];generalize f.cos=c at *;generalize f.sin=s at *;generalize idx f.ix=n at *;grind
def big (n m:Rat) (x:Mat):Rat:=(n*x.a+m*x.d)*(n*x.a+m*x.d)+(n*m*x.b+x.c)*(n*m*x.b+x.c)
def low (n m:Rat) (x:Mat):Rat:=(n*x.a-m*x.d)*(n*x.a-m*x.d)+(n*m*x.b-x.c)*(n*m*x.b-x.c)
def through (n m:Rat) (x:Mat):Rat:=4*(n*m)/big n m x
end Go.Mono
def List.look {α:Type}:List (Nat×α)->Nat->Option α
 | [],_=>none
 | p::r,k=>bif Nat.beq k p.1 then some p.2 else List.look r k
namespace Go.Ex
open Go.RowKit Go.Mono
@[simp] theorem look_nil {α:Type} (k:Nat):([]:List (Nat×α)).look k=none:=rfl
theorem Zav {α:Type} (k k':Nat) (x:α) (l:List (Nat×α)):List.look ((k',x)::l) k=if k=k' then some x else List.look l k:=by
 unfold List.look;by_cases h:k=k'
 ·subst h
  simp
 ·have e:Nat.beq k k'=false:=by
   cases hb:Nat.beq k k' with
   | false=>rfl
   | true=>exact absurd (Ybe hb) h
  rw[if_neg h];dsimp only;rw[e];cases l<;>rfl
inductive U where
 | val (v:Value)
 | raw (n:Nat) (cs:List Value)
 | ptr (k off:Nat)
 | slc (k off len cap:Nat)
 | clo (f:FuncId) (caps:List (Nat×Nat))
 | quo (q:Rat)
 | sym (z:Int)
 | tst (b:Bool)
 | sli (k off len:Nat)
 | own (k len size:Nat)
 | yld (k:Nat)
 | dig (n:Nat)
 | tok (i:Nat)
 | emp
 | bnd (f:FuncId) (ag:Bool) (l:List U)
 | bad
 | sml (k:IntKind) (z:Int)
 | qb
 | qe (p:Pol)
 | slx (k off m n:Nat)
 | unk
def U.w:U->Nat
 | .quo _=>4
 | .qb=>4
 | .qe _=>4
 | .bad=>4
 | .raw n _=>n
 | _=>1
inductive SA where
 | one (u:U)
 | agg (l:List U)
def bndA (ag:Bool) (l:List U):SA:=
 match ag,l with
 | false,[u]=>.one u
 | _,l=>.agg l
inductive SV where
 | a (x:SA)
 | tup (l:List SA)
 | no
structure Blk where
 T:TypeId
 cells:List U
 ro:Bool
 sp:Bool:=false
 dead:Bool:=false
structure Den where
 R:World->Rat->List Value->Prop
 ext:∀{w w':World} {q:Rat} {cs:List Value},R w q cs->Ext w w'->R w' q cs
 len:∀{w:World} {q:Rat} {cs:List Value},R w q cs->cs.length=4
 one:∀{w:World} {q:Rat} {cs:List Value},R w q cs->∀v∈cs,v.oneCell'=true
 K:Nat->Value
 kone:∀i,(K i).oneCell'=true
 S:World->Nat->Value->Prop
 sext:∀{w w':World} {n:Nat} {v:Value},S w n v->Ext w w'->S w' n v
 sone:∀{w:World} {n:Nat} {v:Value},S w n v->v.oneCell'=true
 env:Nat->Rat
 B:World->List Value->Prop
 bext:∀{w w':World} {cs:List Value},B w cs->Ext w w'->B w' cs
 blen:∀{w:World} {cs:List Value},B w cs->cs.length=4
 bone:∀{w:World} {cs:List Value},B w cs->∀v∈cs,v.oneCell'=true
 split:∀{w:World} {q:Rat} {cs:List Value},R w q cs->∃v1 v2,cs=[.bool (decide (q.num<0)),v1,.bool false,v2]∧S w q.num.natAbs v1∧S w q.den v2
structure Pl where
 blk:Nat
 base:Nat
 ro:Bool
 cap:Nat:=0
 tot:Nat:=0
abbrev Nm:=Nat->Option Pl
def Nm.le (ρ ρ':Nm):Prop:=∀k B,ρ k=some B->ρ' k=some B
theorem Nm.le.refl (ρ:Nm):ρ.le ρ:=λ_ _ h=>h
theorem Nm.le.trans {a b c:Nm} (h:a.le b) (g:b.le c):a.le c:=λk B hk=>g k B (h k B hk)
section
variable (D:Den) (ρ:Nm) (w:World)
def adrs:List (Nat×Nat)->List Value->Prop
 | [],vs=>vs=[]
 | p::r,vs=>∃B v',ρ p.1=some B∧vs=.pointer (some ⟨B.blk,B.base+p.2,none⟩)::v'∧adrs r v'
def denU0:U->List Value->Prop
 | .val v,cs=>cs=[v]∧v.oneCell'=true
 | .raw n c,cs=>cs=c∧c.length=n∧∀v∈c,v.oneCell'=true
 | .ptr k o,cs=>∃B,ρ k=some B∧cs=[.pointer (some ⟨B.blk,B.base+o,none⟩)]
 | .slc k o n c,cs=>∃B,ρ k=some B∧cs=[.slice (some ⟨B.blk,B.base+o,none⟩) n c]
 | .clo f caps,cs=>∃vs,adrs ρ caps vs∧cs=[.func (.func f) #[] vs.toArray]
 | .quo q,cs=>D.R w q cs
 | .sym z,cs=>cs=[.int .i64 z]
 | .tst b,cs=>cs=[.bool b]
 | .emp,cs=>∃p c,(p=none->c=0)∧cs=[.slice p 0 c]
 | .sli k o n,cs=>∃B c,ρ k=some B∧n<=c∧cs=[.slice (some ⟨B.blk,B.base+o,none⟩) n c]
 | .own k n s,cs=>∃B,ρ k=some B∧n<=B.cap∧B.tot=B.cap*s∧B.base=0∧cs=[.slice (some ⟨B.blk,0,none⟩) n B.cap]
 | .yld k,cs=>∃B,ρ k=some B∧cs=[.func (.yield B.blk) #[] #[]]
 | .dig n,cs=>∃v,D.S w n v∧cs=[v]
 | .tok i,cs=>cs=[D.K i]
 | .bad,cs=>D.B w cs
 | .sml k z,cs=>cs=[.int k z]
 | .qb,cs=>(∃q,D.R w q cs)∨D.B w cs
 | .qe p,cs=>D.R w (polEv D.env p) cs
 | .unk,cs=>∃v,cs=[v]∧v.oneCell'=true
 | .slx k o m n,cs=>∃B c,ρ k=some B∧m<=n∧n<=c∧cs=[.slice (some ⟨B.blk,B.base+o,none⟩) n c]
 | .bnd _ _ _,_=>False
def denL0:List U->List Value->Prop
 | [],cs=>cs=[]
 | u::l,cs=>∃c d,cs=c++d∧denU0 D ρ w u c∧denL0 l d
def denA0:SA->Value->Prop
 | .one u,v=>denU0 D ρ w u [v]
 | .agg l,v=>∃cs:List Value,v=.agg cs.toArray∧denL0 D ρ w l cs
def denU:U->List Value->Prop
 | .val v,cs=>cs=[v]∧v.oneCell'=true
 | .raw n c,cs=>cs=c∧c.length=n∧∀v∈c,v.oneCell'=true
 | .ptr k o,cs=>∃B,ρ k=some B∧cs=[.pointer (some ⟨B.blk,B.base+o,none⟩)]
 | .slc k o n c,cs=>∃B,ρ k=some B∧cs=[.slice (some ⟨B.blk,B.base+o,none⟩) n c]
 | .clo f caps,cs=>∃vs,adrs ρ caps vs∧cs=[.func (.func f) #[] vs.toArray]
 | .quo q,cs=>D.R w q cs
 | .sym z,cs=>cs=[.int .i64 z]
 | .tst b,cs=>cs=[.bool b]
 | .emp,cs=>∃p c,(p=none->c=0)∧cs=[.slice p 0 c]
 | .sli k o n,cs=>∃B c,ρ k=some B∧n<=c∧cs=[.slice (some ⟨B.blk,B.base+o,none⟩) n c]
 | .own k n s,cs=>∃B,ρ k=some B∧n<=B.cap∧B.tot=B.cap*s∧B.base=0∧cs=[.slice (some ⟨B.blk,0,none⟩) n B.cap]
 | .yld k,cs=>∃B,ρ k=some B∧cs=[.func (.yield B.blk) #[] #[]]
 | .dig n,cs=>∃v,D.S w n v∧cs=[v]
 | .tok i,cs=>cs=[D.K i]
 | .bad,cs=>D.B w cs
 | .sml k z,cs=>cs=[.int k z]
 | .qb,cs=>(∃q,D.R w q cs)∨D.B w cs
 | .qe p,cs=>D.R w (polEv D.env p) cs
 | .unk,cs=>∃v,cs=[v]∧v.oneCell'=true
 | .slx k o m n,cs=>∃B c,ρ k=some B∧m<=n∧n<=c∧cs=[.slice (some ⟨B.blk,B.base+o,none⟩) n c]
 | .bnd f ag l,cs=>∃v,cs=[.func (.func f) #[v] #[]]∧denA0 D ρ w (bndA ag l) v
def denL:List U->List Value->Prop
 | [],cs=>cs=[]
 | u::l,cs=>∃c d,cs=c++d∧denU D ρ w u c∧denL l d
def denA:SA->Value->Prop
 | .one u,v=>denU D ρ w u [v]
 | .agg l,v=>∃cs:List Value,v=.agg cs.toArray∧denL D ρ w l cs
def denAs:List SA->List Value->Prop
 | [],vs=>vs=[]
 | x::l,vs=>∃v r,vs=v::r∧denA D ρ w x v∧denAs l r
def denV:SV->Value->Prop
 | .a x,v=>denA D ρ w x v
 | .tup l,v=>∃vs:List Value,v=.tuple vs.toArray∧denAs D ρ w l vs
 | .no,_=>True
end
section
variable {D:Den} {ρ ρ':Nm} {w w':World}
theorem adrs.mono (h:ρ.le ρ'):∀{l:List (Nat×Nat)} {vs:List Value},adrs ρ l vs->adrs ρ' l vs
 | [],_,e=>e
 | p::r,vs,⟨B,v',hB,e,hr⟩=>⟨B,v',h _ _ hB,e,adrs.mono h hr⟩
theorem adrs.one:∀{l:List (Nat×Nat)} {vs:List Value},adrs ρ l vs->vs.length=l.length
 | [],_,e=>by rw[show _=[] from e];rfl
 | p::r,vs,⟨B,v',hB,e,hr⟩=>by rw[e,Ybm,adrs.one hr];rfl
theorem denU0.mono (h:ρ.le ρ') (hx:Ext w w'):∀{u:U} {cs:List Value},denU0 D ρ w u cs->denU0 D ρ' w' u cs
 | .val _,_,e=>e
 | .raw _ _,_,e=>e
 | .ptr _ _,_,⟨B,hB,e⟩=>⟨B,h _ _ hB,e⟩
 | .slc _ _ _ _,_,⟨B,hB,e⟩=>⟨B,h _ _ hB,e⟩
 | .clo _ _,_,⟨vs,hv,e⟩=>⟨vs,hv.mono h,e⟩
 | .quo _,_,e=>D.ext e hx
 | .sym _,_,e=>e
 | .tst _,_,e=>e
 | .sli _ _ _,_,⟨B,c,hB,hc,e⟩=>⟨B,c,h _ _ hB,hc,e⟩
 | .own _ _ _,_,⟨B,hB,e⟩=>⟨B,h _ _ hB,e⟩
 | .yld _,_,⟨B,hB,e⟩=>⟨B,h _ _ hB,e⟩
 | .dig _,_,⟨v,hv,e⟩=>⟨v,D.sext hv hx,e⟩
 | .tok _,_,e=>e
 | .bad,_,e=>D.bext e hx
 | .sml _ _,_,e=>e
 | .qb,_,e=>e.imp (λ⟨q,h⟩=>⟨q,D.ext h hx⟩) λh=>D.bext h hx
 | .qe _,_,e=>D.ext e hx
 | .slx _ _ _ _,_,⟨B,c,hB,e⟩=>⟨B,c,h _ _ hB,e⟩
 | .unk,_,e=>e
 | .emp,_,e=>e
theorem denL0.mono (h:ρ.le ρ') (hx:Ext w w'):∀{l:List U} {cs:List Value},denL0 D ρ w l cs->denL0 D ρ' w' l cs
 | [],_,e=>e
 | u::l,_,⟨c,d,e,hc,hd⟩=>⟨c,d,e,hc.mono h hx,denL0.mono h hx hd⟩
theorem denA0.mono (h:ρ.le ρ') (hx:Ext w w'):∀{x:SA} {v:Value},denA0 D ρ w x v->denA0 D ρ' w' x v
 | .one _,_,e=>denU0.mono h hx e
 | .agg _,_,⟨cs,e,hl⟩=>⟨cs,e,hl.mono h hx⟩
theorem denU.mono (h:ρ.le ρ') (hx:Ext w w'):∀{u:U} {cs:List Value},denU D ρ w u cs->denU D ρ' w' u cs
 | .val _,_,e=>e
 | .raw _ _,_,e=>e
 | .ptr _ _,_,⟨B,hB,e⟩=>⟨B,h _ _ hB,e⟩
 | .slc _ _ _ _,_,⟨B,hB,e⟩=>⟨B,h _ _ hB,e⟩
 | .clo _ _,_,⟨vs,hv,e⟩=>⟨vs,hv.mono h,e⟩
 | .quo _,_,e=>D.ext e hx
 | .sym _,_,e=>e
 | .tst _,_,e=>e
 | .sli _ _ _,_,⟨B,c,hB,hc,e⟩=>⟨B,c,h _ _ hB,hc,e⟩
 | .own _ _ _,_,⟨B,hB,e⟩=>⟨B,h _ _ hB,e⟩
 | .yld _,_,⟨B,hB,e⟩=>⟨B,h _ _ hB,e⟩
 | .dig _,_,⟨v,hv,e⟩=>⟨v,D.sext hv hx,e⟩
 | .tok _,_,e=>e
 | .bad,_,e=>D.bext e hx
 | .sml _ _,_,e=>e
 | .qb,_,e=>e.imp (λ⟨q,h⟩=>⟨q,D.ext h hx⟩) λh=>D.bext h hx
 | .qe _,_,e=>D.ext e hx
 | .slx _ _ _ _,_,⟨B,c,hB,e⟩=>⟨B,c,h _ _ hB,e⟩
 | .unk,_,e=>e
 | .emp,_,e=>e
 | .bnd _ _ _,_,⟨v,e,hv⟩=>⟨v,e,hv.mono h hx⟩
theorem denL.mono (h:ρ.le ρ') (hx:Ext w w'):∀{l:List U} {cs:List Value},denL D ρ w l cs->denL D ρ' w' l cs
 | [],_,e=>e
 | u::l,_,⟨c,d,e,hc,hd⟩=>⟨c,d,e,hc.mono h hx,denL.mono h hx hd⟩
theorem denA.mono (h:ρ.le ρ') (hx:Ext w w'):∀{x:SA} {v:Value},denA D ρ w x v->denA D ρ' w' x v
 | .one _,_,e=>denU.mono h hx e
 | .agg _,_,⟨cs,e,hl⟩=>⟨cs,e,hl.mono h hx⟩
theorem denAs.mono (h:ρ.le ρ') (hx:Ext w w'):∀{l:List SA} {vs:List Value},denAs D ρ w l vs->denAs D ρ' w' l vs
 | [],_,e=>e
 | x::l,_,⟨v,r,e,hv,hr⟩=>⟨v,r,e,hv.mono h hx,denAs.mono h hx hr⟩
theorem denV.mono (h:ρ.le ρ') (hx:Ext w w'):∀{x:SV} {v:Value},denV D ρ w x v->denV D ρ' w' x v
 | .a _,_,e=>denA.mono h hx e
 | .tup _,_,⟨vs,e,hl⟩=>⟨vs,e,hl.mono h hx⟩
 | .no,_,_=>trivial
theorem denU0.up {u:U} {cs:List Value} (h:denU0 D ρ w u cs):denU D ρ w u cs:=by
 cases u<;>first|exact h|cases h
theorem denL0.up:∀{l:List U} {cs:List Value},denL0 D ρ w l cs->denL D ρ w l cs
 | [],_,e=>e
 | u::l,_,⟨c,d,e,hc,hd⟩=>⟨c,d,e,hc.up,denL0.up hd⟩
theorem denA0.up:∀{x:SA} {v:Value},denA0 D ρ w x v->denA D ρ w x v
 | .one _,_,e=>denU0.up e
 | .agg _,_,⟨cs,e,hl⟩=>⟨cs,e,hl.up⟩
def U.weak:U->U
 | .bnd _ _ _=>.unk
 | u=>u
def SA.weak:SA->SA
 | .one u=>.one u.weak
 | .agg l=>.agg (l.map U.weak)
theorem denU.weak {u:U} {cs:List Value} (h:denU D ρ w u cs):denU0 D ρ w u.weak cs:=by
 cases u with
 | bnd f g l =>
   obtain⟨v,e,_⟩:=h;exact⟨_,e,by simp[Value.oneCell']⟩
 | _=>exact h
theorem denL.weak:∀{l:List U} {cs:List Value},denL D ρ w l cs->denL0 D ρ w (l.map U.weak) cs
 | [],_,e=>e
 | u::l,_,⟨c,d,e,hc,hd⟩=>⟨c,d,e,hc.weak,denL.weak hd⟩
theorem denA.weak:∀{x:SA} {v:Value},denA D ρ w x v->denA0 D ρ w x.weak v
 | .one _,_,e=>denU.weak e
 | .agg _,_,⟨cs,e,hl⟩=>⟨cs,e,hl.weak⟩
def widths (l:List U):Nat:=l.foldr (λu n=>u.w+n) 0
theorem denU.len:∀{u:U} {cs:List Value},denU D ρ w u cs->cs.length=u.w
 | .val _,_,⟨e,_⟩=>by rw[e];rfl
 | .raw _ _,_,⟨e,hn,_⟩=>by rw[e];exact hn
 | .ptr _ _,_,⟨B,hB,e⟩=>by rw[e];rfl
 | .slc _ _ _ _,_,⟨B,hB,e⟩=>by rw[e];rfl
 | .clo _ _,_,⟨vs,hv,e⟩=>by rw[e];rfl
 | .quo _,_,e=>D.len e
 | .sym _,_,e=>by rw[show _=_ from e];rfl
 | .tst _,_,e=>by rw[show _=_ from e];rfl
 | .sli _ _ _,_,⟨B,c,hB,hc,e⟩=>by rw[e];rfl
 | .own _ _ _,_,⟨B,hB,h1,h2,h3,e⟩=>by rw[e];rfl
 | .yld _,_,⟨B,hB,e⟩=>by rw[e];rfl
 | .dig _,_,⟨v,hv,e⟩=>by rw[e];rfl
 | .tok _,_,e=>by rw[show _=_ from e];rfl
 | .emp,_,⟨p,c,hp,e⟩=>by rw[e];rfl
 | .bad,_,e=>D.blen e
 | .sml _ _,_,e=>by rw[show _=_ from e];rfl
 | .qb,_,e=>e.elim (λ⟨q,h⟩=>D.len h) D.blen
 | .qe _,_,e=>D.len e
 | .slx _ _ _ _,_,⟨B,c,hB,h1,h2,e⟩=>by rw[e];rfl
 | .unk,_,⟨v,e,hv⟩=>by rw[e];rfl
 | .bnd _ _ _,_,⟨v,e,hv⟩=>by rw[e];rfl
theorem denU.ones:∀{u:U} {cs:List Value},denU D ρ w u cs->∀v∈cs,v.oneCell'=true
 | .val _,_,⟨e,h⟩=>by rw[e];simpa using h
 | .raw _ _,_,⟨e,hn,h⟩=>by rw[e];exact h
 | .ptr _ _,_,⟨B,hB,e⟩=>by rw[e];simp[Value.oneCell']
 | .slc _ _ _ _,_,⟨B,hB,e⟩=>by rw[e];simp[Value.oneCell']
 | .clo _ _,_,⟨vs,hv,e⟩=>by rw[e];simp[Value.oneCell']
 | .quo _,_,e=>D.one e
 | .sym _,_,e=>by rw[show _=_ from e];simp[Value.oneCell']
 | .tst _,_,e=>by rw[show _=_ from e];simp[Value.oneCell']
 | .sli _ _ _,_,⟨B,c,hB,hc,e⟩=>by rw[e];simp[Value.oneCell']
 | .own _ _ _,_,⟨B,hB,h1,h2,h3,e⟩=>by rw[e];simp[Value.oneCell']
 | .yld _,_,⟨B,hB,e⟩=>by rw[e];simp[Value.oneCell']
 | .dig _,_,⟨v,hv,e⟩=>by rw[e];simpa using D.sone hv
 | .tok _,_,e=>by rw[show _=_ from e];simpa using D.kone _
 | .emp,_,⟨p,c,hp,e⟩=>by rw[e];simp[Value.oneCell']
 | .bad,_,e=>D.bone e
 | .sml _ _,_,e=>by rw[show _=_ from e];simp[Value.oneCell']
 | .qb,_,e=>e.elim (λ⟨q,h⟩=>D.one h) D.bone
 | .qe _,_,e=>D.one e
 | .slx _ _ _ _,_,⟨B,c,hB,h1,h2,e⟩=>by rw[e];simp[Value.oneCell']
 | .unk,_,⟨v,e,hv⟩=>by rw[e];simpa using hv
 | .bnd _ _ _,_,⟨v,e,hv⟩=>by rw[e];simp[Value.oneCell']
theorem denL.len:∀{l:List U} {cs:List Value},denL D ρ w l cs->cs.length=widths l
 | [],_,e=>by rw[show _=[] from e];rfl
 | u::l,_,⟨c,d,e,hc,hd⟩=>by rw[e,Yay,hc.len,denL.len hd];rfl
theorem denL.ones:∀{l:List U} {cs:List Value},denL D ρ w l cs->∀v∈cs,v.oneCell'=true
 | [],_,e=>by rw[show _=[] from e];simp
 | u :: l, _, ⟨c, d, e, hc, hd⟩ => by
   rw[e];intro v hv;rcases Ycn.1 hv with h|h
   ·exact hc.ones v h
   ·exact denL.ones hd v h
theorem denL.append:∀{l m:List U} {cs ds:List Value},denL D ρ w l cs->denL D ρ w m ds->denL D ρ w (l++m) (cs++ds)
 | [],m,cs,ds,e,hm=>by rw[show cs=[] from e];exact hm
 | u::l,m,_,ds,⟨c,d,e,hc,hd⟩,hm=>⟨c,d++ds,by rw[e,Ybx],hc,denL.append hd hm⟩
def takeU:List U->Nat->Option (List U)
 | _,0=>some []
 | [],_+1=>none
 | u::l,n+1=>if u.w=0 then none else if u.w<=n+1 then(takeU l (n+1-u.w)).map (u::·) else none
def dropU:List U->Nat->Option (List U)
 | l,0=>some l
 | [],_+1=>none
 | u::l,n+1=>if u.w=0 then none else if u.w<=n+1 then dropU l (n+1-u.w) else none
def subU (l:List U) (off n:Nat):Option (List U):=(dropU l off).bind λm=>takeU m n
def putU (l:List U) (off:Nat) (us:List U):Option (List U):=
 (takeU l off).bind λa=>(dropU l (off+widths us)).map λb=>a++(us++b)
theorem Zeq:∀{l:List U} {n:Nat} {m:List U} {cs:List Value},takeU l n=some m->denL D ρ w l cs->denL D ρ w m (cs.take n)∧(cs.take n).length=n
 | l, 0, m, cs, h, hd => by
   have:m=[]:=by cases l<;>(simp only[takeU,Ybp]at h;exact h.symm)
   subst this;exact⟨by simp[denL],Zs⟩
 | [],n+1,m,cs,h,hd=>by simp[takeU]at h
 | u :: l, n + 1, m, cs, h, hd => by
   simp only[takeU]at h;split at h
   ·cases h
   ·rename_i h0
    split at h
    ·rename_i hw
     obtain⟨m',hm,rfl⟩:=Yad.1 h;obtain⟨c,d,rfl,hc,hd'⟩:=hd;have hl:=hc.len;obtain⟨h1,h2⟩:=Zeq hm hd';have e:(c++d).take (n+1)=c++d.take (n+1-u.w):=by
      rw[List.take_append,hl,Ycm Zo]
     rw[e];exact⟨⟨c,_,rfl,hc,h1⟩,by rw[Yay,h2,hl];omega⟩
    ·cases h
theorem Zgt:∀{l:List U} {n:Nat} {m:List U} {cs:List Value},dropU l n=some m->denL D ρ w l cs->denL D ρ w m (cs.drop n)∧n<=cs.length
 | l, 0, m, cs, h, hd => by
   have:m=l:=by cases l<;>(simp only[dropU,Ybp]at h;exact h.symm)
   subst this;exact⟨by simpa using hd,Zs⟩
 | [],n+1,m,cs,h,hd=>by simp[dropU]at h
 | u :: l, n + 1, m, cs, h, hd => by
   simp only[dropU]at h;split at h
   ·cases h
   ·split at h
    ·rename_i h0 hw
     obtain⟨c,d,rfl,hc,hd'⟩:=hd;have hl:=hc.len;obtain⟨h1,h2⟩:=Zgt h hd';have e:(c++d).drop (n+1)=d.drop (n+1-u.w):=by
      rw[List.drop_append,hl,Yfi Zo,Ydp]
     rw[e];exact⟨h1,by rw[Yay,hl];omega⟩
    ·cases h
theorem Zf7 {l:List U} {off n:Nat} {m:List U} {cs:List Value} (h:subU l off n=some m) (hd:denL D ρ w l cs):denL D ρ w m ((cs.drop off).take n)∧((cs.drop off).take n).length=n:=by
 unfold subU at h;obtain⟨m',h1,h2⟩:=Ybg.1 h;exact Zeq h2 (Zgt h1 hd).1
theorem Znn {l:List U} {off:Nat} {us m:List U} {cs ps:List Value} (h:putU l off us=some m) (hd:denL D ρ w l cs) (hp:denL D ρ w us ps) :
  denL D ρ w m (cs.take off++ps++cs.drop (off+ps.length))∧off+ps.length<=cs.length:=by
 unfold putU at h;obtain⟨a,h1,h2⟩:=Ybg.1 h;obtain⟨b,h3,rfl⟩:=Yad.1 h2;rw[<-hp.len]at h3;obtain⟨k1,k2⟩:=Zgt h3 hd;exact⟨by rw[Ybx];exact(Zeq h1 hd).1.append (hp.append k1),k2⟩
def expU:U->List U
 | .quo q=>[.val (.bool (decide (q.num<0))),.dig q.num.natAbs,.val (.bool false),.dig q.den]
 | u=>[u]
def expL:List U->List U
 | []=>[]
 | u::l=>expU u++expL l
theorem Zi4:∀{l:List U} {cs:List Value},denL D ρ w l cs->denL D ρ w (expL l) cs
 | [],cs,h=>h
 | u :: l, _, ⟨c, d, e, hc, hd⟩ => by
   subst e;refine denL.append ?_ (Zi4 hd);cases u with
   | quo q =>
     obtain⟨v1,v2,rfl,h1,h2⟩:=D.split hc;exact⟨[_],_,rfl,⟨rfl,rfl⟩,[v1],_,rfl,⟨v1,h1,rfl⟩,[_],_,rfl,⟨rfl,rfl⟩,[v2],[],rfl,⟨v2,h2,rfl⟩,rfl⟩
   | _=>exact⟨c,[],(Ydg c).symm,hc,rfl⟩
def subX (l:List U) (off n:Nat):Option (List U):=
 match subU l off n with
 | some m=>some m
 | none=>subU (expL l) off n
def putX (l:List U) (off:Nat) (us:List U):Option (List U):=
 match putU l off us with
 | some m=>some m
 | none=>putU (expL l) off us
theorem Zf8 {l:List U} {off n:Nat} {m:List U} {cs:List Value} (h:subX l off n=some m) (hd:denL D ρ w l cs):denL D ρ w m ((cs.drop off).take n)∧((cs.drop off).take n).length=n:=by
 unfold subX at h;split at h
 ·rename_i m' h'
  cases h;exact Zf7 h' hd
 ·exact Zf7 h (Zi4 hd)
theorem Zno {l:List U} {off:Nat} {us m:List U} {cs ps:List Value} (h:putX l off us=some m) (hd:denL D ρ w l cs) (hp:denL D ρ w us ps) :
  denL D ρ w m (cs.take off++ps++cs.drop (off+ps.length))∧off+ps.length<=cs.length:=by
 unfold putX at h;split at h
 ·rename_i m' h'
  cases h;exact Znn h' hd hp
 ·exact Znn h (Zi4 hd) hp
theorem Zds:∀(vs:List Value),(∀v∈vs,v.oneCell'=true)->denL D ρ w (vs.map .val) vs
 | [],_=>rfl
 | v::r,h=>⟨[v],r,rfl,⟨rfl,h v (Ycl ..)⟩,Zds r λu hu=>h u (Ybs _ hu)⟩
def realU:U->Option (List Value)
 | .val v=>some [v]
 | .raw _ cs=>some cs
 | .sym z=>some [.int .i64 z]
 | .sml k z=>some [.int k z]
 | .tst b=>some [.bool b]
 | _=>none
def realL:List U->Option (List Value)
 | []=>some []
 | u::l=>(realU u).bind λa=>(realL l).map (a++·)
def realA:SA->Option Value
 | .one (.val v)=>some v
 | .one (.sym z)=>some (.int .i64 z)
 | .one (.sml k z)=>some (.int k z)
 | .one (.tst b)=>some (.bool b)
 | .one _=>none
 | .agg l=>(realL l).map λcs=>.agg cs.toArray
def realAs:List SA->Option (List Value)
 | []=>some []
 | x::l=>(realA x).bind λa=>(realAs l).map (a::·)
def realV:SV->Option Value
 | .a x=>realA x
 | .tup l=>(realAs l).map λvs=>.tuple vs.toArray
 | .no=>none
theorem Zqu:∀{u:U} {a cs:List Value},realU u=some a->denU D ρ w u cs->cs=a
 | .val v,a,cs,h,⟨e,_⟩=>by cases h;exact e
 | .raw _ _,a,cs,h,⟨e,_⟩=>by cases h;exact e
 | .sym _,a,cs,h,e=>by cases h;exact e
 | .sml _ _,a,cs,h,e=>by cases h;exact e
 | .tst _,a,cs,h,e=>by cases h;exact e
theorem Zkh:∀{l:List U} {a cs:List Value},realL l=some a->denL D ρ w l cs->cs=a
 | [],a,cs,h,e=>by cases h;exact e
 | u :: l, a, cs, h, ⟨c, d, e, hc, hd⟩ => by
   unfold realL at h;obtain⟨x,hx,h2⟩:=Ybg.1 h;obtain⟨y,hy,rfl⟩:=Yad.1 h2;rw[e,Zqu hx hc,Zkh hy hd]
theorem Zki:∀{x:SA} {a v:Value},realA x=some a->denA D ρ w x v->v=a
 | .one (.val u), a, v, h, e => by
   cases h;have:=e.1;simpa using this
 | .one (.sym z), a, v, h, e => by
   cases h;simpa[denA,denU]using e
 | .one (.sml k z), a, v, h, e => by
   cases h;simpa[denA,denU]using e
 | .one (.tst z), a, v, h, e => by
   cases h;simpa[denA,denU]using e
 | .agg l, a, v, h, ⟨cs, e, hl⟩ => by
   unfold realA at h;obtain⟨y,hy,rfl⟩:=Yad.1 h;rw[e,Zkh hy hl]
theorem Zif:∀{l:List SA} {a vs:List Value},realAs l=some a->denAs D ρ w l vs->vs=a
 | [],a,cs,h,e=>by cases h;exact e
 | x :: l, a, cs, h, ⟨v, r, e, hv, hr⟩ => by
   unfold realAs at h;obtain⟨y,hy,h2⟩:=Ybg.1 h;obtain⟨z,hz,rfl⟩:=Yad.1 h2;rw[e,Zki hy hv,Zif hz hr]
theorem Zgu:∀{x:SV} {a v:Value},realV x=some a->denV D ρ w x v->v=a
 | .a x,a,v,h,e=>Zki h e
 | .tup l, a, v, h, ⟨vs, e, hl⟩ => by
   unfold realV at h;obtain⟨y,hy,rfl⟩:=Yad.1 h;rw[e,Zif hy hl]
def ncase {α:Type} (n:Nat) (f:Nat->α):α:=
 match n with
 | 0=>f 0
 | k+1=>f (k+1)
theorem Zer {α:Type} (n:Nat) (f:Nat->α):ncase n f=f n:=by cases n<;>rfl
def icase {α:Type} (z:Int) (f:Int->α):α:=
 match z with
 | .ofNat n=>ncase n λm=>f (.ofNat m)
 | .negSucc n=>ncase n λm=>f (.negSucc m)
theorem Zc2 {α:Type} (z:Int) (f:Int->α):icase z f=f z:=by cases z<;>simp only[icase,Zer]
def qcase {α:Type} (q:Rat) (f:Rat->α):α:=icase q.num λn=>ncase q.den λd=>f (mkRat n d)
theorem Zc3 {α:Type} (q:Rat) (f:Rat->α):qcase q f=f q:=by
 unfold qcase;rw[Zc2,Zer,Rat.mkRat_self]
def ofValA:Value->Option SA
 | .int k z=>icase z λz=>some (.one (.val (.int k z)))
 | .bool true=>some (.one (.val (.bool true)))
 | .bool false=>some (.one (.val (.bool false)))
 | .agg cs=>if cs.toList.all (·.oneCell') then some (.agg (cs.toList.map .val)) else none
 | v=>if v.oneCell' then some (.one (.val v)) else none
def ofVals:List Value->Option (List SA)
 | []=>some []
 | v::r=>(ofValA v).bind λa=>(ofVals r).map (a::·)
def ofVal:Value->Option SV
 | .tuple vs=>(ofVals vs.toList).map .tup
 | v=>(ofValA v).map .a
theorem Zig {v:Value} {x:SA} (h:ofValA v=some x):denA D ρ w x v:=by
 unfold ofValA at h;split at h
 ·rw[Zc2]at h
  cases h;exact⟨rfl,rfl⟩
 ·cases h
  exact⟨rfl,rfl⟩
 ·cases h
  exact⟨rfl,rfl⟩
 ·rename_i cs
  split at h
  ·rename_i hc
   cases h;exact⟨cs.toList,rfl,Zds _ λv hv=>Ybn.1 hc v hv⟩
  ·cases h
 ·split at h
  ·rename_i hc
   cases h;exact⟨rfl,hc⟩
  ·cases h
theorem Zih:∀{vs:List Value} {l:List SA},ofVals vs=some l->denAs D ρ w l vs
 | [],l,h=>by cases h;rfl
 | v :: r, l, h => by
   unfold ofVals at h;obtain⟨a,ha,h2⟩:=Ybg.1 h;obtain⟨m,hm,rfl⟩:=Yad.1 h2;exact⟨v,r,rfl,Zig ha,Zih hm⟩
theorem Zkj {v:Value} {x:SV} (h:ofVal v=some x):denV D ρ w x v:=by
 unfold ofVal at h;split at h
 ·rename_i vs
  obtain⟨l,hl,rfl⟩:=Yad.1 h;exact⟨vs.toList,Zs,Zih hl⟩
 ·obtain⟨l,hl,rfl⟩:=Yad.1 h
  exact Zig hl
end
end Go.Ex
namespace Go.Mono
def Flm.join (f g:Flm):Flm:=⟨f.ix,f.p*g.q+g.p*f.q,f.q*g.q-f.p*g.p⟩
end Go.Mono
namespace Go.Proofs.W
open Go.RowKit Go.Mono
theorem Zrf (a b:Int) (h0:b≠0) (w:World) (a1 : -9223372036854775808<=a) (a2:a<=9223372036854775807) (b1 : -9223372036854775808<=b) (b2:b<=9223372036854775807) :
  Calls Tryz.prog 95 #[.int .i64 a,.int .i64 b] w λe w'=>∃r,e=.returned (.tuple #[r,.int .i64 0])∧QV w' r (Rat.divInt a b)∧Below w.heap.size w w':=by
 go_enter Tryz.func95,Tryz.ntmps95
 go_wp2_with fail
 refine Zby λW hB hs bb=>?_;refine(Zvm a W a1 a2).mono ?_;rintro e W1 ⟨p,k,c,rfl,z1,hb1⟩;replace hB:=Zaa hB hb1;replace bb:=bb.below hb1;have cbb:=bb.cell;have lbb:=bb.lt;have fbb:=bb.frozen;go_wp2_with fail
 refine(Zvm b W1 b1 b2).mono ?_;rintro e W2 ⟨q,l,d,rfl,z2,hb2⟩;replace hB:=Zaa hB hb2;replace z1:=z1.ext (.of_below hb2);replace bb:=bb.below hb2;try clear cbb lbb fbb
 have cbb:=bb.cell;have lbb:=bb.lt;have fbb:=bb.frozen;go_wp2_with fail
 refine(Zwh a b h0 p q k c l d W2 W2 (Ext.refl _) z1 z2).mono ?_;rintro e W3 ⟨r,rfl,⟨p7,k7,c7,q7,l7,d7,rfl,z7,y7⟩,hb7⟩;replace hB:=Zaa hB hb7;replace z1:=z1.ext (.of_below hb7);replace bb:=bb.below hb7;try clear cbb lbb fbb
 have cbb:=bb.cell;have lbb:=bb.lt;have fbb:=bb.frozen;go_wp2
 have b3':=((((bb.set 0 (.bool (decide ((Rat.divInt a b).num<0)))).set 1 (.slice p7 k7 c7)).set 2 (.bool false)).set 3 (.slice q7 l7 d7)).cell;have xE:Ext W3 _:=(((((Ext.refl W3).set bb Zd 0 (.bool (decide ((Rat.divInt a b).num<0)))).set (bb.set 0 (.bool (decide ((Rat.divInt a b).num<0)))) Zd 1 (.slice p7 k7 c7))).set ((bb.set 0 (.bool (decide ((Rat.divInt a b).num<0)))).set 1 (.slice p7 k7 c7)) Zd 2 (.bool false)).set (((bb.set 0 (.bool (decide ((Rat.divInt a b).num<0)))).set 1 (.slice p7 k7 c7)).set 2 (.bool false)) Zd 3 (.slice q7 l7 d7);refine bodyPost_ret (v:=.tuple #[.agg #[.bool (decide ((Rat.divInt a b).num<0)),.slice p7 k7 c7,.bool false,.slice q7 l7 d7],.int .i64 0]) (by simp[results,Tryz.results95,go_sem,b3']) rfl ⟨_,rfl,⟨_,_,_,_,_,_,rfl,z7.ext xE,y7.ext xE⟩,?_⟩;exact Zag (Zag (Zag (Zag hB Zo _ _) Zo _ _) Zo _ _) Zo _ _
end Go.Proofs.W
namespace Go.Mono
def Mov (N D:Nat) (x:Mat):Prop:=∃d,d<=D∧Ov N d x.a∧Ov N d x.b∧Ov N d x.c∧Ov N d x.d
def bnd:Nat:=4000000000000000000000
theorem Mov.parts {N D N' D':Nat} {x y:Mat} (h:Mov N D x) (g:Mov N' D' y):∃d,d<=D*D'∧
  (∀u v,(u=x.a∨u=x.b∨u=x.c∨u=x.d)->(v=y.a∨v=y.b∨v=y.c∨v=y.d)->Ov (N*N') d (u*v)):=by
 obtain⟨d,hd,a,b,c,e⟩:=h;obtain⟨d',hd',a',b',c',e'⟩:=g;refine⟨d*d',Ybv hd hd',?_⟩;intro u v hu hv;rcases hu with rfl|rfl|rfl|rfl<;>rcases hv with rfl|rfl|rfl|rfl<;>exact Ov.mul (by assumption) (by assumption)
theorem Mov.mul {N D N' D':Nat} {x y:Mat} (h:Mov N D x) (g:Mov N' D' y):Mov (2*(N*N')) (D*D') (x.mul y):=by
 obtain⟨d,hd,hp⟩:=h.parts g;rw[Nat.two_mul];exact⟨d,hd,(hp _ _ Zs Zs).sub_same (hp _ _ Zs Zs),(hp _ _ Zs Zs).add_same (hp _ _ Zs Zs),(hp _ _ Zs Zs).add_same (hp _ _ Zs Zs),(hp _ _ Zs Zs).sub_same (hp _ _ Zs Zs)⟩
theorem Mov.one:Mov 1 1 Mat.one:=by
 have h0:Ov 1 1 (0:Rat):=Ov.of 0 1 Zd 1 Zd;have h1:Ov 1 1 (1:Rat):=Ov.of 1 1 Zd 1 Zd;exact⟨1,Yab _,h1,h0,h0,h1⟩
end Go.Mono
namespace Go.Ex
open Go.RowKit Go.Mono
section
def pureOf {α:Type} (P:Program):Sem α->Option α
 | .pure a=>some a
 | .program k=>pureOf P (k P)
 | .mark _ k=>pureOf P k
 | _=>none
theorem Zdc {α:Type} {P:Program}:∀{s:Sem α} {x:α},pureOf P s=some x->∀w,s.run P w=.ok x w
 | .pure a,x,h,w=>by simp only[pureOf,Ybp]at h;subst h;rfl
 | .program k,x,h,w=>by simp only[pureOf]at h;exact Zdc h w
 | .mark _ k,x,h,w=>by simp only[pureOf]at h;exact Zdc h w
def szOf (P:Program) (t:TypeId):Option Nat:=(P.info? t).map (·.size)
def rowT (P:Program) (t:TypeId):Option Bool:=(P.underlying t).map TypeDesc.isRow
section
variable {P:Program} {w:World} {B off:Nat}
theorem Zcl {t:TypeId} {n:Nat} (h:szOf P t=some n) (w:World):(sizeOf t).run P w=.ok n w:=by
 obtain⟨i,hi,rfl⟩:=Yad.1 h;unfold sizeOf typeInfo;simp[hi]
theorem Zf9 {t:TypeId} {b:Bool} (h:rowT P t=some b) (w:World):(isAgg t).run P w=.ok b w:=by
 obtain⟨d,hd,rfl⟩:=Yad.1 h;unfold isAgg;simp only[Yar,run_underlying hd,Yag];cases d<;>rfl
theorem Zkk {s f:Nat} {fs:Array Field} {fl:Field} {n:Nat} (hs:P.underlying s=some (.struct fs)) (hf:fs[f]? = some fl) (hz:szOf P fl.type=some (n+1)) :
  (Instr.fieldAt s (.pointer (some ⟨B,off,none⟩)) f).run P w=.ok (.pointer (some ⟨B,off+fl.offset,none⟩)) w:=by
 unfold Instr.fieldAt;simp only[Yar,run_underlying hs,Yag,hf,Instr.sureAddr,Yau,fieldPlace,Zcl hz];simp[Yem]
theorem Zcm {t e len cap:Nat} {k:IntKind} {i:Int} {n:Nat} (hs:P.underlying t=some (.slice e)) (hz:szOf P e=some n) (hi:0<=i∧i<len) :
  (Instr.indexAt t (.slice (some ⟨B,off,none⟩) len cap) (.int k i)).run P w=.ok (.pointer (some ⟨B,off+i.toNat*n,none⟩)) w:=by
 unfold Instr.indexAt;simp only[Yar,asIntOf,run_underlying hs,Yag,Yau,if_pos hi,Zcl hz,Yem]
theorem Zi5 {t e len:Nat} {k:IntKind} {i:Int} {n:Nat} (hs:P.underlying t=some (.array len e)) (hz:szOf P e=some n) (hi:0<=i∧i<len) :
  (Instr.indexAt t (.pointer (some ⟨B,off,none⟩)) (.int k i)).run P w=.ok (.pointer (some ⟨B,off+i.toNat*n,none⟩)) w:=by
 unfold Instr.indexAt;simp only[Yar,asIntOf,run_underlying hs,Yag,Yau,Instr.sureAddr,if_pos hi,Zcl hz,Yem]
end
def fieldAddrS (P:Program) (s:TypeId) (x:Option SV) (f:Nat):Option SV:=
 match x with
 | some (.a (.one (.ptr k off))) => match P.underlying s with
   | some (.struct fs) => match fs[f]? with
     | some fl => match szOf P fl.type with
       | some (_+1)=>some (.a (.one (.ptr k (off+fl.offset))))
       | _=>none
     | none=>none
   | _=>none
 | _=>none
def indexAddrS (P:Program) (t:TypeId) (x ix:Option SV):Option SV:=
 match x,ix with
 | some (.a (.one (.ptr k off))), some (.a (.one (.val (.int _ i)))) => match P.underlying t with
   | some (.array n e) => match szOf P e with
     | some s=>if 0<=i∧i<n then some (.a (.one (.ptr k (off+i.toNat*s)))) else none
     | none=>none
   | _=>none
 | some (.a (.one (.slc k off len _))), some (.a (.one (.val (.int _ i)))) => match P.underlying t with
   | some (.slice e) => match szOf P e with
     | some s=>if 0<=i∧i<len then some (.a (.one (.ptr k (off+i.toNat*s)))) else none
     | none=>none
   | _=>none
 | some (.a (.one (.sli k off len))), some (.a (.one (.val (.int _ i)))) => match P.underlying t with
   | some (.slice e) => match szOf P e with
     | some s=>if 0<=i∧i<len then some (.a (.one (.ptr k (off+i.toNat*s)))) else none
     | none=>none
   | _=>none
 | some (.a (.one (.own k len _))), some (.a (.one (.val (.int _ i)))) => match P.underlying t with
   | some (.slice e) => match szOf P e with
     | some s=>if 0<=i∧i<len then some (.a (.one (.ptr k (i.toNat*s)))) else none
     | none=>none
   | _=>none
 | some (.a (.one (.slx k off m _))), some (.a (.one (.val (.int _ i)))) => match P.underlying t with
   | some (.slice e) => match szOf P e with
     | some s=>if 0<=i∧i<m then some (.a (.one (.ptr k (off+i.toNat*s)))) else none
     | none=>none
   | _=>none
 | _,_=>none
def partS (P:Program) (t:TypeId) (l:List U) (off:Nat):Option SV:=
 match rowT P t,szOf P t with
 | some true,some n=>(subX l off n).map λm=>.a (.agg m)
 | some false, some _ => match subX l off 1 with
   | some [u]=>some (.a (.one u))
   | _=>none
 | _,_=>none
def fieldS (P:Program) (t:TypeId) (x:Option SV) (f:Nat):Option SV:=
 match x with
 | some (.a (.agg l)) => match P.underlying t with
   | some (.struct fs) => match fs[f]? with
     | some fl=>partS P fl.type l fl.offset
     | none=>none
   | _=>none
 | _=>none
def indexS (P:Program) (t:TypeId) (x ix:Option SV):Option SV:=
 match x,ix with
 | some (.a (.agg l)), some (.a (.one (.val (.int _ i)))) => match P.underlying t with
   | some (.array n e) => match szOf P e with
     | some s=>if 0<=i∧i<n then partS P e l (i.toNat*s) else none
     | none=>none
   | _=>none
 | _,_=>none
section
variable {D:Den} {P:Program} {ρ:Nm} {wc w:World}
theorem Znp {t:TypeId} {l:List U} {off:Nat} {x:SV} {cs:List Value} (h:partS P t l off=some x) (hl:denL D ρ wc l cs) :
  ∃v,(part t cs.toArray off).run P w=.ok v w∧denV D ρ wc x v:=by
 unfold partS at h;split at h
 ·rename_i n hr hz
  obtain⟨m,hm,rfl⟩:=Yad.1 h;obtain⟨h1,h2⟩:=Zf8 hm hl;refine⟨.agg ((cs.drop off).take n).toArray,?_,_,rfl,h1⟩;unfold part;simp only[Yar,Zf9 hr,Yag,if_true,Zcl hz,Yau];congr 2
  apply Yee.1;simp[List.extract_eq_take_drop]
 ·rename_i n hr hz
  split at h
  ·rename_i u hu
   cases h;obtain⟨h1,h2⟩:=Zf8 hu hl;obtain⟨c,d,e,hc,hd⟩:=h1;obtain rfl:d=[]:=hd;rw[Ydg]at e;rw[e]at h2;obtain⟨v,rfl⟩:∃v,c=[v]:=Ydr.1 h2;refine⟨v,?_,hc⟩;have hv:cs[off]? = some v:=by
    have:=congrArg (·[0]?) e;simpa using this
   unfold part;simp only[Yar,Zf9 hr,Yag,Ybq,if_false,List.getElem?_toArray,hv,Yau]
  ·cases h
 ·cases h
end
end
end Go.Ex
namespace Go.Mono
open Go.RowKit
def RdF (w:World) (p:Option Addr) (n c:Nat) (f:Nat->Int):Prop:=
 n<=c∧n<=140737488351232∧(0<n->∃b off,p=some ⟨b,off,none⟩∧b<w.heap.size∧(∀i,i<n->w.cell? ⟨b,off+i,none⟩=some (.int .i64 (f i))))
theorem RdF.below {w w':World} {p:Option Addr} {n c:Nat} {f:Nat->Int} (h:RdF w p n c f) (hB:Below w.heap.size w w'):RdF w' p n c f:=by
 obtain⟨h1,h2,h3⟩:=h;refine⟨h1,h2,λhn=>?_⟩;obtain⟨b,off,hp,hb,hc⟩:=h3 hn;exact⟨b,off,hp,Yaf hb hB.size,λi hi=>(hB.cell hb).trans (hc i hi)⟩
end Go.Mono
namespace Go.Proofs.W
open Go.RowKit Go.Mono
theorem Zg1 (z lo hi:Int) (B0 B1:Nat) (w:World) (b0:Box w B0 3 #[.int .i64 lo]) (b1:Box w B1 3 #[.int .i64 hi]) (h1:lo<=z) (h2:z<=hi) :
  Calls Tryz.prog 311 #[.int .i64 z,.pointer (some ⟨B0,0,none⟩),.pointer (some ⟨B1,0,none⟩)] w λe w'=>e=.returned (.bool false)∧w'=w:=by
 have c0:=b0.cell;have c1:=b1.cell;have e1:¬(z<lo):=Zo;have e2:¬(hi<z):=Zo;go_enter Tryz.func311,Tryz.ntmps311
 go_wp2
 go_ret
 exact⟨rfl,rfl⟩
theorem Zo2 (n:Nat) (p:Option Addr) (c:Nat) (f:Nat->Int) (g:Nat) (eg:∀args w,(callFunc g args).run Tryz.prog w=.ok (.enter g args) w) (cap:Array Value) (w:World) (h:RdF w p n c f)
  (hf:∀i,i<n->Calls Tryz.prog g (#[.int .i64 (f i)]++cap) w λe w'=>e=.returned (.bool false)∧w'=w) :
  Calls Tryz.prog 318 #[.slice p n c,.func (.func g) #[] cap] w λe w'=>e=.returned (.int .i64 (-1))∧w'=w:=by
 obtain⟨hc1,hn1,hx1⟩:=h;go_enter Tryz.func318,Tryz.ntmps318
 go_wp2
 go_loopw [8] (λa wr=>∃k:Nat,k<=n∧a=.int .i64 (k:Int)∧wr=w) (λa _=>(n-intOf a).toNat)
 case atStart=>exact⟨0,Yat _,rfl,rfl⟩
 case round=>
  obtain⟨k,hk,rfl,rfl⟩:=hrel;by_cases h0:k<n
  ·obtain⟨b,off,rfl,hb,hcell⟩:=hx1 Zo
   have a1:=hcell k Zo;have hfk:=hf k h0;clear hcell hx1 hf;have h0':(k:Int)<n:=Zo;go_wp2
   refine hfk.mono ?_;rintro e w' ⟨rfl,rfl⟩;go_wp2
   go_roundw
   case rel=>refine⟨k+1,Zo,?_⟩;simp
   case measure=>simp[intOf];omega
  ·obtain rfl:k=n:=by omega
   go_wp2
   go_ret
   exact⟨rfl,rfl⟩
theorem Zje (n:Nat) (p:Option Addr) (c:Nat) (f:Nat->Int) (g:Nat) (eg:∀args w,(callFunc g args).run Tryz.prog w=.ok (.enter g args) w) (cap:Array Value) (w:World) (h:RdF w p n c f)
  (hf:∀i,i<n->Calls Tryz.prog g (#[.int .i64 (f i)]++cap) w λe w'=>e=.returned (.bool false)∧w'=w) :
  Calls Tryz.prog 310 #[.slice p n c,.func (.func g) #[] cap] w λe w'=>e=.returned (.bool false)∧w'=w:=by
 have hi:=Zo2 n p c f g eg cap w h hf;clear h hf;go_enter Tryz.func310,Tryz.ntmps310
 go_wp2_with (go_at_call 318;refine hi.mono ?_;rintro e w' ⟨rfl,rfl⟩)
 go_ret
 exact⟨rfl,rfl⟩
theorem Zdu:∀args w,(callFunc 311 args).run Tryz.prog w=.ok (.enter 311 args) w:=Go.Proofs.enters_of Tryz.func311 Zk rfl
theorem Zfk (lo hi:Int) (n:Nat) (p:Option Addr) (c:Nat) (f:Nat->Int) (w:World) (h:RdF w p n c f) (h1:∀i,i<n->lo<=f i∧f i<=hi) :
  Calls Tryz.prog 293 #[.int .i64 lo,.int .i64 hi,.slice p n c] w λe w'=>e=.returned (.bool true)∧Below w.heap.size w w':=by
 have hmf:∀(fn:Fn) (first cap:Array Value) (w:World),(Instr.makeFunc fn first cap).run Tryz.prog w=.ok (.func fn first cap) w:=λ_ _ _ _=>rfl;go_enter Tryz.func293,Tryz.ntmps293
 go_wp2_with fail
 refine Zbq λW hB hs b0 b1=>?_;replace h:=h.below hB;refine(Zje n p c f _ Zdu _ W h λi hi=>?_).mono ?_
 ·exact Zg1 _ _ _ _ _ W b0 b1 (h1 i hi).1 (h1 i hi).2
 rintro e W1 ⟨rfl,rfl⟩;go_wp2
 go_ret
 exact⟨rfl,hB⟩
theorem Zd4 (m:Int) (n:Nat) (p:Option Addr) (c:Nat) (f:Nat->Int) (w:World) (h:RdF w p n c f) (hm0:0<=m) (hm1:m<=1000000000) (h1:∀i,i<n->-m<=f i∧f i<=m) :
  Calls Tryz.prog 297 #[.int .i64 m,.slice p n c] w λe w'=>e=.returned (.bool true)∧Below w.heap.size w w':=by
 have hb:=Zfk (-m) m n p c f w h h1;clear h h1;go_enter Tryz.func297,Tryz.ntmps297
 go_wp2_with (go_at_call 293;refine hb.mono ?_;rintro e w' ⟨rfl,hb⟩)
 go_ret
 exact⟨rfl,hb⟩
end Go.Proofs.W
namespace Go.Mono
open Go.RowKit
theorem LgV.unique {m m':Nat} {w:World} {v:Value} {z z':Int} (h:LgV m w v z) (h':LgV m' w v z'):z=z':=by
 obtain⟨p,n,c,f,rfl,s1,d1,e1,_⟩:=h;obtain⟨p',n',c',f',hv,s2,d2,e2,_⟩:=h';simp only[Value.agg.injEq,Array.mk.injEq,List.cons.injEq,Value.bool.injEq,Ydm,and_true]at hv;obtain⟨hs,rfl,rfl,rfl⟩:=hv;have hf:∀i,i<n->f i=f' i:=λi hi=>by
  obtain⟨_,_,x1⟩:=s1.opens;obtain⟨_,_,x2⟩:=s2.opens;obtain⟨b,off,hp,_,g1⟩:=x1 Zo;obtain⟨b',off',hp',_,g2⟩:=x2 Zo;rw[hp]at hp';simp only[Ybp,Addr.mk.injEq]at hp';obtain⟨rfl,rfl,_⟩:=hp';have:=g1 i hi;rw[g2 i hi]at this;simpa using this.symm
 have e:=Zbh hf;have h3:(z<0↔z'<0):=by simpa using hs
 omega
def IsVal (w:World) (B:Nat) (T:TypeId) (k:Nat):Prop:=∃C z m,Box w B T C∧LgV m w (.agg C) z∧z.natAbs=k
noncomputable def valAt (w:World) (B:Nat) (T:TypeId):Nat:=Classical.epsilon (IsVal w B T)
theorem Zgk {w:World} {B:Nat} {T:TypeId} {C:Array Value} {z:Int} {m:Nat} (hb:Box w B T C) (h:LgV m w (.agg C) z):valAt w B T=z.natAbs:=by
 obtain⟨C',z',m',hb',h',e⟩:=Classical.epsilon_spec (p:=IsVal w B T) ⟨z.natAbs,C,z,m,hb,h,rfl⟩;have hc:C'=C:=by
  have:=hb.blk.symm.trans hb'.blk;simp at this;exact this.symm
 subst hc;have:=h.unique h';subst this;exact e.symm
end Go.Mono
namespace Go.Proofs.W
open Go.RowKit Go.Mono
theorem Zcs {m1 m2:Nat} {v1 v2:Value} {z y:Int} (w:World) (h1:LgV m1 w v1 z) (h2:LgV m2 w v2 y) (hy:y≠0) (hm1:m1<=100000) (hm2:m2<=100000) :
  Calls Tryz.prog 266 #[v1,v2] w λe w'=>∃q r,e=.returned (.tuple #[q,r])∧LgV m1 w' q (z.tdiv y)∧LgV m2 w' r (z.tmod y)∧Below w.heap.size w w':=by
 obtain⟨p,n,c,f,rfl,s1,d1,e1,l1⟩:=h1;obtain⟨q,m,c',g,rfl,s2,d2,e2,l2⟩:=h2;have hm0:0<m:=d2.pos.1 Zo;obtain⟨m,rfl⟩:∃k,m=k+1:=⟨m-1,Zo⟩
 obtain⟨t1,t2,t3,t4⟩:=Zpo z y hy;refine(Zh7 _ _ p q n m c c' f g w s1 s2 d1 d2 Zo Zo).mono ?_;rintro e w' ⟨p1,k1,c1,h1,p2,k2,c2,h2,rfl,hs1,hd1,hv1,hk1,hs2,hd2,hv2,hk2,hb⟩;rw[e1,e2]at hv1 hv2 ⊢;rw[t1]at hv1 ⊢;rw[t2]at hv2 ⊢;rw[t3,t4];exact⟨_,_,rfl,⟨p1,k1,c1,h1,rfl,hs1,hd1,hv1,Zo⟩,⟨p2,k2,c2,h2,rfl,hs2,hd2,hv2,Zo⟩,hb⟩
theorem Zhb {m:Nat} {v1 v2:Value} {z y:Int} (w:World) (h1:LgV m w v1 z) (h2:LgV m w v2 y) (hm:m<=100000) :
  Calls Tryz.prog 265 #[v1,v2] w λe w'=>∃v,e=.returned v∧LgV m w' v (Int.gcd z y)∧Below w.heap.size w w':=by
 obtain⟨A0,rfl,hA0,hA0o⟩:=h1.cells;obtain⟨A1,rfl,hA1,hA1o⟩:=h2.cells;obtain⟨gz,hgz⟩:∃k,Int.gcd z y=k:=⟨_,rfl⟩
 rw[hgz];go_enter Tryz.func265,Tryz.ntmps265
 go_wp2_with fail
 refine Zf0 λW hB hs b0 b1 b2=>?_;go_loopw [5,6] (λu v wr=>∃(A B:Array Value) (a b:Int),Box wr w.heap.size 44 A∧Box wr (w.heap.size+1) 44 B∧LgV m wr (.agg A) a∧LgV m wr (.agg B) b∧Int.gcd a b=gz∧Box wr (w.heap.size+1+1) 44 #[.bool false,.slice none 0 0]∧Below w.heap.size w wr∧w.heap.size+1+1+1<=wr.heap.size) (λ_ _ wr=>valAt wr (w.heap.size+1) 44)
 case atStart=>exact⟨A0,A1,z,y,b0,b1,h1.below hB,h2.below hB,hgz,b2,hB,hs⟩
 case round=>
  clear b0 b1 b2 hB hs h1 h2 hgz;obtain⟨A,B,a,b,b0,b1,ha,hb,hg,b2,hB,hsz⟩:=hrel;by_cases hb0:b=0
  ·subst hb0
   obtain⟨pz,cz,hBv⟩:=hb.zero;cases hBv;have hga:(Int.natAbs a)=gz:=by rw[<-hg];simp
   obtain⟨p,n,c,f,hAv,s1,d1,e1,l1⟩:=ha;cases hAv;generalize decide (a<0)=sa at *;have hmade:=λ(X:World) (hX:Ext wr X)=>Zbm false p n c f X (s1.ext hX) Zo d1.lo d1.hi;have cb0:=b0.cell;have lb0:=b0.lt;have fb0:=b0.frozen;have cb1:=b1.cell;have lb1:=b1.lt;have fb1:=b1.frozen;go_wp2_with fail
   refine(hmade wr (Ext.refl _)).mono ?_;rintro e W2 ⟨v',rfl,ho2,d3,e3,hbb⟩;replace b2:=b2.below hbb;have hB1:=Zaa hB hbb;obtain⟨p',c',rfl⟩:=ho2.shape;have hlg:LgV m W2 (.agg #[.bool false,.slice p' (trimN f n) c']) (gz:Int):=⟨p',_,c',f,by rw[decide_eq_false Zo],ho2.sl (by have:=Za6 f n;omega),d3,by rw[e3,e1,hga];rfl,by have:=Za6 f n;omega⟩
   rw[Bool.false_and];clear hmade ho2 b0 b1 cb0 cb1 fb0 fb1 lb0 lb1 hB hb;go_wp2_with first|(refine Zab rfl 44 _ _ rfl (w.heap.size+1+1) 0 44 _ #[.bool false,.slice p' (trimN f n) c'] #[.bool false,.slice p' (trimN f n) c'] rfl rfl b2 Zae (Yaa rfl) (Zap _ _ _ _) (Zah rfl) ?_;intro W3 hk b4)
   have hb2:=hk.below hB1 Zo hB1.size;exact bodyPost_ret (b4.results rfl _ _ rfl Tryz.underlying44 rfl Zae) rfl ⟨_,rfl,hlg.ext (hk.ext b2 Zd),hb2⟩
  ·have hval:=Zgk b1 hb
   have hpt:=λ(X:World) (hX:Ext wr X)=>Zcs X (ha.ext hX) (hb.ext hX) hb0 hm hm;have hg2:Int.gcd b (a.tmod b)=gz:=by
    rw[<-hg];unfold Int.gcd;rw[Ydy,Nat.gcd_comm a.natAbs b.natAbs,Nat.gcd_comm b.natAbs (a.natAbs%b.natAbs)];exact(Nat.gcd_rec b.natAbs a.natAbs).symm
   have hlt:(a.tmod b).natAbs<b.natAbs:=by
    rw[Ydy];exact Nat.mod_lt _ Zo
   obtain⟨q,n,c,hBv,hn0⟩:=hb.nz hb0;have hn':(0:Int)<n:=Zo;cases hBv;obtain⟨sa,pa,na,ca,hAv⟩:=ha.parts;cases hAv;generalize decide (b<0)=sb at *;have cb0:=b0.cell;have lb0:=b0.lt;have fb0:=b0.frozen;have cb1:=b1.cell;have lb1:=b1.lt;have fb1:=b1.frozen;go_wp2_with fail
   refine(hpt wr (Ext.refl _)).mono ?_;rintro e W2 ⟨vq,vr,rfl,hq,hr,hbb⟩;obtain⟨sq,pq,nq,cq,rfl⟩:=hq.parts;obtain⟨sr,pr,nr,cr,rfl⟩:=hr.parts;have hsz2:=hbb.size;replace b0:=b0.below hbb;replace b1:=b1.below hbb;replace b2:=b2.below hbb;replace hb:=hb.below hbb;have hB2:=Zaa hB hbb;clear hpt ha hq cb0 lb0 fb0 cb1 lb1 fb1 hB hbb hg;go_wp2_with fail
   have h2n:=(Yae W2.heap.size W2).alloc (Yab _) (.cells #[.bool sq,.slice pq nq cq] 44);have b6:=Box.new (W2.alloc (.cells #[.bool sq,.slice pq nq cq] 44)) 44 #[.bool sr,.slice pr nr cr];rw[Yav]at b6;have hbn:Below W2.heap.size W2 ((W2.alloc (.cells #[.bool sq,.slice pq nq cq] 44)).alloc (.cells #[.bool sr,.slice pr nr cr] 44)):=Zad (Zad (Yae _ _) _) _;replace b0:=b0.below hbn;replace b1:=b1.below hbn;replace b2:=b2.below hbn;replace hb:=hb.below hbn;replace hr:=hr.below hbn;replace hB2:=Zaa hB2 hbn;have hs3:=hbn.size;generalize (W2.alloc (.cells #[.bool sq,.slice pq nq cq] 44)).alloc (.cells #[.bool sr,.slice pr nr cr] 44)=V at *;refine wp_region_held_drew (S:=λw'=>Box w' (W2.heap.size+1) 44 #[.bool sr,.slice pr nr cr]∧Below w.heap.size w w') Zx ⟨b6.drew,hB2.drew⟩ (λhHeld=>?_);have c0:=b0.drew;have c1:=b1.drew;have c2:=b2.drew;have hbX:LgV m V.drew (.agg #[.bool sb,.slice q n c]) b:=hb.ext (Ext.refl _).drew;have hrX:LgV m V.drew (.agg #[.bool sr,.slice pr nr cr]) (a.tmod b):=hr.ext (Ext.refl _).drew;have hsX:w.heap.size+1+1+1<=V.drew.heap.size:=by show _<=V.heap.size;omega
   clear b0 b1 b2 hb hr b6 hbn h2n hB2;generalize V.drew=X0 at *;refine tl 1 (some 18) rfl (.agg #[.bool sr,.slice pr nr cr]) (Zaj 44 _ rfl (W2.heap.size+1) 0 rfl #[.bool sr,.slice pr nr cr] (λw h=>h.1.range) _ Tryz.underlying44 rfl Zae) ?_;refine Mono.sta 0 (some 17) (.agg #[.bool sb,.slice q n c]) X0 hHeld (λhHeld=>Mono.pt ?_) rfl rfl Zx Zx (Zaj (S:=λw=>w=X0) 44 _ rfl (w.heap.size+1) 0 Zx #[.bool sb,.slice q n c] (λw hS=>by subst hS;exact c1.range) _ Tryz.underlying44 rfl Zae X0 rfl);refine Zb3 w.heap.size 44 2 rfl rfl rfl rfl 0 #[.bool sb,.slice q n c] #[.bool sa,.slice pa na ca] #[.bool sb,.slice q n c] Zx (λX i u h=>⟨h.1.other _ _ (by show W2.heap.size+1≠w.heap.size;omega),Zag h.2 Zo _ _⟩) Zx Zx c0 hHeld Zae (Yaa rfl) (Zap _ _ _ _) (Zah rfl) (λY1 hk1 r0 hHeld=>?_);have d1:=hk1.box c1 c1.lt Zo;have d2:=hk1.box c2 c2.lt Zo;have e1:=hk1.ext c0 Zd;refine Zb3 (w.heap.size+1) 44 3 rfl rfl rfl rfl 0 #[.bool sr,.slice pr nr cr] #[.bool sb,.slice q n c] #[.bool sr,.slice pr nr cr] Zx (λX i u h=>⟨h.1.other _ _ (by show W2.heap.size+1≠w.heap.size+1;omega),Zag h.2 Zo _ _⟩) Zx Zx d1 hHeld Zae (Yaa rfl) (Zap _ _ _ _) (Zah rfl) (λY2 hk2 r1 hHeld=>?_);have r0':=hk2.box r0 r0.lt Zo;have d2':=hk2.box d2 d2.lt Zo;have e2:=hk2.ext d1 Zd;have hbY:=(hbX.ext e1).ext e2;have hrY:=(hrX.ext e1).ext e2;have hBY:=hHeld.2;have hsY:w.heap.size+1+1+1<=Y2.heap.size:=by have:=hk1.size;have:=hk2.size;omega
   have hvn:=Zgk r1 hrY;replace hval:=Yah hval;refine wpAnyH_done Zx ?_ _;clear hHeld hk1 hk2 r0 c0 c1 c2 d1 d2 e1 e2 hbX hrX;go_wp2
   go_roundw
   case rel=>exact⟨_,_,b,a.tmod b,r0',r1,hbY,hrY,hg2,d2',hBY,hsY⟩
   case measure=>rw[hvn,hval.out];exact hlt
end Go.Proofs.W
namespace Go.Ex
open Go.RowKit Go.Mono
section
theorem Zdh {v:Value} (h:v.oneCell'=true):v.cells = #[v]:=by
 cases v<;>first|rfl|simp[Value.oneCell']at h
def unitsA:SA->List U
 | .one u=>[u]
 | .agg l=>l
theorem Zff {D:Den} {ρ:Nm} {w:World}:∀{x:SA} {v:Value},denA D ρ w x v->denL D ρ w (unitsA x) v.cells.toList
 | .one u, v, h => by
   rw[Zdh (denU.ones h v Zs)];exact⟨[v],[],rfl,h,rfl⟩
 | .agg l,v,⟨cs,e,hl⟩=>by rw[e];exact hl
def fillS (place:Nat->Option (Nat×Nat)) (l:List U):List (Nat×List U)->Option (List U)
 | []=>some l
 | (i, us) :: r => match place i with
   | none=>none
   | some (off,size)=>if widths us=size then(putX l off us).bind λm=>fillS place m r else none
theorem Zkl (off:Nat):∀(vs:List Value) (k:Nat) (cs:Array Value),off+k+vs.length<=cs.size->
  (vs.zipIdx k).foldl (λc (p:Value×Nat)=>c.setIfInBounds (off+p.2) p.1) cs=(cs.toList.take (off+k)++vs++cs.toList.drop (off+k+vs.length)).toArray
 | [],k,cs,h=>Zs
 | v :: r, k, cs, h => by
   have hl:off+k+(r.length+1)<=cs.size:=by simpa using h
   rw[List.zipIdx_cons,List.foldl_cons,Zkl off r (k+1) _ (by simp;omega)];apply congrArg;rw[Array.toList_setIfInBounds,<-Ybj];have hL:off+k<cs.toList.length:=by rw[Yaz];omega
   rw[List.set_eq_take_append_cons_drop,if_pos hL];generalize off+k=m at *;have e1:(cs.toList.take m).length=m:=by rw[Ycq];omega
   have t1:(cs.toList.take m++v::cs.toList.drop (m+1)).take (m+1)=cs.toList.take m++[v]:=by
    rw[List.take_append,e1,Ycm Zo,show m+1-m=0+1 by omega,List.take_succ_cons];simp
   have t2:(cs.toList.take m++v::cs.toList.drop (m+1)).drop (m+1+r.length)=cs.toList.drop (m+(r.length+1)):=by
    rw[List.drop_append,e1,Yfi Zo,show m+1+r.length-m=r.length+1 by omega,List.drop_succ_cons,List.drop_drop,Ydp];congr 1
    omega
   rw[t1,t2];simp
section
variable {D:Den} {ρ:Nm} {w:World}
def denParts (D:Den) (ρ:Nm) (w:World):List (Nat×List U)->List (Nat×Value)->Prop
 | [],vs=>vs=[]
 | p::r,vs=>∃v s,vs=(p.1,v)::s∧denL D ρ w p.2 v.cells.toList∧denParts D ρ w r s
theorem Zga (place:Nat->Option (Nat×Nat)):∀{ps:List (Nat×List U)} {l m:List U} {cs:List Value} {vs:List (Nat×Value)},fillS place l ps=some m->denL D ρ w l cs->denParts D ρ w ps vs->
  ∃c:Array Value,Instr.fill place cs.toArray vs=some c∧denL D ρ w m c.toList
 | [], l, m, cs, vs, h, hl, hp => by
   obtain rfl:vs=[]:=hp;cases h;exact⟨_,rfl,hl⟩
 | (i, us) :: r, l, m, cs, vs, h, hl, hp => by
   obtain⟨v,s,rfl,hv,hs⟩:=hp;unfold fillS at h;cases hpl:place i with
   | none=>rw[hpl]at h;cases h
   | some os =>
     obtain⟨off,size⟩:=os;rw[hpl]at h;dsimp only at h;split at h
     ·rename_i hw
      obtain⟨m',hm',h2⟩:=Ybg.1 h;obtain⟨k1,k2⟩:=Zno hm' hl hv;have hlen:=hv.len;have hsz:v.cells.size=size:=by rw[<-hw,<-hlen,Yaz]
      have hk:¬(off+v.cells.size>cs.length):=by
       rw[Yaz]at k2;omega
      obtain⟨c,hc1,hc2⟩:=Zga place h2 k1 hs;refine⟨c,?_,hc2⟩;show(match place i with
       | none=>none
       | some (off, size) =>
         if v.cells.size≠size || off+v.cells.size>cs.toArray.size then none
         else Instr.fill place (v.cells.zipIdx.foldl (λcs (c,j)=>cs.setIfInBounds (off+j) c) cs.toArray) s)=some c
      rw[hpl];dsimp only;rw[if_neg (by simp[hsz];omega),<-hc1];congr 1
      have:=Zkl off v.cells.toList 0 cs.toArray (by simp;rw[Yaz]at k2;omega);simp only[Yce,Yex]at this;rw[<-this,<-Array.foldl_toList];simp
     ·cases h
end
def zeroU (P:Program) (t:TypeId):Option (List U):=
 match (P.info? t).bind (·.zero) with
 | some z=>if z.cells.toList.all (·.oneCell') then some (z.cells.toList.map .val) else none
 | none=>none
theorem Znq {P:Program} {t:TypeId} {l:List U} (h:zeroU P t=some l) (D:Den) (ρ:Nm) (w:World) :
  ∃i z,P.info? t=some i∧i.zero=some z∧denL D ρ w l z.cells.toList:=by
 unfold zeroU at h;split at h
 ·rename_i z hz
  obtain⟨i,hi,hz'⟩:=Ybg.1 hz;split at h
  ·rename_i ha
   cases h;exact⟨i,z,hi,hz',Zds _ λv hv=>Ybn.1 ha v hv⟩
  ·cases h
 ·cases h
def getS (tm:List (Nat×SV)):Operand->Option SV
 | .tmp t=>tm.look t
 | .const v=>ofVal v
 | .global g=>some (.a (.one (.val (.pointer (some ⟨g,0,none⟩)))))
 | .func f=>some (.a (.one (.clo f [])))
structure TSat (D:Den) (ρ:Nm) (w:World) (n:Nat) (tm:List (Nat×SV)) (a:Act):Prop where
 size:a.tmps.size=n
 at_:∀t x,tm.look t=some x->∃v,a.tmps[t]? = some v∧denV D ρ w x v
theorem TSat.get {D:Den} {ρ:Nm} {w:World} {n:Nat} {tm:List (Nat×SV)} {a:Act} (h:TSat D ρ w n tm a):∀{x:Operand} {z:SV},getS tm x=some z->denV D ρ w z (a.eval x)
 | .tmp t, z, hz => by
   obtain⟨v,hv,hd⟩:=h.at_ t z hz;have:a.eval (.tmp t)=v:=by
    show a.tmps.getD t undef=v;simp[Yax,hv]
   rw[this];exact hd
 | .const v,z,hz=>Zkj hz
 | .global g,z,hz=>by cases hz;exact⟨rfl,rfl⟩
 | .func f,z,hz=>by cases hz;exact⟨[],rfl,rfl⟩
theorem TSat.mono {D:Den} {ρ ρ':Nm} {w w':World} {n:Nat} {tm:List (Nat×SV)} {a:Act} (h:TSat D ρ w n tm a) (hr:ρ.le ρ') (hx:Ext w w'):TSat D ρ' w' n tm a:=
 ⟨h.size,λt x hl=>let ⟨v,hv,hd⟩:=h.at_ t x hl;⟨v,hv,hd.mono hr hx⟩⟩
def partsS (get:Operand->Option SV):List (Nat×Operand)->Option (List (Nat×List U))
 | []=>some []
 | (i, x) :: r => match get x with
   | some (.a s)=>(partsS get r).map ((i,unitsA s)::·)
   | _=>none
theorem Zgv {D:Den} {ρ:Nm} {w:World} {get:Operand->Option SV} {ev:Operand->Value} (hg:∀x z,get x=some z->denV D ρ w z (ev x)) :
  ∀{l:List (Nat×Operand)} {ps:List (Nat×List U)},partsS get l=some ps->denParts D ρ w ps (l.map λ(i,x)=>(i,ev x))
 | [],ps,h=>by cases h;rfl
 | (i, x) :: r, ps, h => by
   unfold partsS at h;split at h
   ·rename_i s hs
    obtain⟨q,hq,rfl⟩:=Yad.1 h;exact⟨_,_,rfl,Zff (hg _ _ hs),Zgv hg hq⟩
   ·cases h
def buildS (P:Program) (t:TypeId) (parts:List (Nat×Operand)) (get:Operand->Option SV):Option SV:=
 match zeroU P t,partsS get parts with
 | some z, some ps => match P.underlying t with
   | some (.array _ e) => match szOf P e with
     | some s=>(fillS (λi=>some (i*s,s)) z ps).map λm=>.a (.agg m)
     | none=>none
   | some (.struct fields) => match fields.toList.mapM (λf => (P.info? f.type).map λi => (f.offset, i.size)) with
     | some places=>(fillS (places.toArray[·]?) z ps).map λm=>.a (.agg m)
     | none=>none
   | _=>none
 | _,_=>none
theorem Zqv {D:Den} {P:Program} {ρ:Nm} {w:World} {get:Operand->Option SV} {ev:Operand->Value} (hg:∀x z,get x=some z->denV D ρ w z (ev x))
  {t:TypeId} {parts:Array (Nat×Operand)} {x:SV} (h:buildS P t parts.toList get=some x) (W:World) :
  ∃v,(Instr.build t (parts.map λ(i,x)=>(i,ev x))).run P W=.ok v W∧denV D ρ w x v:=by
 unfold buildS at h;split at h
 ·rename_i z ps hz hp
  obtain⟨it,zv,h1,h2,h3⟩:=Znq hz D ρ w;have hps:=Zgv hg hp;split at h
  ·rename_i n e hu
   split at h
   ·rename_i s hs
    obtain⟨m,hm,rfl⟩:=Yad.1 h;obtain⟨c,hc1,hc2⟩:=Zga _ hm h3 hps;obtain⟨ie,hie,rfl⟩:=Yad.1 hs;refine⟨.agg c,run_build W t _ c ?_,c.toList,Zs,hc2⟩;unfold Program.built;rw[h1,hu];dsimp only;rw[h2,hie];simpa using hc1
   ·cases h
  ·rename_i fields hu
   split at h
   ·rename_i places hpl
    obtain⟨m,hm,rfl⟩:=Yad.1 h;obtain⟨c,hc1,hc2⟩:=Zga _ hm h3 hps;refine⟨.agg c,run_build W t _ c ?_,c.toList,Zs,hc2⟩;unfold Program.built;rw[h1,hu];dsimp only;rw[h2,hpl];simpa using hc1
   ·cases h
  ·cases h
 ·cases h
end
end Go.Ex
namespace Go.Proofs.W
open Go.RowKit Go.Mono
theorem Zct {v:Value} {z:Int} (w:World) (h:LgV 600 w v z) :
  Calls Tryz.prog 239 #[v] w λe w'=>e=.returned (.bool true)∧Below w.heap.size w w':=by
 obtain⟨p,n,c,f,rfl,s1,d1,e1,l1⟩:=h;obtain⟨hc1,hn1,hx1⟩:=s1.opens;by_cases hn:n=0
 ·subst hn
  have hz:decide (z<0)=false:=decide_eq_false (by simp[vf]at e1;omega);rw[hz];clear hx1;go_enter Tryz.func239,Tryz.ntmps239
  go_wp2
  go_ret
  exact⟨rfl,Zad (Yae _ _) _⟩
 ·have hn':((n:Int)==0)=false:=by simp;omega
  generalize decide (z<0)=s at *;go_enter Tryz.func239,Tryz.ntmps239
  go_wp2
  refine Zbs λW hB hs b0=>?_;go_loopw [3] (λa wr=>∃i:Nat,i<=n∧a=.int .i64 (i:Int)∧wr=W) (λa _=>(n-intOf a).toNat)
  case atStart=>exact⟨0,Yat _,rfl,rfl⟩
  case round=>
   obtain⟨i,hi,rfl,hWe⟩:=hrel;obtain rfl:W=wr:=hWe.symm;have cb0:=b0.cell;have lb0:=b0.lt;have fb0:=b0.frozen;by_cases hin:i<n
   ·obtain⟨b,off,rfl,hb,hcell⟩:=hx1 Zo
    have a1:=(hB.cell (p:=⟨b,off+i,none⟩) hb).trans (hcell i hin);have hin':(i:Int)<n:=Zo;have f0:=d1.lo i hin;have f9:=d1.hi i hin;generalize f i=x at *;clear hcell hx1;go_wp2
    go_roundw
    case rel=>exact⟨i+1,Zo,Zs,trivial⟩
    case measure=>simp[intOf];omega
   ·obtain rfl:i=n:=by omega
    have hip:0<i:=Yck hn;clear e1;obtain⟨b,off,rfl,hb,hcell⟩:=hx1 hip;have a1:=(hB.cell (p:=⟨b,off+(i-1),none⟩) hb).trans (hcell (i-1) Zo);have ht:=d1.top Zo;obtain⟨k,rfl⟩:∃k,i=k+1:=⟨i-1,Zo⟩
    simp only[Ybf]at a1 ht;have ht2:(f k != 0)=true:=by simpa using ht
    generalize f k=x at *;have hk6:(k:Int)+1<=600:=Zo;clear hcell hx1;go_wp2
    go_ret
    exact⟨rfl,hB⟩
end Go.Proofs.W
namespace Go.Ex
open Go.RowKit Go.Mono
section
def capsOf (get:Operand->Option SV):List Operand->Option (List (Nat×Nat))
 | []=>some []
 | x :: r => match get x with
   | some (.a (.one (.ptr k o)))=>(capsOf get r).map ((k,o)::·)
   | _=>none
def realO (get:Operand->Option SV):Option Operand->Option (Option Value)
 | none=>some none
 | some x=>((get x).bind realV).map some
def cutS (len:Nat) (l h m:Option Value):Option (Nat×Nat):=
 match m,(match l with
  | none=>some 0
  | some (.int .i64 (.ofNat a))=>some a
  | _=>none),(match h with
  | none=>some len
  | some (.int .i64 (.ofNat b))=>some b
  | _=>none) with
 | none,some a,some b=>if a<b∧b<=len then some (a,b) else none
 | _,_,_=>none
def loO:Option Value->Option Nat
 | none=>some 0
 | some (.int .i64 (.ofNat a))=>some a
 | _=>none
def cut3 (len:Nat) (l h m:Option Value):Option (Nat×Nat×Nat):=
 match m,h,loO l with
 | some (.int .i64 (.ofNat c)),some (.int .i64 (.ofNat b)),some a=>if a<=b∧b<=c∧c<=len then some (a,b,c) else none
 | _,_,_=>none
def cut0 (len:Nat) (l h m:Option Value):Option Nat:=
 match m,loO l,(match h with
  | none=>some len
  | h=>loO h) with
 | none,some a,some b=>if a=b∧b<=len then some a else none
 | _,_,_=>none
def cutA (k off len s:Nat) (l h m:Option Value):Option SV:=
 match cutS len l h m with
 | some (a,b)=>some (.a (.one (.sli k (off+a*s) (b-a))))
 | none => match cut3 len l h m with
   | some (a,b,c)=>some (.a (.one (.slc k (if c=a then off else off+a*s) (b-a) (c-a))))
   | none => match cut0 len l h m with
     | some _=>some (.a (.one .emp))
     | none=>none
def sliceS (P:Program) (t:TypeId) (x:Option SV) (get:Operand->Option SV) (lo hi mx:Option Operand):Option SV:=
 match realO get lo,realO get hi,realO get mx with
 | some l, some h, some m => match x, P.underlying t with
   | some (.a (.one (.slc k off len cap))), some (.slice e) => match pureOf P (Instr.sliceBounds true len cap l h m), szOf P e with
     | some (a,b,c),some s=>some (.a (.one (.slc k (if c=a then off else off+a*s) (b-a) (c-a))))
     | _,_=>none
   | some (.a (.one (.ptr k off))), some (.array n e) => match pureOf P (Instr.sliceBounds false n n l h m), szOf P e with
     | some (a,b,c),some s=>some (.a (.one (.slc k (if c=a then off else off+a*s) (b-a) (c-a))))
     | _,_=>none
   | some (.a (.one (.own k len _))), some (.slice e) => match szOf P e with
     | some s=>cutA k 0 len s l h m
     | _=>none
   | some (.a (.one (.sli k off len))), some (.slice e) => match szOf P e with
     | some s=>cutA k off len s l h m
     | _=>none
   | some (.a (.one .emp)), some (.slice e) => match szOf P e, cut0 0 l h m with
     | some _,some _=>some (.a (.one .emp))
     | _,_=>none
   | some (.a (.one (.slx k off len _))), some (.slice e) => match szOf P e, h with
     | some s,some _=>cutA k off len s l h m
     | _,_=>none
   | _,_=>none
 | _,_,_=>none
def lenS (P:Program) (c:Call) (get:Operand->Option SV):Option SV:=
 match c.callee,c.args.toList,c.argTypes.toList with
 | .builtin .len, [x], [t] => match get x, P.underlying t with
   | some (.a (.one (.slc _ _ n _))),some (.slice _)=>some (.a (.one (.val (goInt n))))
   | some (.a (.one (.sli _ _ n))),some (.slice _)=>some (.a (.one (.val (goInt n))))
   | some (.a (.one (.own _ n _))),some (.slice _)=>some (.a (.one (.val (goInt n))))
   | some (.a (.one .emp)),some (.slice _)=>some (.a (.one (.val (goInt (0:Nat)))))
   | some (.a (.one (.slx _ _ _ n))),some (.slice _)=>some (.a (.one (.sym n)))
   | some (.a (.one (.raw 1 [.slice _ n _]))),some (.slice _)=>some (.a (.one (.val (goInt n))))
   | _,_=>none
 | .builtin .cap, [x], [t] => match get x, P.underlying t with
   | some (.a (.one (.slc _ _ _ c))),some (.slice _)=>some (.a (.one (.val (goInt c))))
   | _,_=>none
 | _,_,_=>none
def loadS (P:Program) (t:TypeId) (x:Option SV) (bk:List (Nat×Blk)):Option SV:=
 match x with
 | some (.a (.one (.ptr k off))) => match bk.look k with
   | some b=>if b.dead then none else partS P t b.cells off
   | none=>none
 | _=>none
def isSelect:Op->Bool
 | .select ..=>true
 | _=>false
def realOp (P:Program) (o:Oper) (get:Operand->Option SV):Option SV:=
 if !isSelect o.op&&o.op.operands.toList.all (λx=>((get x).bind realV).isSome) then
  match pureOf P (execOp (λx=>((get x).bind realV).getD undef) o) with
  | some (.value v)=>ofVal v
  | _=>none
 else none
def bndOf (f:FuncId) (s:SA):Option SV:=
 match s.weak with
 | .one u=>some (.a (.one (.bnd f false [u])))
 | .agg l=>some (.a (.one (.bnd f true l)))
theorem Zt8 {D:Den} {ρ:Nm} {w:World} {f:FuncId} {s:SA} {r:SV} {v:Value} (h:bndOf f s=some r) (hv:denA D ρ w s v):denV D ρ w r (.func (.func f) #[v] #[]):=by
 unfold bndOf at h;have:=hv.weak;split at h
 ·rename_i u e
  cases h;rw[e]at this;exact⟨v,rfl,this⟩
 ·rename_i l e
  cases h;rw[e]at this;exact⟨v,rfl,this⟩
def evPure (P:Program) (o:Oper) (get:Operand->Option SV) (bk:List (Nat×Blk)):Option SV:=
 match o.op with
 | .move x=>get x
 | .assign x=>get x
 | .makeFunc (.func f) first caps => if first.isEmpty then (capsOf get caps.toList).map λl => .a (.one (.clo f l)) else (match first.toList, caps.toList with
   | [x], [] => match get x with
     | some (.a s)=>bndOf f s
     | _=>none
   | _,_=>none)
 | .fieldAddr s x f=>fieldAddrS P s (get x) f
 | .indexAddr t x ix => match indexAddrS P t (get x) (get ix) with
   | some r=>some r
   | none=>realOp P o get
 | .field t x f => match fieldS P t (get x) f with
   | some r=>some r
   | none=>realOp P o get
 | .index t x ix => match indexS P t (get x) (get ix) with
   | some r=>some r
   | none=>realOp P o get
 | .extract x i => match get x with
   | some (.tup l)=>(l[i]?).map .a
   | _=>none
 | .nilCheck x => match get x with
   | some (.a (.one (.ptr k off)))=>some (.a (.one (.ptr k off)))
   | some (.a (.one (.clo f l)))=>some (.a (.one (.clo f l)))
   | some (.a (.one (.bnd f g l)))=>some (.a (.one (.bnd f g l)))
   | _=>realOp P o get
 | .build t parts=>buildS P t parts.toList get
 | .load t x=>loadS P t (get x) bk
 | .slice t x lo hi mx => match sliceS P t (get x) get lo hi mx with
   | some r=>some r
   | none=>realOp P o get
 | .call c => match lenS P c get with
   | some r=>some r
   | none=>realOp P o get
 | _=>realOp P o get
section
variable {D:Den} {P:Program} {ρ:Nm} {wc w:World} {get:Operand->Option SV} {ev:Operand->Value}
theorem Zkm (hg:∀x z,get x=some z->denV D ρ wc z (ev x)):∀{l:List Operand} {c:List (Nat×Nat)},capsOf get l=some c->adrs ρ c (l.map ev)
 | [],c,h=>by cases h;rfl
 | x :: r, c, h => by
   unfold capsOf at h;split at h
   ·rename_i k o hx
    obtain⟨q,hq,rfl⟩:=Yad.1 h;obtain⟨B,hB,e⟩:=hg _ _ hx;exact⟨B,_,hB,by rw[Ybz,show ev x=_ from by simpa using e],Zkm hg hq⟩
   ·cases h
theorem Zi6 (hg:∀x z,get x=some z->denV D ρ wc z (ev x)) {x:Option Operand} {l:Option Value} (h:realO get x=some l):l=x.map ev:=by
 cases x with
 | none=>cases h;rfl
 | some x =>
   unfold realO at h;obtain⟨v,hv,rfl⟩:=Yad.1 h;obtain⟨z,hz,hr⟩:=Ybg.1 hv;rw[Yfx,Zgu hr (hg _ _ hz)]
theorem Zx0 (B off a c s:Nat):(if c=a then(⟨B,off,none⟩:Addr) else(⟨B,off,none⟩:Addr).add (a*s))=⟨B,if c=a then off else off+a*s,none⟩:=by
 split
 ·rfl
 ·rw[Yem]
theorem Zv5 {len cap:Nat} {l h m:Option Value} {a b:Nat} (e:cutS len l h m=some (a,b)) (hc:len<=cap) :
  (Instr.sliceBounds true len cap l h m).run P w=.ok (a,b,cap) w∧a<b∧b<=len:=by
 unfold cutS at e;split at e
 ·rename_i a' b' hl hh
  split at e
  ·rename_i hab
   obtain⟨rfl,rfl⟩:a'=a∧b'=b:=by simpa using e
   refine⟨?_,hab⟩;have hl0:(l=none∧a'=0)∨l=some (.int .i64 (Int.ofNat a')):=by
    split at hl
    ·cases hl;simp
    ·cases hl;simp
    ·cases hl
   have hhigh:(h=none∧b'=len)∨h=some (.int .i64 (Int.ofNat b')):=by
    split at hh
    ·cases hh;simp
    ·cases hh;simp
    ·cases hh
   have n1:a'<=b':=Zo;have n2:b'<=cap:=Zo;unfold Instr.sliceBounds;rcases hl0 with ⟨rfl,rfl⟩|rfl<;>rcases hhigh with ⟨rfl,rfl⟩|rfl<;>simp[Instr.sliceBound,asIntOf,n1,n2]
  ·cases e
 ·cases e
theorem Zqw {l:Option Value} {a:Nat} (h:loO l=some a):(l=none∧a=0)∨l=some (.int .i64 (Int.ofNat a)):=by
 unfold loO at h;split at h
 ·cases h;simp
 ·cases h;simp
 ·cases h
theorem Zv6 {len cap:Nat} {l h m:Option Value} {a b c:Nat} (e:cut3 len l h m=some (a,b,c)) (hc:len<=cap) :
  (Instr.sliceBounds true len cap l h m).run P w=.ok (a,b,c) w:=by
 unfold cut3 at e;split at e
 ·rename_i c' b' a' hl
  split at e
  ·rename_i hab
   obtain⟨rfl,rfl,rfl⟩:a'=a∧b'=b∧c'=c:=by simpa using e
   obtain⟨n1,n2,n3⟩:=hab;have n4:c'<=cap:=Zo;unfold Instr.sliceBounds;rcases Zqw hl with ⟨rfl,rfl⟩|rfl<;>simp[Instr.sliceBound,asIntOf,n1,n2,n4]
  ·cases e
 ·cases e
theorem Zqx {len cap:Nat} {l h m:Option Value} {a:Nat} (e:cut0 len l h m=some a) (hc:len<=cap) :
  (Instr.sliceBounds true len cap l h m).run P w=.ok (a,a,cap) w:=by
 unfold cut0 at e;split at e
 ·rename_i a' b' hl hh
  split at e
  ·rename_i hab
   obtain rfl:a'=a:=by simpa using e
   obtain⟨rfl,n2⟩:=hab;have n4:a'<=cap:=Zo;have hhigh:(h=none∧a'=len)∨h=some (.int .i64 (Int.ofNat a')):=by
    split at hh
    ·cases hh;simp
    ·rename_i hne
     rcases Zqw hh with ⟨h1,h2⟩|h1
     ·exact absurd h1 (by simpa using hne)
     ·exact .inr h1
   unfold Instr.sliceBounds;rcases Zqw hl with ⟨rfl,rfl⟩|rfl<;>rcases hhigh with ⟨rfl,rfl⟩|rfl<;>simp[Instr.sliceBound,asIntOf,n4]
  ·cases e
 ·cases e
theorem Zma {k off len s cp:Nat} {l h' m:Option Value} {r:SV} (h:cutA k off len s l h' m=some r) {B:Pl} (hB:ρ k=some B) (h1:len<=cp) {t e:TypeId} (hu:P.underlying t=some (.slice e)) (hs:szOf P e=some s) :
  ∃v,(Instr.sliceAt t (.slice (some ⟨B.blk,B.base+off,none⟩) len cp) l h' m).run P w=.ok v w∧denV D ρ wc r v:=by
 have go:∀{a b c:Nat},(Instr.sliceBounds true len cp l h' m).run P w=.ok (a,b,c) w->(Instr.sliceAt t (.slice (some ⟨B.blk,B.base+off,none⟩) len cp) l h' m).run P w=.ok (.slice (some ⟨B.blk,B.base+(if c=a then off else off+a*s),none⟩) (b-a) (c-a)) w:=by
  intro a b c g1;unfold Instr.sliceAt;simp only[Yar,run_underlying hu,Yag];unfold Instr.slice;simp only[Yar,run_underlying hu,Yag,g1,Zcl hs,Yau];congr 2
  split<;>simp[Yem,Ybj]
 unfold cutA at h;split at h
 ·rename_i a b hb
  cases h;obtain⟨g1,g2,g3⟩:=Zv5 (P:=P) (w:=w) hb h1;refine⟨_,go g1,B,cp-a,hB,Zo,?_⟩;rw[if_neg Zo]
 ·split at h
  ·rename_i a b c hb
   cases h;exact⟨_,go (Zv6 hb h1),B,hB,rfl⟩
  ·split at h
   ·rename_i a hb
    cases h;exact⟨_,go (Zqx hb h1),some ⟨B.blk,B.base+(if cp=a then off else off+a*s),none⟩,cp-a,λhh=>(by cases hh),by rw[Ydt]⟩
   ·cases h
theorem Zqy (hg:∀x z,get x=some z->denV D ρ wc z (ev x)) {t:TypeId} {x:Operand} {lo hi mx:Option Operand} {r:SV} (h:sliceS P t (get x) get lo hi mx=some r) :
  ∃v,(Instr.sliceAt t (ev x) (lo.map ev) (hi.map ev) (mx.map ev)).run P w=.ok v w∧denV D ρ wc r v:=by
 unfold sliceS at h;split at h
 ·rename_i l h' m hl hh hm
  rw[<-Zi6 hg hl,<-Zi6 hg hh,<-Zi6 hg hm];split at h
  ·rename_i k off len cap e hx hu
   split at h
   ·rename_i a b c s hb hs
    cases h;obtain⟨B,hB,e1⟩:=hg _ _ hx;rw[show ev x=_ from by simpa using e1];refine⟨.slice (some ⟨B.blk,B.base+(if c=a then off else off+a*s),none⟩) (b-a) (c-a),?_,B,hB,rfl⟩;unfold Instr.sliceAt;simp only[Yar,run_underlying hu,Yag];unfold Instr.slice;simp only[Yar,run_underlying hu,Yag,Zdc hb,Zcl hs,Yau];congr 2
    split<;>simp[Yem,Ybj]
   ·cases h
  ·rename_i k off n e hx hu
   split at h
   ·rename_i a b c s hb hs
    cases h;obtain⟨B,hB,e1⟩:=hg _ _ hx;rw[show ev x=_ from by simpa using e1];refine⟨.slice (some ⟨B.blk,B.base+(if c=a then off else off+a*s),none⟩) (b-a) (c-a),?_,B,hB,rfl⟩;unfold Instr.sliceAt;simp only[Yar,run_underlying hu,Yag,Instr.sureAddr,Zdc hb,Zcl hs,Yau];rw[Zx0];congr 2
    split<;>simp[Ybj]
   ·cases h
  ·rename_i k len sz e hx hu
   split at h
   ·rename_i s hs
    obtain⟨B,hB,h1,h2,h3,e1⟩:=hg _ _ hx;rw[show ev x=_ from by simpa using e1];have:=Zma (D:=D) (P:=P) (w:=w) (wc:=wc) (ρ:=ρ) h hB h1 hu hs;rwa [h3,Yba]at this
   ·cases h
  ·rename_i k off len e hx hu
   split at h
   ·rename_i s hs
    obtain⟨B,cp,hB,h1,e1⟩:=hg _ _ hx;rw[show ev x=_ from by simpa using e1];exact Zma h hB h1 hu hs
   ·cases h
  ·rename_i e hx hu
   split at h
   ·rename_i s a hs hb
    cases h;obtain⟨p,c,hp,e1⟩:=hg _ _ hx;rw[show ev x=_ from by simpa using e1];refine⟨.slice (if c=a then p else p.map (·.add (a*s))) (a-a) (c-a),?_,(if c=a then p else p.map (·.add (a*s))),c-a,λhh=>?_,by rw[Ydt]⟩
    ·unfold Instr.sliceAt
     simp only[Yar,run_underlying hu,Yag];unfold Instr.slice;simp only[Yar,run_underlying hu,Yag,Zqx (P:=P) (w:=w) hb (Yat c),Zcl hs,Yau]
    ·split at hh
     ·omega
     ·have:p=none:=by cases p with
       | none=>rfl
       | some q=>cases hh
      rw[hp this];omega
   ·cases h
  ·rename_i k off len n e hx hu
   split at h
   ·rename_i s b hs
    obtain⟨B,cp,hB,h0,h1,e1⟩:=hg _ _ hx;rw[show ev x=_ from by simpa using e1];have hh:∀{l m:Option Value} {r:SV},cutA k off len s l (some b) m=some r->(Instr.sliceAt t (.slice (some ⟨B.blk,B.base+off,none⟩) n cp) l (some b) m).run P w=(Instr.sliceAt t (.slice (some ⟨B.blk,B.base+off,none⟩) len cp) l (some b) m).run P w:=by
     intro l m r _;unfold Instr.sliceAt;simp only[Yar,run_underlying hu,Yag];unfold Instr.slice;simp only[Yar,run_underlying hu,Yag];cases m<;>rfl
    rw[hh h];exact Zma h hB Zo hu hs
   ·cases h
  ·cases h
 ·cases h
theorem Zcv (hg:∀x z,get x=some z->denV D ρ wc z (ev x)) {o:Oper} {r:SV} (h:realOp P o get=some r) :
  ∃v,(execOp ev o).run P w=.ok (.value v) w∧denV D ρ wc r v:=by
 unfold realOp at h;split at h
 ·rename_i hc
  rw[Yam]at hc;split at h
  ·rename_i v hv
   refine⟨v,?_,Zkj h⟩;rw[execOp_congr (ρ:=ev) (ρ':=λx=>((get x).bind realV).getD undef) o (λcs b he=>by rw[he]at hc;simp[isSelect]at hc) (λx hx=>by
    have:=Ybn.1 hc.2 x (by simpa using hx);obtain⟨y,hy⟩:=Yct.1 this;obtain⟨z,hz,hr⟩:=Ybg.1 hy;rw[hy,Option.getD_some,Zgu hr (hg _ _ hz)])]
   exact Zdc hv w
  ·cases h
 ·cases h
theorem Zi7 (hg:∀x z,get x=some z->denV D ρ wc z (ev x)) {s f:Nat} {x:Operand} {r:SV} (h:fieldAddrS P s (get x) f=some r) :
  ∃v,(Instr.fieldAt s (ev x) f).run P w=.ok v w∧denV D ρ wc r v:=by
 unfold fieldAddrS at h;split at h
 ·rename_i k off hx
  split at h
  ·rename_i fs hu
   split at h
   ·rename_i fl hf
    split at h
    ·rename_i n hz
     cases h;obtain⟨B,hB,e1⟩:=hg _ _ hx;rw[show ev x=_ from by simpa using e1];exact⟨.pointer (some ⟨B.blk,B.base+(off+fl.offset),none⟩),by rw[<-Ybj];exact Zkk hu hf hz,B,hB,rfl⟩
    ·cases h
   ·cases h
  ·cases h
 ·cases h
theorem Zd9 {X I:Option SV} {vx vi:Value} (hX:∀s,X=some s->denV D ρ wc s vx) (hI:∀s,I=some s->denV D ρ wc s vi) {t:Nat} {r:SV} (h:indexAddrS P t X I=some r) :
  ∃v,(Instr.indexAt t vx vi).run P w=.ok v w∧denV D ρ wc r v:=by
 unfold indexAddrS at h;split at h
 ·rename_i k off kd i
  split at h
  ·rename_i n e hu
   split at h
   ·rename_i s hz
    split at h
    ·rename_i hb
     cases h;obtain⟨B,hB,e1⟩:=hX _ rfl;rw[show vx=_ from by simpa using e1,show vi=_ from by simpa using(hI _ rfl).1];exact⟨.pointer (some ⟨B.blk,B.base+(off+i.toNat*s),none⟩),by rw[<-Ybj];exact Zi5 hu hz hb,B,hB,rfl⟩
    ·cases h
   ·cases h
  ·cases h
 ·rename_i k off len cap kd i
  split at h
  ·rename_i e hu
   split at h
   ·rename_i s hz
    split at h
    ·rename_i hb
     cases h;obtain⟨B,hB,e1⟩:=hX _ rfl;rw[show vx=_ from by simpa using e1,show vi=_ from by simpa using(hI _ rfl).1];exact⟨.pointer (some ⟨B.blk,B.base+(off+i.toNat*s),none⟩),by rw[<-Ybj];exact Zcm hu hz hb,B,hB,rfl⟩
    ·cases h
   ·cases h
  ·cases h
 ·rename_i k off len kd i
  split at h
  ·rename_i e hu
   split at h
   ·rename_i s hz
    split at h
    ·rename_i hb
     cases h;obtain⟨B,c,hB,hc,e1⟩:=hX _ rfl;rw[show vx=_ from by simpa using e1,show vi=_ from by simpa using(hI _ rfl).1];exact⟨.pointer (some ⟨B.blk,B.base+(off+i.toNat*s),none⟩),by rw[<-Ybj];exact Zcm hu hz hb,B,hB,rfl⟩
    ·cases h
   ·cases h
  ·cases h
 ·rename_i k len sz kd i
  split at h
  ·rename_i e hu
   split at h
   ·rename_i s hz
    split at h
    ·rename_i hb
     cases h;obtain⟨B,hB,h1,h2,h3,e1⟩:=hX _ rfl;rw[show vx=_ from by simpa using e1,show vi=_ from by simpa using(hI _ rfl).1];refine⟨.pointer (some ⟨B.blk,B.base+i.toNat*s,none⟩),?_,B,hB,rfl⟩;rw[h3,Zcm hu hz hb]
    ·cases h
   ·cases h
  ·cases h
 ·rename_i k off m n kd i
  split at h
  ·rename_i e hu
   split at h
   ·rename_i s hz
    split at h
    ·rename_i hb
     cases h;obtain⟨B,c,hB,hm,hc,e1⟩:=hX _ rfl;rw[show vx=_ from by simpa using e1,show vi=_ from by simpa using(hI _ rfl).1];exact⟨.pointer (some ⟨B.blk,B.base+(off+i.toNat*s),none⟩),by rw[<-Ybj];exact Zcm hu hz ⟨hb.1,Zo⟩,B,hB,rfl⟩
    ·cases h
   ·cases h
  ·cases h
 ·cases h
theorem Zi8 (hg:∀x z,get x=some z->denV D ρ wc z (ev x)) {t:Nat} {x ix:Operand} {r:SV} (h:indexAddrS P t (get x) (get ix)=some r) :
  ∃v,(Instr.indexAt t (ev x) (ev ix)).run P w=.ok v w∧denV D ρ wc r v:=Zd9 (hg x) (hg ix) h
theorem Zqz (hg:∀x z,get x=some z->denV D ρ wc z (ev x)) {s f:Nat} {x:Operand} {r:SV} (h:fieldS P s (get x) f=some r) :
  ∃v,(Instr.field s (ev x) f).run P w=.ok v w∧denV D ρ wc r v:=by
 unfold fieldS at h;split at h
 ·rename_i l hx
  split at h
  ·rename_i fs hu
   split at h
   ·rename_i fl hf
    obtain⟨cs,e,hl⟩:=hg _ _ hx;obtain⟨v,h1,h2⟩:=Znp (P:=P) (w:=w) h hl;refine⟨v,?_,h2⟩;rw[e];unfold Instr.field;simp only[Yar,run_underlying hu,Yag,hf,asAgg,Yau,h1]
   ·cases h
  ·cases h
 ·cases h
theorem Zii {X I:Option SV} {vx vi:Value} (hX:∀s,X=some s->denV D ρ wc s vx) (hI:∀s,I=some s->denV D ρ wc s vi) {t:Nat} {r:SV} (h:indexS P t X I=some r) :
  ∃v,(Instr.index t vx vi).run P w=.ok v w∧denV D ρ wc r v:=by
 unfold indexS at h;split at h
 ·rename_i l kd i
  split at h
  ·rename_i n e hu
   split at h
   ·rename_i s hz
    split at h
    ·rename_i hb
     obtain⟨cs,e1,hl⟩:=hX _ rfl;obtain⟨v,h1,h2⟩:=Znp (P:=P) (w:=w) h hl;refine⟨v,?_,h2⟩;rw[e1,show vi=_ from by simpa using(hI _ rfl).1];unfold Instr.index;simp only[Yar,asIntOf,run_underlying hu,Yag,Yau,if_pos hb,Zcl hz,h1]
    ·cases h
   ·cases h
  ·cases h
 ·cases h
theorem Zq0 (hg:∀x z,get x=some z->denV D ρ wc z (ev x)) {t:Nat} {x ix:Operand} {r:SV} (h:indexS P t (get x) (get ix)=some r) :
  ∃v,(Instr.index t (ev x) (ev ix)).run P w=.ok v w∧denV D ρ wc r v:=Zii (hg x) (hg ix) h
theorem Zkn:∀{l:List SA} {vs:List Value} {i:Nat} {x:SA},denAs D ρ w l vs->l[i]? = some x->∃v,vs[i]? = some v∧denA D ρ w x v
 | [],vs,i,x,h,hx=>by simp at hx
 | y :: l, vs, i, x, ⟨v, r, e, hv, hr⟩, hx => by
   subst e;cases i with
   | zero=>simp at hx;subst hx;exact⟨v,Zs,hv⟩
   | succ i=>simp at hx;simpa using Zkn hr hx
end
end
end Go.Ex
namespace Go.Mono
def isLetter (z:Int):Prop:=(65<=z∧z<=90)∨(97<=z∧z<=122)∨(48<=z∧z<=57)∨z=45∨z=95
end Go.Mono
namespace Go.Proofs.W
open Go.RowKit Go.Mono
theorem Zri (z:Int) (h:isLetter z) (w:World) :
  Calls Tryz.prog 278 #[.int .u8 z] w λe w'=>e=.returned (.bool true)∧w'=w:=by
 rcases h with ⟨h1,h2⟩|⟨h1,h2⟩|⟨h1,h2⟩|rfl|rfl
 ·go_enter Tryz.func278,Tryz.ntmps278
  go_wp2
  go_ret
  exact⟨rfl,rfl⟩
 ·have h3:65<=z:=by omega
  have h4:¬(z<=90):=Zo;go_enter Tryz.func278,Tryz.ntmps278
  go_wp2
  go_ret
  exact⟨rfl,rfl⟩
 ·have h3:¬(65<=z):=by omega
  have h4:¬(97<=z):=Zo;go_enter Tryz.func278,Tryz.ntmps278
  go_wp2
  go_ret
  exact⟨rfl,rfl⟩
 ·go_enter Tryz.func278,Tryz.ntmps278
  go_wp2
  go_ret
  exact⟨rfl,rfl⟩
 ·go_enter Tryz.func278,Tryz.ntmps278
  go_wp2
  go_ret
  exact⟨rfl,rfl⟩
theorem Zrj (s:ByteArray) (h0:1<=s.size) (h1:s.size<=16) (hl:∀i (hi:i<s.size),isLetter (s[i].toNat:Int)) (w:World) :
  Calls Tryz.prog 256 #[.string s] w λe w'=>e=.returned (.bool true)∧w'=w:=by
 go_enter Tryz.func256,Tryz.ntmps256
 go_wp2
 go_loopw [6] (λa wr=>∃k:Nat,k<=s.size∧a=.int .i64 (k:Int)∧wr=w) (λa _=>(s.size-intOf a).toNat)
 case atStart=>exact⟨0,Yat _,rfl,rfl⟩
 case round=>
  obtain⟨k,hk,rfl,rfl⟩:=hrel;by_cases hks:k<s.size
  ·have hlk:=Zri _ (hl k hks) wr
   have h0':(k:Int)<s.size:=Zo;have hg:s.data[k]? = some s[k]:=by
    rw[Yby (by exact hks)];rfl
   clear hl;go_wp2_with (go_at_call 278;refine hlk.mono ?_;rintro e w' ⟨rfl,rfl⟩)
   go_roundw
   case rel=>refine⟨k+1,Zo,?_⟩;simp
   case measure=>simp[intOf];omega
  ·obtain rfl:k=s.size:=by omega
   have h0':(1:Int)<=s.size:=Zo;have h1':(s.size:Int)<=16:=Zo;go_wp2
   go_ret
   exact⟨rfl,rfl⟩
end Go.Proofs.W
namespace Go.Ex
open Go.RowKit Go.Mono
section
section
variable {D:Den} {P:Program} {ρ:Nm} {wc w:World} {get:Operand->Option SV} {ev:Operand->Value}
theorem Zq1 {t:TypeId} {l:List U} {off:Nat} {x:SV} {cs:List Value} (h:partS P t l off=some x) (hl:denL D ρ wc l cs) :
  (∃n m,rowT P t=some true∧szOf P t=some n∧x=.a (.agg m)∧denL D ρ wc m ((cs.drop off).take n)∧((cs.drop off).take n).length=n)∨
  (∃u v,rowT P t=some false∧x=.a (.one u)∧cs[off]? = some v∧denU D ρ wc u [v]):=by
 unfold partS at h;split at h
 ·rename_i n hr hz
  obtain⟨m,hm,rfl⟩:=Yad.1 h;obtain⟨h1,h2⟩:=Zf8 hm hl;exact .inl ⟨n,m,hr,hz,rfl,h1,h2⟩
 ·rename_i n hr hz
  split at h
  ·rename_i u hu
   cases h;obtain⟨h1,h2⟩:=Zf8 hu hl;obtain⟨c,d,e,hc,hd⟩:=h1;obtain rfl:d=[]:=hd;rw[Ydg]at e;rw[e]at h2;obtain⟨v,rfl⟩:∃v,c=[v]:=Ydr.1 h2;refine .inr ⟨u,v,hr,rfl,?_,hc⟩;have:=congrArg (·[0]?) e;simpa using this
  ·cases h
 ·cases h
def Holds (w:World) (p:Pl) (T:TypeId) (sp:Bool) (cs:List Value):Prop:=
 (p.ro=true∧w.rangeAt p.blk p.base cs)∨(p.ro=false∧p.base=0∧∃rest,(sp=false->rest=[])∧(sp=true->(cs++rest).length=p.tot)∧Box w p.blk T (cs++rest).toArray)
theorem Holds.cell {w:World} {p:Pl} {T:TypeId} {sp:Bool} {cs:List Value} (h:Holds w p T sp cs) {i:Nat} {v:Value} (hi:cs[i]? = some v):w.cell? ⟨p.blk,p.base+i,none⟩=some v:=by
 rcases h with ⟨_,h⟩|⟨_,h0,rest,_,_,h⟩
 ·exact h i v hi
 ·rw[h0,Yba,h.cell]
  have:=(Yan.1 hi).1;simpa[Ybb this]using hi
theorem Zes {w w':World} {B:Nat} (h:w'.heap[B]? = w.heap[B]?) (o:Nat):w'.cell? ⟨B,o,none⟩=w.cell? ⟨B,o,none⟩:=by
 simp only[World.cell?,h]
theorem Holds.of_block {w w':World} {p:Pl} {T:TypeId} {sp:Bool} {cs:List Value} (h:Holds w p T sp cs) (hb:w'.heap[p.blk]? = w.heap[p.blk]?):Holds w' p T sp cs:=by
 rcases h with ⟨h1,h⟩|⟨h1,h0,rest,h2,h3,h⟩
 ·exact .inl ⟨h1,λj v hj=>(Zes hb _).trans (h j v hj)⟩
 ·exact .inr ⟨h1,h0,rest,h2,h3,⟨hb.trans h.blk⟩⟩
def BkOk (D:Den) (ρ:Nm) (wc w:World) (bk:List (Nat×Blk)):Prop:=
 ∀k b,bk.look k=some b->b.dead=false->∃B cs,ρ k=some B∧Holds w B b.T b.sp cs∧denL D ρ wc b.cells cs∧B.ro=b.ro
theorem Znr (hg:∀x z,get x=some z->denV D ρ wc z (ev x)) {bk:List (Nat×Blk)} (hb:BkOk D ρ wc w bk) {t:TypeId} {x:Operand} {r:SV} (h:loadS P t (get x) bk=some r) :
  ∃v,(Instr.loadAt t (ev x)).run P w=.ok v w∧denV D ρ wc r v:=by
 unfold loadS at h;split at h
 ·rename_i k off hx
  split at h
  ·rename_i b hk
   split at h
   ·cases h
   rename_i hdd;obtain⟨B,cs,hB,bx,hl,_⟩:=hb k b hk (by simpa using hdd);obtain⟨B',hB',e⟩:=hg _ _ hx;cases hB.symm.trans hB';rw[show ev x=_ from by simpa using e];rcases Zq1 h hl with ⟨n,m,hr,hz,rfl,h1,h2⟩|⟨u,v,hr,rfl,hv,hu⟩
   ·refine⟨.agg ((cs.drop off).take n).toArray,?_,_,rfl,h1⟩
    obtain⟨d,hd,hd'⟩:=Yad.1 hr;refine run_loadAt_mid w B.blk (B.base+off) t _ d ?_ hd hd' (by rw[h2];exact hz);intro j v hj;rw[Ybj];refine bx.cell ?_;have hjl:j<n:=by
     have:=(Yan.1 hj).1;omega
    rw[Ycv,if_pos hjl,Yeh]at hj;simpa using hj
   ·refine⟨v,?_,hu⟩
    unfold Instr.loadAt loadVar;simp only[Yar,Instr.sureAddr,Yau,Yag,Zf9 hr,Ybq,if_false];rw[run_load,bx.cell hv]
  ·cases h
 ·cases h
theorem Zv7 (hg:∀x z,get x=some z->denV D ρ wc z (ev x)) {o:Oper} {c:Call} (ho:o.op=.call c) {r:SV} (h:lenS P c get=some r) :
  ∃v,(execOp ev o).run P w=.ok (.value v) w∧denV D ρ wc r v:=by
 obtain⟨cal,⟨args⟩,⟨ts⟩⟩:=c;unfold lenS at h;dsimp only at h;split at h
 ·rename_i x t
  split at h
  ·rename_i k off n cp e hx hu
   cases h;obtain⟨B,hB,e1⟩:=hg _ _ hx;have e2:ev x=.slice (some ⟨B.blk,B.base+off,none⟩) n cp:=by simpa using e1
   refine⟨goInt n,?_,rfl,rfl⟩;unfold execOp;simp only[ho,resolve,Yar,Yau,Yag,invoke,builtin,Builtin.len_];simp[e2,run_underlying hu]
  ·rename_i k off n e hx hu
   cases h;obtain⟨B,cp,hB,hc,e1⟩:=hg _ _ hx;have e2:ev x=.slice (some ⟨B.blk,B.base+off,none⟩) n cp:=by simpa using e1
   refine⟨goInt n,?_,rfl,rfl⟩;unfold execOp;simp only[ho,resolve,Yar,Yau,Yag,invoke,builtin,Builtin.len_];simp[e2,run_underlying hu]
  ·rename_i k n sz e hx hu
   cases h;obtain⟨B,hB,h1,h2,h3,e1⟩:=hg _ _ hx;have e2:ev x=.slice (some ⟨B.blk,0,none⟩) n B.cap:=by simpa using e1
   refine⟨goInt n,?_,rfl,rfl⟩;unfold execOp;simp only[ho,resolve,Yar,Yau,Yag,invoke,builtin,Builtin.len_];simp[e2,run_underlying hu]
  ·rename_i e hx hu
   cases h;obtain⟨p,cp,hp,e1⟩:=hg _ _ hx;have e2:ev x=.slice p 0 cp:=by simpa using e1
   refine⟨goInt (0:Nat),?_,rfl,rfl⟩;unfold execOp;simp only[ho,resolve,Yar,Yau,Yag,invoke,builtin,Builtin.len_];simp[e2,run_underlying hu]
  ·rename_i k off m n e hx hu
   cases h;obtain⟨B,cp,hB,h0,hc,e1⟩:=hg _ _ hx;have e2:ev x=.slice (some ⟨B.blk,B.base+off,none⟩) n cp:=by simpa using e1
   refine⟨goInt n,?_,rfl⟩;unfold execOp;simp only[ho,resolve,Yar,Yau,Yag,invoke,builtin,Builtin.len_];simp[e2,run_underlying hu]
  ·rename_i p n c e hx hu
   cases h;have e2:ev x=.slice p n c:=by
    have:=hg _ _ hx;simp[denV,denA,denU]at this;exact this.1
   refine⟨goInt n,?_,rfl,rfl⟩;unfold execOp;simp only[ho,resolve,Yar,Yau,Yag,invoke,builtin,Builtin.len_];simp[e2,run_underlying hu]
  ·cases h
 ·rename_i x t
  split at h
  ·rename_i k off n cp e hx hu
   cases h;obtain⟨B,hB,e1⟩:=hg _ _ hx;have e2:ev x=.slice (some ⟨B.blk,B.base+off,none⟩) n cp:=by simpa using e1
   refine⟨goInt cp,?_,rfl,rfl⟩;unfold execOp;simp only[ho,resolve,Yar,Yau,Yag,invoke,builtin,Builtin.cap_];simp[e2,run_underlying hu]
  ·cases h
 ·cases h
theorem Zko (hg:∀x z,get x=some z->denV D ρ wc z (ev x)) {bk:List (Nat×Blk)} (hb:BkOk D ρ wc w bk) {o:Oper} {r:SV} (h:evPure P o get bk=some r) :
  ∃v,(execOp ev o).run P w=.ok (.value v) w∧denV D ρ wc r v:=by
 have viaV:∀{s:Sem Value},(∃v,s.run P w=.ok v w∧denV D ρ wc r v)->∃v,(do pure (Next.value (<-s)):Sem Next).run P w=.ok (.value v) w∧denV D ρ wc r v:=by
  rintro s ⟨v,h1,h2⟩;exact⟨v,by simp only[Yar,h1,Yag,Yau],h2⟩
 unfold evPure at h;split at h
 ·rename_i x ho
  exact⟨ev x,by unfold execOp;rw[ho];rfl,hg _ _ h⟩
 ·rename_i x ho
  exact⟨ev x,by unfold execOp;rw[ho];rfl,hg _ _ h⟩
 ·rename_i f first caps ho
  split at h
  ·rename_i hf
   obtain⟨l,hl,rfl⟩:=Yad.1 h;have hc:=Zkm hg hl;have hfe:first = #[]:=Array.isEmpty_iff.1 hf
   subst hfe;refine⟨.func (.func f) #[] (caps.map ev),by unfold execOp;simp[ho,Instr.makeFunc],_,hc,?_⟩;congr 2
   apply Yee.1;simp
  ·split at h
   ·rename_i x hx hc
    split at h
    ·rename_i s hs
     obtain⟨fl⟩:=first
     obtain⟨cl⟩:=caps;obtain rfl:fl=[x]:=hx;obtain rfl:cl=[]:=hc;exact⟨.func (.func f) #[ev x] #[],by unfold execOp;simp[ho,Instr.makeFunc],Zt8 h (hg _ _ hs)⟩
    ·cases h
   ·cases h
 ·rename_i s x f ho
  unfold execOp;rw[ho];exact viaV (Zi7 hg h)
 ·rename_i t x ix ho
  split at h
  ·rename_i r' hr
   cases h;unfold execOp;rw[ho];exact viaV (Zi8 (x:=x) (ix:=ix) hg hr)
  ·exact Zcv hg h
 ·rename_i t x f ho
  split at h
  ·rename_i r' hr
   cases h;unfold execOp;rw[ho];exact viaV (Zqz hg hr)
  ·exact Zcv hg h
 ·rename_i t x ix ho
  split at h
  ·rename_i r' hr
   cases h;unfold execOp;rw[ho];exact viaV (Zq0 (x:=x) (ix:=ix) hg hr)
  ·exact Zcv hg h
 ·rename_i x i ho
  split at h
  ·rename_i l hx
   obtain⟨y,hy,rfl⟩:=Yad.1 h;obtain⟨vs,e,hl⟩:=hg _ _ hx;obtain⟨v,hv,hd⟩:=Zkn hl hy;unfold execOp;rw[ho];refine viaV ⟨v,?_,hd⟩;rw[e];simp[Instr.extract,hv]
  ·cases h
 ·rename_i x ho
  split at h
  ·rename_i k off hx
   cases h;have hd:=hg _ _ hx;obtain⟨B,hB,e1⟩:=hd;have e2:ev x=.pointer (some ⟨B.blk,B.base+off,none⟩):=by simpa using e1
   refine⟨ev x,?_,B,hB,e1⟩;unfold execOp;rw[ho];simp only[e2];rfl
  ·rename_i f l hx
   cases h;have hd:=hg _ _ hx;obtain⟨vs,hv,e1⟩:=hd;have e2:ev x=.func (.func f) #[] vs.toArray:=by simpa using e1
   refine⟨ev x,?_,vs,hv,e1⟩;unfold execOp;rw[ho];simp only[e2];rfl
  ·rename_i f g l hx
   cases h;have hd:=hg _ _ hx;obtain⟨u,e1,hu⟩:=hd;have e2:ev x=.func (.func f) #[u] #[]:=by simpa using e1
   refine⟨ev x,?_,u,e1,hu⟩;unfold execOp;rw[ho];simp only[e2];rfl
  ·exact Zcv hg h
 ·rename_i t parts ho
  unfold execOp;rw[ho];exact viaV (Zqv hg h w)
 ·rename_i t x ho
  unfold execOp;rw[ho];exact viaV (Znr hg hb h)
 ·rename_i t x lo hi mx ho
  split at h
  ·rename_i r' hr
   cases h;unfold execOp;rw[ho];exact viaV (Zqy hg hr)
  ·exact Zcv hg h
 ·rename_i c ho
  split at h
  ·rename_i r' hr
   cases h;exact Zv7 hg ho hr
  ·exact Zcv hg h
 ·exact Zcv hg h
end
end
end Go.Ex
