/- Contracts of package paraxial,and a verified evaluator. Part 12 of 26. No condition beside the row. -/
import Derived.Shelf.Abstract
import Derived.Test.YtpfpiecljfimjaaGreatDoorA01
import Derived.Test.YtpfpiecljfimjaaGreatDoorA03
import Derived.Test.YtpfpiecljfimjaaGreatDoorA11
set_option linter.unusedVariables false
set_option linter.unusedSimpArgs false
set_option maxRecDepth 100000
set_option maxHeartbeats 4000000
namespace Go.Ex
open Go.Mono
section
structure Cf where
 n:Int
 d:Nat
def Cf.ev (c:Cf):Rat:=mkRat c.n (c.d+1)
def Cf.low (n:Int) (d:Nat):Cf:=⟨n/(Nat.gcd n.natAbs d:Nat),d/Nat.gcd n.natAbs d-1⟩
def Cf.add (a b:Cf):Cf:=Cf.low (a.n*(b.d+1:Nat)+b.n*(a.d+1:Nat)) ((a.d+1)*(b.d+1))
def Cf.mul (a b:Cf):Cf:=Cf.low (a.n*b.n) ((a.d+1)*(b.d+1))
def rpow (x:Rat):Nat->Rat
 | 0=>1
 | n+1=>rpow x n*x
abbrev Mon:=List Nat
abbrev Pol:=List (Cf×Mon)
section
variable (env:Nat->Rat)
def monEv:Nat->Mon->Rat
 | _,[]=>1
 | i,e::r=>rpow (env i) e*monEv (i+1) r
def polEv:Pol->Rat
 | []=>0
 | t::r=>t.1.ev*monEv env 0 t.2+polEv r
end
end
end Go.Ex
namespace Go.Proofs.W
open Go.RowKit Go.Mono
theorem Zq9 (a b:Int) (h0:b≠0) (w:World) (a1 : -9223372036854775808<=a) (a2:a<=9223372036854775807) (b1 : -9223372036854775808<=b) (b2:b<=9223372036854775807) :
  Calls Tryz.prog 64 #[.int .i64 a,.int .i64 b] w λe w'=>∃r,e=.returned (.tuple #[r,.int .i64 0])∧QV w' r (Rat.divInt a b)∧Below w.heap.size w w':=by
 go_enter Tryz.func64,Tryz.ntmps64
 go_wp2_with fail
 refine Zbg λW hB hs bb=>?_;refine(Zvi a W a1 a2).mono ?_;rintro e W1 ⟨p,k,c,rfl,z1,hb1⟩;replace hB:=Zaa hB hb1;replace bb:=bb.below hb1;have cbb:=bb.cell;have lbb:=bb.lt;have fbb:=bb.frozen;go_wp2_with fail
 refine(Zvi b W1 b1 b2).mono ?_;rintro e W2 ⟨q,l,d,rfl,z2,hb2⟩;replace hB:=Zaa hB hb2;replace z1:=z1.ext (.of_below hb2);replace bb:=bb.below hb2;try clear cbb lbb fbb
 have cbb:=bb.cell;have lbb:=bb.lt;have fbb:=bb.frozen;go_wp2_with fail
 refine(Zwe a b h0 p q k c l d W2 W2 (Ext.refl _) z1 z2).mono ?_;rintro e W3 ⟨r,rfl,⟨p7,k7,c7,q7,l7,d7,rfl,z7,y7⟩,hb7⟩;replace hB:=Zaa hB hb7;replace z1:=z1.ext (.of_below hb7);replace bb:=bb.below hb7;try clear cbb lbb fbb
 have cbb:=bb.cell;have lbb:=bb.lt;have fbb:=bb.frozen;go_wp2
 have b3':=((((bb.set 0 (.bool (decide ((Rat.divInt a b).num<0)))).set 1 (.slice p7 k7 c7)).set 2 (.bool false)).set 3 (.slice q7 l7 d7)).cell;have xE:Ext W3 _:=(((((Ext.refl W3).set bb Zd 0 (.bool (decide ((Rat.divInt a b).num<0)))).set (bb.set 0 (.bool (decide ((Rat.divInt a b).num<0)))) Zd 1 (.slice p7 k7 c7))).set ((bb.set 0 (.bool (decide ((Rat.divInt a b).num<0)))).set 1 (.slice p7 k7 c7)) Zd 2 (.bool false)).set (((bb.set 0 (.bool (decide ((Rat.divInt a b).num<0)))).set 1 (.slice p7 k7 c7)).set 2 (.bool false)) Zd 3 (.slice q7 l7 d7);refine bodyPost_ret (v:=.tuple #[.agg #[.bool (decide ((Rat.divInt a b).num<0)),.slice p7 k7 c7,.bool false,.slice q7 l7 d7],.int .i64 0]) (by simp[results,Tryz.results64,go_sem,b3']) rfl ⟨_,rfl,⟨_,_,_,_,_,_,rfl,z7.ext xE,y7.ext xE⟩,?_⟩;exact Zag (Zag (Zag (Zag hB Zo _ _) Zo _ _) Zo _ _) Zo _ _
end Go.Proofs.W
namespace Go.Mono
structure Mat where
 a:Rat
 b:Rat
 c:Rat
 d:Rat
theorem Mat.ext {x y:Mat} (h1:x.a=y.a) (h2:x.b=y.b) (h3:x.c=y.c) (h4:x.d=y.d):x=y:=by
 cases x;cases y;simp_all
def Mat.one:Mat:=⟨1,0,0,1⟩
def Mat.mul (x y:Mat):Mat:=⟨x.a*y.a-x.b*y.c,x.a*y.b+x.b*y.d,x.c*y.a+x.d*y.c,x.d*y.d-x.c*y.b⟩
theorem Mat.mul_assoc (x y z:Mat):(x.mul y).mul z=x.mul (y.mul z):=by
 apply Mat.ext<;>simp only[Mat.mul]<;>grind
theorem Mat.one_mul (x:Mat):Mat.one.mul x=x:=by
 apply Mat.ext<;>simp only[Mat.mul,Mat.one]<;>grind
theorem Mat.mul_one (x:Mat):x.mul Mat.one=x:=by
 apply Mat.ext<;>simp only[Mat.mul,Mat.one]<;>grind
def Flm.sq (f:Flm):Int:=f.q*f.q+f.p*f.p
def Flm.cos (f:Flm):Rat:=Rat.divInt (f.q*f.q-f.p*f.p) f.sq
def Flm.sin (f:Flm):Rat:=Rat.divInt (2*f.p*f.q) f.sq
theorem Flm.ok.sq_pos {f:Flm} (h:f.ok):1<=f.sq:=by
 obtain⟨_,_,h1,_,h2,_⟩:=h;have a:=Yef h2 h2 Zo Zo;have b:=Ycg h1 h1;unfold Flm.sq;omega
theorem Zo6 {n:Int} (h:n≠0):(n:Rat)≠0:=by
 intro e;apply h;exact Rat.intCast_inj.1 (by simpa using e)
theorem Flm.cs (f:Flm) (h:f.sq≠0):f.cos*f.cos+f.sin*f.sin=1:=by
 unfold Flm.cos Flm.sin;rw[Rat.divInt_eq_div,Rat.divInt_eq_div];have h0:=Zo6 h;have e:((f.sq:Int):Rat)=(f.q:Rat)*f.q+f.p*f.p:=by
  unfold Flm.sq;rw[Rat.intCast_add,Yfc,Yfc]
 have e1:((f.q*f.q-f.p*f.p:Int):Rat)=(f.q:Rat)*f.q-f.p*f.p:=by
  rw[Rat.intCast_sub,Yfc,Yfc]
 have e2:((2*f.p*f.q:Int):Rat)=2*(f.p:Rat)*f.q:=by
  rw[Yfc,Yfc];rfl
 rw[e1,e2];generalize ((f.sq:Int):Rat)=s at *;generalize (f.p:Rat)=p at *;generalize (f.q:Rat)=q at *;have:((q*q-p*p)*(q*q-p*p)+(2*p*q)*(2*p*q))=s*s:=by rw[e];grind
 grind
theorem Flm.ok.ne {f:Flm} (h:f.ok):f.sq≠0∧f.ix≠0:=by
 have:=h.sq_pos;have:=h.1;omega
def big (n m:Rat) (x:Mat):Rat:=(n*x.a+m*x.d)*(n*x.a+m*x.d)+(n*m*x.b+x.c)*(n*m*x.b+x.c)
def low (n m:Rat) (x:Mat):Rat:=(n*x.a-m*x.d)*(n*x.a-m*x.d)+(n*m*x.b-x.c)*(n*m*x.b-x.c)
def through (n m:Rat) (x:Mat):Rat:=4*(n*m)/big n m x
end Go.Mono
def List.look {α:Type}:List (Nat×α)->Nat->Option α
 | [],_=>none
 | p::r,k=>bif Nat.beq k p.1 then some p.2 else List.look r k
namespace Go.Ex
open Go.RowKit Go.Mono
@[simp] theorem look_nil {α:Type} (k:Nat):([]:List (Nat×α)).look k=none:=rfl
theorem Zat {α:Type} (k k':Nat) (x:α) (l:List (Nat×α)):List.look ((k',x)::l) k=if k=k' then some x else List.look l k:=by
 unfold List.look;by_cases h:k=k'
 ·subst h
  simp
 ·have e:Nat.beq k k'=false:=by
   cases hb:Nat.beq k k' with
   | false=>rfl
   | true=>exact absurd (Ybe hb) h
  rw[if_neg h];dsimp only;rw[e];cases l<;>rfl
inductive U where
 | val (v:Value)
 | raw (n:Nat) (cs:List Value)
 | ptr (k off:Nat)
 | slc (k off len cap:Nat)
 | clo (f:FuncId) (caps:List (Nat×Nat))
 | quo (q:Rat)
 | sym (z:Int)
 | tst (b:Bool)
 | sli (k off len:Nat)
 | own (k len size:Nat)
 | yld (k:Nat)
 | dig (n:Nat)
 | tok (i:Nat)
 | emp
 | bnd (f:FuncId) (ag:Bool) (l:List U)
 | bad
 | sml (k:IntKind) (z:Int)
 | qb
 | qe (p:Pol)
 | slx (k off m n:Nat)
 | unk
def U.w:U->Nat
 | .quo _=>4
 | .qb=>4
 | .qe _=>4
 | .bad=>4
 | .raw n _=>n
 | _=>1
inductive SA where
 | one (u:U)
 | agg (l:List U)
def bndA (ag:Bool) (l:List U):SA:=
 match ag,l with
 | false,[u]=>.one u
 | _,l=>.agg l
inductive SV where
 | a (x:SA)
 | tup (l:List SA)
 | no
structure Blk where
 T:TypeId
 cells:List U
 ro:Bool
 sp:Bool:=false
 dead:Bool:=false
structure Den where
 R:World->Rat->List Value->Prop
 ext:∀{w w':World} {q:Rat} {cs:List Value},R w q cs->Ext w w'->R w' q cs
 len:∀{w:World} {q:Rat} {cs:List Value},R w q cs->cs.length=4
 one:∀{w:World} {q:Rat} {cs:List Value},R w q cs->∀v∈cs,v.oneCell'=true
 K:Nat->Value
 kone:∀i,(K i).oneCell'=true
 S:World->Nat->Value->Prop
 sext:∀{w w':World} {n:Nat} {v:Value},S w n v->Ext w w'->S w' n v
 sone:∀{w:World} {n:Nat} {v:Value},S w n v->v.oneCell'=true
 env:Nat->Rat
 B:World->List Value->Prop
 bext:∀{w w':World} {cs:List Value},B w cs->Ext w w'->B w' cs
 blen:∀{w:World} {cs:List Value},B w cs->cs.length=4
 bone:∀{w:World} {cs:List Value},B w cs->∀v∈cs,v.oneCell'=true
 split:∀{w:World} {q:Rat} {cs:List Value},R w q cs->∃v1 v2,cs=[.bool (decide (q.num<0)),v1,.bool false,v2]∧S w q.num.natAbs v1∧S w q.den v2
structure Pl where
 blk:Nat
 base:Nat
 ro:Bool
 cap:Nat:=0
 tot:Nat:=0
abbrev Nm:=Nat->Option Pl
def Nm.le (ρ ρ':Nm):Prop:=∀k B,ρ k=some B->ρ' k=some B
theorem Nm.le.refl (ρ:Nm):ρ.le ρ:=λ_ _ h=>h
theorem Nm.le.trans {a b c:Nm} (h:a.le b) (g:b.le c):a.le c:=λk B hk=>g k B (h k B hk)
section
variable (D:Den) (ρ:Nm) (w:World)
def adrs:List (Nat×Nat)->List Value->Prop
 | [],vs=>vs=[]
 | p::r,vs=>∃B v',ρ p.1=some B∧vs=.pointer (some ⟨B.blk,B.base+p.2,none⟩)::v'∧adrs r v'
def denU0:U->List Value->Prop
 | .val v,cs=>cs=[v]∧v.oneCell'=true
 | .raw n c,cs=>cs=c∧c.length=n∧∀v∈c,v.oneCell'=true
 | .ptr k o,cs=>∃B,ρ k=some B∧cs=[.pointer (some ⟨B.blk,B.base+o,none⟩)]
 | .slc k o n c,cs=>∃B,ρ k=some B∧cs=[.slice (some ⟨B.blk,B.base+o,none⟩) n c]
 | .clo f caps,cs=>∃vs,adrs ρ caps vs∧cs=[.func (.func f) #[] vs.toArray]
 | .quo q,cs=>D.R w q cs
 | .sym z,cs=>cs=[.int .i64 z]
 | .tst b,cs=>cs=[.bool b]
 | .emp,cs=>∃p c,(p=none->c=0)∧cs=[.slice p 0 c]
 | .sli k o n,cs=>∃B c,ρ k=some B∧n<=c∧cs=[.slice (some ⟨B.blk,B.base+o,none⟩) n c]
 | .own k n s,cs=>∃B,ρ k=some B∧n<=B.cap∧B.tot=B.cap*s∧B.base=0∧cs=[.slice (some ⟨B.blk,0,none⟩) n B.cap]
 | .yld k,cs=>∃B,ρ k=some B∧cs=[.func (.yield B.blk) #[] #[]]
 | .dig n,cs=>∃v,D.S w n v∧cs=[v]
 | .tok i,cs=>cs=[D.K i]
 | .bad,cs=>D.B w cs
 | .sml k z,cs=>cs=[.int k z]
 | .qb,cs=>(∃q,D.R w q cs)∨D.B w cs
 | .qe p,cs=>D.R w (polEv D.env p) cs
 | .unk,cs=>∃v,cs=[v]∧v.oneCell'=true
 | .slx k o m n,cs=>∃B c,ρ k=some B∧m<=n∧n<=c∧cs=[.slice (some ⟨B.blk,B.base+o,none⟩) n c]
 | .bnd _ _ _,_=>False
def denL0:List U->List Value->Prop
 | [],cs=>cs=[]
 | u::l,cs=>∃c d,cs=c++d∧denU0 D ρ w u c∧denL0 l d
def denA0:SA->Value->Prop
 | .one u,v=>denU0 D ρ w u [v]
 | .agg l,v=>∃cs:List Value,v=.agg cs.toArray∧denL0 D ρ w l cs
def denU:U->List Value->Prop
 | .val v,cs=>cs=[v]∧v.oneCell'=true
 | .raw n c,cs=>cs=c∧c.length=n∧∀v∈c,v.oneCell'=true
 | .ptr k o,cs=>∃B,ρ k=some B∧cs=[.pointer (some ⟨B.blk,B.base+o,none⟩)]
 | .slc k o n c,cs=>∃B,ρ k=some B∧cs=[.slice (some ⟨B.blk,B.base+o,none⟩) n c]
 | .clo f caps,cs=>∃vs,adrs ρ caps vs∧cs=[.func (.func f) #[] vs.toArray]
 | .quo q,cs=>D.R w q cs
 | .sym z,cs=>cs=[.int .i64 z]
 | .tst b,cs=>cs=[.bool b]
 | .emp,cs=>∃p c,(p=none->c=0)∧cs=[.slice p 0 c]
 | .sli k o n,cs=>∃B c,ρ k=some B∧n<=c∧cs=[.slice (some ⟨B.blk,B.base+o,none⟩) n c]
 | .own k n s,cs=>∃B,ρ k=some B∧n<=B.cap∧B.tot=B.cap*s∧B.base=0∧cs=[.slice (some ⟨B.blk,0,none⟩) n B.cap]
 | .yld k,cs=>∃B,ρ k=some B∧cs=[.func (.yield B.blk) #[] #[]]
 | .dig n,cs=>∃v,D.S w n v∧cs=[v]
 | .tok i,cs=>cs=[D.K i]
 | .bad,cs=>D.B w cs
 | .sml k z,cs=>cs=[.int k z]
 | .qb,cs=>(∃q,D.R w q cs)∨D.B w cs
 | .qe p,cs=>D.R w (polEv D.env p) cs
 | .unk,cs=>∃v,cs=[v]∧v.oneCell'=true
 | .slx k o m n,cs=>∃B c,ρ k=some B∧m<=n∧n<=c∧cs=[.slice (some ⟨B.blk,B.base+o,none⟩) n c]
 | .bnd f ag l,cs=>∃v,cs=[.func (.func f) #[v] #[]]∧denA0 D ρ w (bndA ag l) v
def denL:List U->List Value->Prop
 | [],cs=>cs=[]
 | u::l,cs=>∃c d,cs=c++d∧denU D ρ w u c∧denL l d
def denA:SA->Value->Prop
 | .one u,v=>denU D ρ w u [v]
 | .agg l,v=>∃cs:List Value,v=.agg cs.toArray∧denL D ρ w l cs
def denAs:List SA->List Value->Prop
 | [],vs=>vs=[]
 | x::l,vs=>∃v r,vs=v::r∧denA D ρ w x v∧denAs l r
def denV:SV->Value->Prop
 | .a x,v=>denA D ρ w x v
 | .tup l,v=>∃vs:List Value,v=.tuple vs.toArray∧denAs D ρ w l vs
 | .no,_=>True
end
section
variable {D:Den} {ρ ρ':Nm} {w w':World}
theorem adrs.mono (h:ρ.le ρ'):∀{l:List (Nat×Nat)} {vs:List Value},adrs ρ l vs->adrs ρ' l vs
 | [],_,e=>e
 | p::r,vs,⟨B,v',hB,e,hr⟩=>⟨B,v',h _ _ hB,e,adrs.mono h hr⟩
theorem adrs.one:∀{l:List (Nat×Nat)} {vs:List Value},adrs ρ l vs->vs.length=l.length
 | [],_,e=>by rw[show _=[] from e];rfl
 | p::r,vs,⟨B,v',hB,e,hr⟩=>by rw[e,Ybm,adrs.one hr];rfl
theorem denU0.mono (h:ρ.le ρ') (hx:Ext w w'):∀{u:U} {cs:List Value},denU0 D ρ w u cs->denU0 D ρ' w' u cs
 | .val _,_,e=>e
 | .raw _ _,_,e=>e
 | .ptr _ _,_,⟨B,hB,e⟩=>⟨B,h _ _ hB,e⟩
 | .slc _ _ _ _,_,⟨B,hB,e⟩=>⟨B,h _ _ hB,e⟩
 | .clo _ _,_,⟨vs,hv,e⟩=>⟨vs,hv.mono h,e⟩
 | .quo _,_,e=>D.ext e hx
 | .sym _,_,e=>e
 | .tst _,_,e=>e
 | .sli _ _ _,_,⟨B,c,hB,hc,e⟩=>⟨B,c,h _ _ hB,hc,e⟩
 | .own _ _ _,_,⟨B,hB,e⟩=>⟨B,h _ _ hB,e⟩
 | .yld _,_,⟨B,hB,e⟩=>⟨B,h _ _ hB,e⟩
 | .dig _,_,⟨v,hv,e⟩=>⟨v,D.sext hv hx,e⟩
 | .tok _,_,e=>e
 | .bad,_,e=>D.bext e hx
 | .sml _ _,_,e=>e
 | .qb,_,e=>e.imp (λ⟨q,h⟩=>⟨q,D.ext h hx⟩) λh=>D.bext h hx
 | .qe _,_,e=>D.ext e hx
 | .slx _ _ _ _,_,⟨B,c,hB,e⟩=>⟨B,c,h _ _ hB,e⟩
 | .unk,_,e=>e
 | .emp,_,e=>e
theorem denL0.mono (h:ρ.le ρ') (hx:Ext w w'):∀{l:List U} {cs:List Value},denL0 D ρ w l cs->denL0 D ρ' w' l cs
 | [],_,e=>e
 | u::l,_,⟨c,d,e,hc,hd⟩=>⟨c,d,e,hc.mono h hx,denL0.mono h hx hd⟩
theorem denA0.mono (h:ρ.le ρ') (hx:Ext w w'):∀{x:SA} {v:Value},denA0 D ρ w x v->denA0 D ρ' w' x v
 | .one _,_,e=>denU0.mono h hx e
 | .agg _,_,⟨cs,e,hl⟩=>⟨cs,e,hl.mono h hx⟩
theorem denU.mono (h:ρ.le ρ') (hx:Ext w w'):∀{u:U} {cs:List Value},denU D ρ w u cs->denU D ρ' w' u cs
 | .val _,_,e=>e
 | .raw _ _,_,e=>e
 | .ptr _ _,_,⟨B,hB,e⟩=>⟨B,h _ _ hB,e⟩
 | .slc _ _ _ _,_,⟨B,hB,e⟩=>⟨B,h _ _ hB,e⟩
 | .clo _ _,_,⟨vs,hv,e⟩=>⟨vs,hv.mono h,e⟩
 | .quo _,_,e=>D.ext e hx
 | .sym _,_,e=>e
 | .tst _,_,e=>e
 | .sli _ _ _,_,⟨B,c,hB,hc,e⟩=>⟨B,c,h _ _ hB,hc,e⟩
 | .own _ _ _,_,⟨B,hB,e⟩=>⟨B,h _ _ hB,e⟩
 | .yld _,_,⟨B,hB,e⟩=>⟨B,h _ _ hB,e⟩
 | .dig _,_,⟨v,hv,e⟩=>⟨v,D.sext hv hx,e⟩
 | .tok _,_,e=>e
 | .bad,_,e=>D.bext e hx
 | .sml _ _,_,e=>e
 | .qb,_,e=>e.imp (λ⟨q,h⟩=>⟨q,D.ext h hx⟩) λh=>D.bext h hx
 | .qe _,_,e=>D.ext e hx
 | .slx _ _ _ _,_,⟨B,c,hB,e⟩=>⟨B,c,h _ _ hB,e⟩
 | .unk,_,e=>e
 | .emp,_,e=>e
 | .bnd _ _ _,_,⟨v,e,hv⟩=>⟨v,e,hv.mono h hx⟩
theorem denL.mono (h:ρ.le ρ') (hx:Ext w w'):∀{l:List U} {cs:List Value},denL D ρ w l cs->denL D ρ' w' l cs
 | [],_,e=>e
 | u::l,_,⟨c,d,e,hc,hd⟩=>⟨c,d,e,hc.mono h hx,denL.mono h hx hd⟩
theorem denA.mono (h:ρ.le ρ') (hx:Ext w w'):∀{x:SA} {v:Value},denA D ρ w x v->denA D ρ' w' x v
 | .one _,_,e=>denU.mono h hx e
 | .agg _,_,⟨cs,e,hl⟩=>⟨cs,e,hl.mono h hx⟩
theorem denAs.mono (h:ρ.le ρ') (hx:Ext w w'):∀{l:List SA} {vs:List Value},denAs D ρ w l vs->denAs D ρ' w' l vs
 | [],_,e=>e
 | x::l,_,⟨v,r,e,hv,hr⟩=>⟨v,r,e,hv.mono h hx,denAs.mono h hx hr⟩
theorem denV.mono (h:ρ.le ρ') (hx:Ext w w'):∀{x:SV} {v:Value},denV D ρ w x v->denV D ρ' w' x v
 | .a _,_,e=>denA.mono h hx e
 | .tup _,_,⟨vs,e,hl⟩=>⟨vs,e,hl.mono h hx⟩
 | .no,_,_=>trivial
theorem denU0.up {u:U} {cs:List Value} (h:denU0 D ρ w u cs):denU D ρ w u cs:=by
 cases u<;>first|exact h|cases h
theorem denL0.up:∀{l:List U} {cs:List Value},denL0 D ρ w l cs->denL D ρ w l cs
 | [],_,e=>e
 | u::l,_,⟨c,d,e,hc,hd⟩=>⟨c,d,e,hc.up,denL0.up hd⟩
theorem denA0.up:∀{x:SA} {v:Value},denA0 D ρ w x v->denA D ρ w x v
 | .one _,_,e=>denU0.up e
 | .agg _,_,⟨cs,e,hl⟩=>⟨cs,e,hl.up⟩
def U.weak:U->U
 | .bnd _ _ _=>.unk
 | u=>u
def SA.weak:SA->SA
 | .one u=>.one u.weak
 | .agg l=>.agg (l.map U.weak)
theorem denU.weak {u:U} {cs:List Value} (h:denU D ρ w u cs):denU0 D ρ w u.weak cs:=by
 cases u with
 | bnd f g l =>
   obtain⟨v,e,_⟩:=h;exact⟨_,e,by simp[Value.oneCell']⟩
 | _=>exact h
theorem denL.weak:∀{l:List U} {cs:List Value},denL D ρ w l cs->denL0 D ρ w (l.map U.weak) cs
 | [],_,e=>e
 | u::l,_,⟨c,d,e,hc,hd⟩=>⟨c,d,e,hc.weak,denL.weak hd⟩
theorem denA.weak:∀{x:SA} {v:Value},denA D ρ w x v->denA0 D ρ w x.weak v
 | .one _,_,e=>denU.weak e
 | .agg _,_,⟨cs,e,hl⟩=>⟨cs,e,hl.weak⟩
def widths (l:List U):Nat:=l.foldr (λu n=>u.w+n) 0
theorem denU.len:∀{u:U} {cs:List Value},denU D ρ w u cs->cs.length=u.w
 | .val _,_,⟨e,_⟩=>by rw[e];rfl
 | .raw _ _,_,⟨e,hn,_⟩=>by rw[e];exact hn
 | .ptr _ _,_,⟨B,hB,e⟩=>by rw[e];rfl
 | .slc _ _ _ _,_,⟨B,hB,e⟩=>by rw[e];rfl
 | .clo _ _,_,⟨vs,hv,e⟩=>by rw[e];rfl
 | .quo _,_,e=>D.len e
 | .sym _,_,e=>by rw[show _=_ from e];rfl
 | .tst _,_,e=>by rw[show _=_ from e];rfl
 | .sli _ _ _,_,⟨B,c,hB,hc,e⟩=>by rw[e];rfl
 | .own _ _ _,_,⟨B,hB,h1,h2,h3,e⟩=>by rw[e];rfl
 | .yld _,_,⟨B,hB,e⟩=>by rw[e];rfl
 | .dig _,_,⟨v,hv,e⟩=>by rw[e];rfl
 | .tok _,_,e=>by rw[show _=_ from e];rfl
 | .emp,_,⟨p,c,hp,e⟩=>by rw[e];rfl
 | .bad,_,e=>D.blen e
 | .sml _ _,_,e=>by rw[show _=_ from e];rfl
 | .qb,_,e=>e.elim (λ⟨q,h⟩=>D.len h) D.blen
 | .qe _,_,e=>D.len e
 | .slx _ _ _ _,_,⟨B,c,hB,h1,h2,e⟩=>by rw[e];rfl
 | .unk,_,⟨v,e,hv⟩=>by rw[e];rfl
 | .bnd _ _ _,_,⟨v,e,hv⟩=>by rw[e];rfl
theorem denU.ones:∀{u:U} {cs:List Value},denU D ρ w u cs->∀v∈cs,v.oneCell'=true
 | .val _,_,⟨e,h⟩=>by rw[e];simpa using h
 | .raw _ _,_,⟨e,hn,h⟩=>by rw[e];exact h
 | .ptr _ _,_,⟨B,hB,e⟩=>by rw[e];simp[Value.oneCell']
 | .slc _ _ _ _,_,⟨B,hB,e⟩=>by rw[e];simp[Value.oneCell']
 | .clo _ _,_,⟨vs,hv,e⟩=>by rw[e];simp[Value.oneCell']
 | .quo _,_,e=>D.one e
 | .sym _,_,e=>by rw[show _=_ from e];simp[Value.oneCell']
 | .tst _,_,e=>by rw[show _=_ from e];simp[Value.oneCell']
 | .sli _ _ _,_,⟨B,c,hB,hc,e⟩=>by rw[e];simp[Value.oneCell']
 | .own _ _ _,_,⟨B,hB,h1,h2,h3,e⟩=>by rw[e];simp[Value.oneCell']
 | .yld _,_,⟨B,hB,e⟩=>by rw[e];simp[Value.oneCell']
 | .dig _,_,⟨v,hv,e⟩=>by rw[e];simpa using D.sone hv
 | .tok _,_,e=>by rw[show _=_ from e];simpa using D.kone _
 | .emp,_,⟨p,c,hp,e⟩=>by rw[e];simp[Value.oneCell']
 | .bad,_,e=>D.bone e
 | .sml _ _,_,e=>by rw[show _=_ from e];simp[Value.oneCell']
 | .qb,_,e=>e.elim (λ⟨q,h⟩=>D.one h) D.bone
 | .qe _,_,e=>D.one e
 | .slx _ _ _ _,_,⟨B,c,hB,h1,h2,e⟩=>by rw[e];simp[Value.oneCell']
 | .unk,_,⟨v,e,hv⟩=>by rw[e];simpa using hv
 | .bnd _ _ _,_,⟨v,e,hv⟩=>by rw[e];simp[Value.oneCell']
theorem denL.len:∀{l:List U} {cs:List Value},denL D ρ w l cs->cs.length=widths l
 | [],_,e=>by rw[show _=[] from e];rfl
 | u::l,_,⟨c,d,e,hc,hd⟩=>by rw[e,Yay,hc.len,denL.len hd];rfl
theorem denL.ones:∀{l:List U} {cs:List Value},denL D ρ w l cs->∀v∈cs,v.oneCell'=true
 | [],_,e=>by rw[show _=[] from e];simp
 | u :: l, _, ⟨c, d, e, hc, hd⟩ => by
   rw[e];intro v hv;rcases Ycn.1 hv with h|h
   ·exact hc.ones v h
   ·exact denL.ones hd v h
theorem denL.append:∀{l m:List U} {cs ds:List Value},denL D ρ w l cs->denL D ρ w m ds->denL D ρ w (l++m) (cs++ds)
 | [],m,cs,ds,e,hm=>by rw[show cs=[] from e];exact hm
 | u::l,m,_,ds,⟨c,d,e,hc,hd⟩,hm=>⟨c,d++ds,by rw[e,Ybx],hc,denL.append hd hm⟩
def takeU:List U->Nat->Option (List U)
 | _,0=>some []
 | [],_+1=>none
 | u::l,n+1=>if u.w=0 then none else if u.w<=n+1 then(takeU l (n+1-u.w)).map (u::·) else none
def dropU:List U->Nat->Option (List U)
 | l,0=>some l
 | [],_+1=>none
 | u::l,n+1=>if u.w=0 then none else if u.w<=n+1 then dropU l (n+1-u.w) else none
def subU (l:List U) (off n:Nat):Option (List U):=(dropU l off).bind λm=>takeU m n
def putU (l:List U) (off:Nat) (us:List U):Option (List U):=
 (takeU l off).bind λa=>(dropU l (off+widths us)).map λb=>a++(us++b)
theorem Zej:∀{l:List U} {n:Nat} {m:List U} {cs:List Value},takeU l n=some m->denL D ρ w l cs->denL D ρ w m (cs.take n)∧(cs.take n).length=n
 | l, 0, m, cs, h, hd => by
   have:m=[]:=by cases l<;>(simp only[takeU,Ybp]at h;exact h.symm)
   subst this;exact⟨by simp[denL],Zs⟩
 | [],n+1,m,cs,h,hd=>by simp[takeU]at h
 | u :: l, n + 1, m, cs, h, hd => by
   simp only[takeU]at h;split at h
   ·cases h
   ·rename_i h0
    split at h
    ·rename_i hw
     obtain⟨m',hm,rfl⟩:=Yad.1 h;obtain⟨c,d,rfl,hc,hd'⟩:=hd;have hl:=hc.len;obtain⟨h1,h2⟩:=Zej hm hd';have e:(c++d).take (n+1)=c++d.take (n+1-u.w):=by
      rw[List.take_append,hl,Ycm Zo]
     rw[e];exact⟨⟨c,_,rfl,hc,h1⟩,by rw[Yay,h2,hl];omega⟩
    ·cases h
theorem Zgq:∀{l:List U} {n:Nat} {m:List U} {cs:List Value},dropU l n=some m->denL D ρ w l cs->denL D ρ w m (cs.drop n)∧n<=cs.length
 | l, 0, m, cs, h, hd => by
   have:m=l:=by cases l<;>(simp only[dropU,Ybp]at h;exact h.symm)
   subst this;exact⟨by simpa using hd,Zs⟩
 | [],n+1,m,cs,h,hd=>by simp[dropU]at h
 | u :: l, n + 1, m, cs, h, hd => by
   simp only[dropU]at h;split at h
   ·cases h
   ·split at h
    ·rename_i h0 hw
     obtain⟨c,d,rfl,hc,hd'⟩:=hd;have hl:=hc.len;obtain⟨h1,h2⟩:=Zgq h hd';have e:(c++d).drop (n+1)=d.drop (n+1-u.w):=by
      rw[List.drop_append,hl,Yfi Zo,Ydp]
     rw[e];exact⟨h1,by rw[Yay,hl];omega⟩
    ·cases h
theorem Zf5 {l:List U} {off n:Nat} {m:List U} {cs:List Value} (h:subU l off n=some m) (hd:denL D ρ w l cs):denL D ρ w m ((cs.drop off).take n)∧((cs.drop off).take n).length=n:=by
 unfold subU at h;obtain⟨m',h1,h2⟩:=Ybg.1 h;exact Zej h2 (Zgq h1 hd).1
theorem Zm9 {l:List U} {off:Nat} {us m:List U} {cs ps:List Value} (h:putU l off us=some m) (hd:denL D ρ w l cs) (hp:denL D ρ w us ps) :
  denL D ρ w m (cs.take off++ps++cs.drop (off+ps.length))∧off+ps.length<=cs.length:=by
 unfold putU at h;obtain⟨a,h1,h2⟩:=Ybg.1 h;obtain⟨b,h3,rfl⟩:=Yad.1 h2;rw[<-hp.len]at h3;obtain⟨k1,k2⟩:=Zgq h3 hd;exact⟨by rw[Ybx];exact(Zej h1 hd).1.append (hp.append k1),k2⟩
def expU:U->List U
 | .quo q=>[.val (.bool (decide (q.num<0))),.dig q.num.natAbs,.val (.bool false),.dig q.den]
 | u=>[u]
def expL:List U->List U
 | []=>[]
 | u::l=>expU u++expL l
theorem Zis:∀{l:List U} {cs:List Value},denL D ρ w l cs->denL D ρ w (expL l) cs
 | [],cs,h=>h
 | u :: l, _, ⟨c, d, e, hc, hd⟩ => by
   subst e;refine denL.append ?_ (Zis hd);cases u with
   | quo q =>
     obtain⟨v1,v2,rfl,h1,h2⟩:=D.split hc;exact⟨[_],_,rfl,⟨rfl,rfl⟩,[v1],_,rfl,⟨v1,h1,rfl⟩,[_],_,rfl,⟨rfl,rfl⟩,[v2],[],rfl,⟨v2,h2,rfl⟩,rfl⟩
   | _=>exact⟨c,[],(Ydg c).symm,hc,rfl⟩
def subX (l:List U) (off n:Nat):Option (List U):=
 match subU l off n with
 | some m=>some m
 | none=>subU (expL l) off n
def putX (l:List U) (off:Nat) (us:List U):Option (List U):=
 match putU l off us with
 | some m=>some m
 | none=>putU (expL l) off us
theorem Zf6 {l:List U} {off n:Nat} {m:List U} {cs:List Value} (h:subX l off n=some m) (hd:denL D ρ w l cs):denL D ρ w m ((cs.drop off).take n)∧((cs.drop off).take n).length=n:=by
 unfold subX at h;split at h
 ·rename_i m' h'
  cases h;exact Zf5 h' hd
 ·exact Zf5 h (Zis hd)
theorem Zna {l:List U} {off:Nat} {us m:List U} {cs ps:List Value} (h:putX l off us=some m) (hd:denL D ρ w l cs) (hp:denL D ρ w us ps) :
  denL D ρ w m (cs.take off++ps++cs.drop (off+ps.length))∧off+ps.length<=cs.length:=by
 unfold putX at h;split at h
 ·rename_i m' h'
  cases h;exact Zm9 h' hd hp
 ·exact Zm9 h (Zis hd) hp
theorem Zdm:∀(vs:List Value),(∀v∈vs,v.oneCell'=true)->denL D ρ w (vs.map .val) vs
 | [],_=>rfl
 | v::r,h=>⟨[v],r,rfl,⟨rfl,h v (Ycl ..)⟩,Zdm r λu hu=>h u (Ybs _ hu)⟩
def realU:U->Option (List Value)
 | .val v=>some [v]
 | .raw _ cs=>some cs
 | .sym z=>some [.int .i64 z]
 | .sml k z=>some [.int k z]
 | .tst b=>some [.bool b]
 | _=>none
def realL:List U->Option (List Value)
 | []=>some []
 | u::l=>(realU u).bind λa=>(realL l).map (a++·)
def realA:SA->Option Value
 | .one (.val v)=>some v
 | .one (.sym z)=>some (.int .i64 z)
 | .one (.sml k z)=>some (.int k z)
 | .one (.tst b)=>some (.bool b)
 | .one _=>none
 | .agg l=>(realL l).map λcs=>.agg cs.toArray
def realAs:List SA->Option (List Value)
 | []=>some []
 | x::l=>(realA x).bind λa=>(realAs l).map (a::·)
def realV:SV->Option Value
 | .a x=>realA x
 | .tup l=>(realAs l).map λvs=>.tuple vs.toArray
 | .no=>none
theorem Zqo:∀{u:U} {a cs:List Value},realU u=some a->denU D ρ w u cs->cs=a
 | .val v,a,cs,h,⟨e,_⟩=>by cases h;exact e
 | .raw _ _,a,cs,h,⟨e,_⟩=>by cases h;exact e
 | .sym _,a,cs,h,e=>by cases h;exact e
 | .sml _ _,a,cs,h,e=>by cases h;exact e
 | .tst _,a,cs,h,e=>by cases h;exact e
theorem Zj5:∀{l:List U} {a cs:List Value},realL l=some a->denL D ρ w l cs->cs=a
 | [],a,cs,h,e=>by cases h;exact e
 | u :: l, a, cs, h, ⟨c, d, e, hc, hd⟩ => by
   unfold realL at h;obtain⟨x,hx,h2⟩:=Ybg.1 h;obtain⟨y,hy,rfl⟩:=Yad.1 h2;rw[e,Zqo hx hc,Zj5 hy hd]
theorem Zj6:∀{x:SA} {a v:Value},realA x=some a->denA D ρ w x v->v=a
 | .one (.val u), a, v, h, e => by
   cases h;have:=e.1;simpa using this
 | .one (.sym z), a, v, h, e => by
   cases h;simpa[denA,denU]using e
 | .one (.sml k z), a, v, h, e => by
   cases h;simpa[denA,denU]using e
 | .one (.tst z), a, v, h, e => by
   cases h;simpa[denA,denU]using e
 | .agg l, a, v, h, ⟨cs, e, hl⟩ => by
   unfold realA at h;obtain⟨y,hy,rfl⟩:=Yad.1 h;rw[e,Zj5 hy hl]
theorem Zh5:∀{l:List SA} {a vs:List Value},realAs l=some a->denAs D ρ w l vs->vs=a
 | [],a,cs,h,e=>by cases h;exact e
 | x :: l, a, cs, h, ⟨v, r, e, hv, hr⟩ => by
   unfold realAs at h;obtain⟨y,hy,h2⟩:=Ybg.1 h;obtain⟨z,hz,rfl⟩:=Yad.1 h2;rw[e,Zj6 hy hv,Zh5 hz hr]
theorem Zgr:∀{x:SV} {a v:Value},realV x=some a->denV D ρ w x v->v=a
 | .a x,a,v,h,e=>Zj6 h e
 | .tup l, a, v, h, ⟨vs, e, hl⟩ => by
   unfold realV at h;obtain⟨y,hy,rfl⟩:=Yad.1 h;rw[e,Zh5 hy hl]
def ncase {α:Type} (n:Nat) (f:Nat->α):α:=
 match n with
 | 0=>f 0
 | k+1=>f (k+1)
theorem Zek {α:Type} (n:Nat) (f:Nat->α):ncase n f=f n:=by cases n<;>rfl
def icase {α:Type} (z:Int) (f:Int->α):α:=
 match z with
 | .ofNat n=>ncase n λm=>f (.ofNat m)
 | .negSucc n=>ncase n λm=>f (.negSucc m)
theorem Zcx {α:Type} (z:Int) (f:Int->α):icase z f=f z:=by cases z<;>simp only[icase,Zek]
def qcase {α:Type} (q:Rat) (f:Rat->α):α:=icase q.num λn=>ncase q.den λd=>f (mkRat n d)
theorem Zit {α:Type} (q:Rat) (f:Rat->α):qcase q f=f q:=by
 unfold qcase;rw[Zcx,Zek,Rat.mkRat_self]
def ofValA:Value->Option SA
 | .int k z=>icase z λz=>some (.one (.val (.int k z)))
 | .bool true=>some (.one (.val (.bool true)))
 | .bool false=>some (.one (.val (.bool false)))
 | .agg cs=>if cs.toList.all (·.oneCell') then some (.agg (cs.toList.map .val)) else none
 | v=>if v.oneCell' then some (.one (.val v)) else none
def ofVals:List Value->Option (List SA)
 | []=>some []
 | v::r=>(ofValA v).bind λa=>(ofVals r).map (a::·)
def ofVal:Value->Option SV
 | .tuple vs=>(ofVals vs.toList).map .tup
 | v=>(ofValA v).map .a
theorem Zh6 {v:Value} {x:SA} (h:ofValA v=some x):denA D ρ w x v:=by
 unfold ofValA at h;split at h
 ·rw[Zcx]at h
  cases h;exact⟨rfl,rfl⟩
 ·cases h
  exact⟨rfl,rfl⟩
 ·cases h
  exact⟨rfl,rfl⟩
 ·rename_i cs
  split at h
  ·rename_i hc
   cases h;exact⟨cs.toList,rfl,Zdm _ λv hv=>Ybn.1 hc v hv⟩
  ·cases h
 ·split at h
  ·rename_i hc
   cases h;exact⟨rfl,hc⟩
  ·cases h
theorem Zh7:∀{vs:List Value} {l:List SA},ofVals vs=some l->denAs D ρ w l vs
 | [],l,h=>by cases h;rfl
 | v :: r, l, h => by
   unfold ofVals at h;obtain⟨a,ha,h2⟩:=Ybg.1 h;obtain⟨m,hm,rfl⟩:=Yad.1 h2;exact⟨v,r,rfl,Zh6 ha,Zh7 hm⟩
theorem Zj7 {v:Value} {x:SV} (h:ofVal v=some x):denV D ρ w x v:=by
 unfold ofVal at h;split at h
 ·rename_i vs
  obtain⟨l,hl,rfl⟩:=Yad.1 h;exact⟨vs.toList,Zs,Zh7 hl⟩
 ·obtain⟨l,hl,rfl⟩:=Yad.1 h
  exact Zh6 hl
end
end Go.Ex
namespace Go.Mono
open Go.RowKit
def RdF (w:World) (p:Option Addr) (n c:Nat) (f:Nat->Int):Prop:=
 n<=c∧n<=140737488351232∧(0<n->∃b off,p=some ⟨b,off,none⟩∧b<w.heap.size∧(∀i,i<n->w.cell? ⟨b,off+i,none⟩=some (.int .i64 (f i))))
theorem RdF.below {w w':World} {p:Option Addr} {n c:Nat} {f:Nat->Int} (h:RdF w p n c f) (hB:Below w.heap.size w w'):RdF w' p n c f:=by
 obtain⟨h1,h2,h3⟩:=h;refine⟨h1,h2,λhn=>?_⟩;obtain⟨b,off,hp,hb,hc⟩:=h3 hn;exact⟨b,off,hp,Yaf hb hB.size,λi hi=>(hB.cell hb).trans (hc i hi)⟩
end Go.Mono
namespace Go.Proofs.W
open Go.RowKit Go.Mono
theorem Zgx (z lo hi:Int) (B0 B1:Nat) (w:World) (b0:Box w B0 3 #[.int .i64 lo]) (b1:Box w B1 3 #[.int .i64 hi]) (h1:lo<=z) (h2:z<=hi) :
  Calls Tryz.prog 242 #[.int .i64 z,.pointer (some ⟨B0,0,none⟩),.pointer (some ⟨B1,0,none⟩)] w λe w'=>e=.returned (.bool false)∧w'=w:=by
 have c0:=b0.cell;have c1:=b1.cell;have e1:¬(z<lo):=Zo;have e2:¬(hi<z):=Zo;go_enter Tryz.func242,Tryz.ntmps242
 go_wp2
 go_ret
 exact⟨rfl,rfl⟩
theorem Zoo (n:Nat) (p:Option Addr) (c:Nat) (f:Nat->Int) (g:Nat) (eg:∀args w,(callFunc g args).run Tryz.prog w=.ok (.enter g args) w) (cap:Array Value) (w:World) (h:RdF w p n c f)
  (hf:∀i,i<n->Calls Tryz.prog g (#[.int .i64 (f i)]++cap) w λe w'=>e=.returned (.bool false)∧w'=w) :
  Calls Tryz.prog 249 #[.slice p n c,.func (.func g) #[] cap] w λe w'=>e=.returned (.int .i64 (-1))∧w'=w:=by
 obtain⟨hc1,hn1,hx1⟩:=h;go_enter Tryz.func249,Tryz.ntmps249
 go_wp2
 go_loopw [8] (λa wr=>∃k:Nat,k<=n∧a=.int .i64 (k:Int)∧wr=w) (λa _=>(n-intOf a).toNat)
 case atStart=>exact⟨0,Yat _,rfl,rfl⟩
 case round=>
  obtain⟨k,hk,rfl,rfl⟩:=hrel;by_cases h0:k<n
  ·obtain⟨b,off,rfl,hb,hcell⟩:=hx1 Zo
   have a1:=hcell k Zo;have hfk:=hf k h0;clear hcell hx1 hf;have h0':(k:Int)<n:=Zo;go_wp2
   refine hfk.mono ?_;rintro e w' ⟨rfl,rfl⟩;go_wp2
   go_roundw
   case rel=>refine⟨k+1,Zo,?_⟩;simp
   case measure=>simp[intOf];omega
  ·obtain rfl:k=n:=by omega
   go_wp2
   go_ret
   exact⟨rfl,rfl⟩
theorem Zi4 (n:Nat) (p:Option Addr) (c:Nat) (f:Nat->Int) (g:Nat) (eg:∀args w,(callFunc g args).run Tryz.prog w=.ok (.enter g args) w) (cap:Array Value) (w:World) (h:RdF w p n c f)
  (hf:∀i,i<n->Calls Tryz.prog g (#[.int .i64 (f i)]++cap) w λe w'=>e=.returned (.bool false)∧w'=w) :
  Calls Tryz.prog 241 #[.slice p n c,.func (.func g) #[] cap] w λe w'=>e=.returned (.bool false)∧w'=w:=by
 have hi:=Zoo n p c f g eg cap w h hf;clear h hf;go_enter Tryz.func241,Tryz.ntmps241
 go_wp2_with (go_at_call 249;refine hi.mono ?_;rintro e w' ⟨rfl,rfl⟩)
 go_ret
 exact⟨rfl,rfl⟩
theorem Zdn:∀args w,(callFunc 242 args).run Tryz.prog w=.ok (.enter 242 args) w:=Go.Proofs.enters_of Tryz.func242 Zk rfl
theorem Zfk (lo hi:Int) (n:Nat) (p:Option Addr) (c:Nat) (f:Nat->Int) (w:World) (h:RdF w p n c f) (h1:∀i,i<n->lo<=f i∧f i<=hi) :
  Calls Tryz.prog 224 #[.int .i64 lo,.int .i64 hi,.slice p n c] w λe w'=>e=.returned (.bool true)∧Below w.heap.size w w':=by
 have hmf:∀(fn:Fn) (first cap:Array Value) (w:World),(Instr.makeFunc fn first cap).run Tryz.prog w=.ok (.func fn first cap) w:=λ_ _ _ _=>rfl;go_enter Tryz.func224,Tryz.ntmps224
 go_wp2_with fail
 refine Zbj λW hB hs b0 b1=>?_;replace h:=h.below hB;refine(Zi4 n p c f _ Zdn _ W h λi hi=>?_).mono ?_
 ·exact Zgx _ _ _ _ _ W b0 b1 (h1 i hi).1 (h1 i hi).2
 rintro e W1 ⟨rfl,rfl⟩;go_wp2
 go_ret
 exact⟨rfl,hB⟩
theorem Zdy (m:Int) (n:Nat) (p:Option Addr) (c:Nat) (f:Nat->Int) (w:World) (h:RdF w p n c f) (hm0:0<=m) (hm1:m<=1000000000) (h1:∀i,i<n->-m<=f i∧f i<=m) :
  Calls Tryz.prog 228 #[.int .i64 m,.slice p n c] w λe w'=>e=.returned (.bool true)∧Below w.heap.size w w':=by
 have hb:=Zfk (-m) m n p c f w h h1;clear h h1;go_enter Tryz.func228,Tryz.ntmps228
 go_wp2_with (go_at_call 224;refine hb.mono ?_;rintro e w' ⟨rfl,hb⟩)
 go_ret
 exact⟨rfl,hb⟩
end Go.Proofs.W
namespace Go.Mono
def Flm.join (f g:Flm):Flm:=⟨f.ix,f.p*g.q+g.p*f.q,f.q*g.q-f.p*g.p⟩
end Go.Mono
namespace Go.Ex
open Go.RowKit Go.Mono
section
def pureOf {α:Type} (P:Program):Sem α->Option α
 | .pure a=>some a
 | .program k=>pureOf P (k P)
 | .mark _ k=>pureOf P k
 | _=>none
theorem Zc8 {α:Type} {P:Program}:∀{s:Sem α} {x:α},pureOf P s=some x->∀w,s.run P w=.ok x w
 | .pure a,x,h,w=>by simp only[pureOf,Ybp]at h;subst h;rfl
 | .program k,x,h,w=>by simp only[pureOf]at h;exact Zc8 h w
 | .mark _ k,x,h,w=>by simp only[pureOf]at h;exact Zc8 h w
def szOf (P:Program) (t:TypeId):Option Nat:=(P.info? t).map (·.size)
def rowT (P:Program) (t:TypeId):Option Bool:=(P.underlying t).map TypeDesc.isRow
section
variable {P:Program} {w:World} {B off:Nat}
theorem Zcl {t:TypeId} {n:Nat} (h:szOf P t=some n) (w:World):(sizeOf t).run P w=.ok n w:=by
 obtain⟨i,hi,rfl⟩:=Yad.1 h;unfold sizeOf typeInfo;simp[hi]
theorem Zf7 {t:TypeId} {b:Bool} (h:rowT P t=some b) (w:World):(isAgg t).run P w=.ok b w:=by
 obtain⟨d,hd,rfl⟩:=Yad.1 h;unfold isAgg;simp only[Yar,run_underlying hd,Yag];cases d<;>rfl
theorem Zj8 {s f:Nat} {fs:Array Field} {fl:Field} {n:Nat} (hs:P.underlying s=some (.struct fs)) (hf:fs[f]? = some fl) (hz:szOf P fl.type=some (n+1)) :
  (Instr.fieldAt s (.pointer (some ⟨B,off,none⟩)) f).run P w=.ok (.pointer (some ⟨B,off+fl.offset,none⟩)) w:=by
 unfold Instr.fieldAt;simp only[Yar,run_underlying hs,Yag,hf,Instr.sureAddr,Yau,fieldPlace,Zcl hz];simp[Yem]
theorem Zcm {t e len cap:Nat} {k:IntKind} {i:Int} {n:Nat} (hs:P.underlying t=some (.slice e)) (hz:szOf P e=some n) (hi:0<=i∧i<len) :
  (Instr.indexAt t (.slice (some ⟨B,off,none⟩) len cap) (.int k i)).run P w=.ok (.pointer (some ⟨B,off+i.toNat*n,none⟩)) w:=by
 unfold Instr.indexAt;simp only[Yar,asIntOf,run_underlying hs,Yag,Yau,if_pos hi,Zcl hz,Yem]
theorem Ziu {t e len:Nat} {k:IntKind} {i:Int} {n:Nat} (hs:P.underlying t=some (.array len e)) (hz:szOf P e=some n) (hi:0<=i∧i<len) :
  (Instr.indexAt t (.pointer (some ⟨B,off,none⟩)) (.int k i)).run P w=.ok (.pointer (some ⟨B,off+i.toNat*n,none⟩)) w:=by
 unfold Instr.indexAt;simp only[Yar,asIntOf,run_underlying hs,Yag,Yau,Instr.sureAddr,if_pos hi,Zcl hz,Yem]
end
def fieldAddrS (P:Program) (s:TypeId) (x:Option SV) (f:Nat):Option SV:=
 match x with
 | some (.a (.one (.ptr k off))) => match P.underlying s with
   | some (.struct fs) => match fs[f]? with
     | some fl => match szOf P fl.type with
       | some (_+1)=>some (.a (.one (.ptr k (off+fl.offset))))
       | _=>none
     | none=>none
   | _=>none
 | _=>none
def indexAddrS (P:Program) (t:TypeId) (x ix:Option SV):Option SV:=
 match x,ix with
 | some (.a (.one (.ptr k off))), some (.a (.one (.val (.int _ i)))) => match P.underlying t with
   | some (.array n e) => match szOf P e with
     | some s=>if 0<=i∧i<n then some (.a (.one (.ptr k (off+i.toNat*s)))) else none
     | none=>none
   | _=>none
 | some (.a (.one (.slc k off len _))), some (.a (.one (.val (.int _ i)))) => match P.underlying t with
   | some (.slice e) => match szOf P e with
     | some s=>if 0<=i∧i<len then some (.a (.one (.ptr k (off+i.toNat*s)))) else none
     | none=>none
   | _=>none
 | some (.a (.one (.sli k off len))), some (.a (.one (.val (.int _ i)))) => match P.underlying t with
   | some (.slice e) => match szOf P e with
     | some s=>if 0<=i∧i<len then some (.a (.one (.ptr k (off+i.toNat*s)))) else none
     | none=>none
   | _=>none
 | some (.a (.one (.own k len _))), some (.a (.one (.val (.int _ i)))) => match P.underlying t with
   | some (.slice e) => match szOf P e with
     | some s=>if 0<=i∧i<len then some (.a (.one (.ptr k (i.toNat*s)))) else none
     | none=>none
   | _=>none
 | some (.a (.one (.slx k off m _))), some (.a (.one (.val (.int _ i)))) => match P.underlying t with
   | some (.slice e) => match szOf P e with
     | some s=>if 0<=i∧i<m then some (.a (.one (.ptr k (off+i.toNat*s)))) else none
     | none=>none
   | _=>none
 | _,_=>none
def partS (P:Program) (t:TypeId) (l:List U) (off:Nat):Option SV:=
 match rowT P t,szOf P t with
 | some true,some n=>(subX l off n).map λm=>.a (.agg m)
 | some false, some _ => match subX l off 1 with
   | some [u]=>some (.a (.one u))
   | _=>none
 | _,_=>none
def fieldS (P:Program) (t:TypeId) (x:Option SV) (f:Nat):Option SV:=
 match x with
 | some (.a (.agg l)) => match P.underlying t with
   | some (.struct fs) => match fs[f]? with
     | some fl=>partS P fl.type l fl.offset
     | none=>none
   | _=>none
 | _=>none
def indexS (P:Program) (t:TypeId) (x ix:Option SV):Option SV:=
 match x,ix with
 | some (.a (.agg l)), some (.a (.one (.val (.int _ i)))) => match P.underlying t with
   | some (.array n e) => match szOf P e with
     | some s=>if 0<=i∧i<n then partS P e l (i.toNat*s) else none
     | none=>none
   | _=>none
 | _,_=>none
section
variable {D:Den} {P:Program} {ρ:Nm} {wc w:World}
theorem Znb {t:TypeId} {l:List U} {off:Nat} {x:SV} {cs:List Value} (h:partS P t l off=some x) (hl:denL D ρ wc l cs) :
  ∃v,(part t cs.toArray off).run P w=.ok v w∧denV D ρ wc x v:=by
 unfold partS at h;split at h
 ·rename_i n hr hz
  obtain⟨m,hm,rfl⟩:=Yad.1 h;obtain⟨h1,h2⟩:=Zf6 hm hl;refine⟨.agg ((cs.drop off).take n).toArray,?_,_,rfl,h1⟩;unfold part;simp only[Yar,Zf7 hr,Yag,if_true,Zcl hz,Yau];congr 2
  apply Yee.1;simp[List.extract_eq_take_drop]
 ·rename_i n hr hz
  split at h
  ·rename_i u hu
   cases h;obtain⟨h1,h2⟩:=Zf6 hu hl;obtain⟨c,d,e,hc,hd⟩:=h1;obtain rfl:d=[]:=hd;rw[Ydg]at e;rw[e]at h2;obtain⟨v,rfl⟩:∃v,c=[v]:=Ydr.1 h2;refine⟨v,?_,hc⟩;have hv:cs[off]? = some v:=by
    have:=congrArg (·[0]?) e;simpa using this
   unfold part;simp only[Yar,Zf7 hr,Yag,Ybq,if_false,List.getElem?_toArray,hv,Yau]
  ·cases h
 ·cases h
end
end
end Go.Ex
namespace Go.Mono
def isLetter (z:Int):Prop:=(65<=z∧z<=90)∨(97<=z∧z<=122)∨(48<=z∧z<=57)∨z=45∨z=95
end Go.Mono
namespace Go.Proofs.W
open Go.RowKit Go.Mono
theorem Zrc (z:Int) (h:isLetter z) (w:World) :
  Calls Tryz.prog 214 #[.int .u8 z] w λe w'=>e=.returned (.bool true)∧w'=w:=by
 rcases h with ⟨h1,h2⟩|⟨h1,h2⟩|⟨h1,h2⟩|rfl|rfl
 ·go_enter Tryz.func214,Tryz.ntmps214
  go_wp2
  go_ret
  exact⟨rfl,rfl⟩
 ·have h3:65<=z:=by omega
  have h4:¬(z<=90):=Zo;go_enter Tryz.func214,Tryz.ntmps214
  go_wp2
  go_ret
  exact⟨rfl,rfl⟩
 ·have h3:¬(65<=z):=by omega
  have h4:¬(97<=z):=Zo;go_enter Tryz.func214,Tryz.ntmps214
  go_wp2
  go_ret
  exact⟨rfl,rfl⟩
 ·go_enter Tryz.func214,Tryz.ntmps214
  go_wp2
  go_ret
  exact⟨rfl,rfl⟩
 ·go_enter Tryz.func214,Tryz.ntmps214
  go_wp2
  go_ret
  exact⟨rfl,rfl⟩
theorem Zl7 (s:ByteArray) (h0:1<=s.size) (h1:s.size<=16) (hl:∀i (hi:i<s.size),isLetter (s[i].toNat:Int)) (w:World) :
  Calls Tryz.prog 191 #[.string s] w λe w'=>e=.returned (.bool true)∧w'=w:=by
 go_enter Tryz.func191,Tryz.ntmps191
 go_wp2
 go_loopw [6] (λa wr=>∃k:Nat,k<=s.size∧a=.int .i64 (k:Int)∧wr=w) (λa _=>(s.size-intOf a).toNat)
 case atStart=>exact⟨0,Yat _,rfl,rfl⟩
 case round=>
  obtain⟨k,hk,rfl,rfl⟩:=hrel;by_cases hks:k<s.size
  ·have hlk:=Zrc _ (hl k hks) wr
   have h0':(k:Int)<s.size:=Zo;have hg:s.data[k]? = some s[k]:=by
    rw[Yby (by exact hks)];rfl
   clear hl;go_wp2_with (go_at_call 214;refine hlk.mono ?_;rintro e w' ⟨rfl,rfl⟩)
   go_roundw
   case rel=>refine⟨k+1,Zo,?_⟩;simp
   case measure=>simp[intOf];omega
  ·obtain rfl:k=s.size:=by omega
   have h0':(1:Int)<=s.size:=Zo;have h1':(s.size:Int)<=16:=Zo;go_wp2
   go_ret
   exact⟨rfl,rfl⟩
end Go.Proofs.W
namespace Go.Mono
def Mov (N D:Nat) (x:Mat):Prop:=∃d,d<=D∧Ov N d x.a∧Ov N d x.b∧Ov N d x.c∧Ov N d x.d
def bnd:Nat:=4000000000000000000000
theorem Mov.parts {N D N' D':Nat} {x y:Mat} (h:Mov N D x) (g:Mov N' D' y):∃d,d<=D*D'∧
  (∀u v,(u=x.a∨u=x.b∨u=x.c∨u=x.d)->(v=y.a∨v=y.b∨v=y.c∨v=y.d)->Ov (N*N') d (u*v)):=by
 obtain⟨d,hd,a,b,c,e⟩:=h;obtain⟨d',hd',a',b',c',e'⟩:=g;refine⟨d*d',Ybv hd hd',?_⟩;intro u v hu hv;rcases hu with rfl|rfl|rfl|rfl<;>rcases hv with rfl|rfl|rfl|rfl<;>exact Ov.mul (by assumption) (by assumption)
theorem Mov.mul {N D N' D':Nat} {x y:Mat} (h:Mov N D x) (g:Mov N' D' y):Mov (2*(N*N')) (D*D') (x.mul y):=by
 obtain⟨d,hd,hp⟩:=h.parts g;rw[Nat.two_mul];exact⟨d,hd,(hp _ _ Zs Zs).sub_same (hp _ _ Zs Zs),(hp _ _ Zs Zs).add_same (hp _ _ Zs Zs),(hp _ _ Zs Zs).add_same (hp _ _ Zs Zs),(hp _ _ Zs Zs).sub_same (hp _ _ Zs Zs)⟩
theorem Mov.one:Mov 1 1 Mat.one:=by
 have h0:Ov 1 1 (0:Rat):=Ov.of 0 1 Zd 1 Zd;have h1:Ov 1 1 (1:Rat):=Ov.of 1 1 Zd 1 Zd;exact⟨1,Yab _,h1,h0,h0,h1⟩
end Go.Mono
