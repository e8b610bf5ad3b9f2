/- Contracts of package paraxial,and a verified evaluator. Part 15 of 28. No condition beside the row. -/
import Derived.Test.YtfgmlkjibdegfaaGreatDoorA02
import Derived.Test.YtfgmlkjibdegfaaGreatDoorA14
set_option linter.unusedVariables false
set_option linter.unusedSimpArgs false
set_option maxRecDepth 100000
set_option maxHeartbeats 4000000
namespace Go.Mono
open Go.RowKit
structure Srf where
 kind:Int
 curv:Int
 conic:Int
 curvx:Int
 conicx:Int
 a0:Int
 a1:Int
 a2:Int
 a3:Int
 p0:Int
 p1:Int
 order:Int
 thick:Int
 glass:ByteArray
 semi:Int
 hole:Int
 dx:Int
 dy:Int
 ax:Int
 ay:Int
 az:Int
 co:List Flm:=[]
def Srf.cs (s:Srf) (p:Option Addr) (c:Nat):Array Value:=
 #[.int .i64 s.kind,.int .i64 s.curv,.int .i64 s.conic,.int .i64 s.curvx,.int .i64 s.conicx,.int .i64 s.a0,.int .i64 s.a1,.int .i64 s.a2,.int .i64 s.a3,.int .i64 s.p0,.int .i64 s.p1,.int .i64 s.order,.int .i64 s.thick,.string s.glass,.int .i64 s.semi,.int .i64 s.hole,.int .i64 s.dx,.int .i64 s.dy,.int .i64 s.ax,.int .i64 s.ay,.int .i64 s.az,.slice p s.co.length c]
def NameOk (s:ByteArray):Prop:=1<=s.size∧s.size<=16∧∀i (hi:i<s.size),isLetter (s[i].toNat:Int)
def mirror:ByteArray:={data:=#[77,73,82,82,79,82]}
def Srf.kept (s:Srf):Srf:=
 let z:Srf:={kind:=s.kind,curv:=0,conic:=0,curvx:=0,conicx:=0,a0:=0,a1:=0,a2:=0,a3:=0,p0:=0,p1:=0,order:=0,thick:=s.thick,glass:={data:=#[]},semi:=0,hole:=0,dx:=0,dy:=0,ax:=0,ay:=0,az:=0,co:=[]}
 let all:Srf->Srf:=λz=>{z with curv:=s.curv,conic:=s.conic,glass:=s.glass,semi:=s.semi,hole:=s.hole,co:=s.co}
 if s.kind=1 then
  let z:={z with a0:=s.a0,a1:=s.a1,a2:=s.a2,a3:=s.a3}
  all (if s.order≠0∧s.glass≠mirror then {z with order:=s.order,p0:=s.p0,p1:=s.p1} else z)
 else if s.kind=2 then all {z with curvx:=s.curvx,conicx:=s.conicx}
 else if s.kind=3 then {z with dx:=s.dx,dy:=s.dy,ax:=s.ax,ay:=s.ay,az:=s.az}
 else if s.kind=4 then {z with curv:=s.curv,semi:=s.semi,hole:=s.hole}
 else all z
def In (m z:Int):Prop:=-m<=z∧z<=m
structure Srf.ok (s:Srf):Prop where
 k1:1<=s.kind
 k2:s.kind<=4
 kept:s.kept=s
 curv:In 1000000000 s.curv
 curvx:In 1000000000 s.curvx
 thick:In 1000000000 s.thick
 dx:In 1000000000 s.dx
 dy:In 1000000000 s.dy
 a0:In 1000000000 s.a0
 a1:In 1000000000 s.a1
 a2:In 1000000000 s.a2
 a3:In 1000000000 s.a3
 p0:In 1000000000 s.p0
 p1:In 1000000000 s.p1
 conic:In 100000000 s.conic
 conicx:In 100000000 s.conicx
 ax:In 90000000 s.ax
 ay:In 90000000 s.ay
 az:In 90000000 s.az
 order:In 3 s.order
 semi0:0<=s.semi
 semi1:s.semi<=1000000000
 hole0:0<=s.hole
 hole1:s.hole<=1000000000
 ring:s.semi=0∨s.hole<s.semi
 glass:s.glass = {data:=#[]}∨NameOk s.glass
 coats:s.co.length<=8
 films:∀f∈s.co,f.ok
theorem Zvl (w:World) (T:TypeId) (cs:Array Value) (n:Nat) (f:Nat->Int) (h:∀i,i<n->cs[i]? = some (.int .i64 (f i))) (hn:n<=1000):RdF (w.alloc (.cells cs T)) (some ⟨w.heap.size,0,none⟩) n n f:=by
 refine⟨Yab _,Zo,λ_=>⟨_,_,rfl,Zs,λi hi=>?_⟩⟩;rw[(Box.new w T cs).cell,Yba];exact h i hi
theorem RdF.box {w:World} {B:Nat} {T:TypeId} {cs:Array Value} (b:Box w B T cs) (off n:Nat) (f:Nat->Int) (h:∀i,i<n->cs[off+i]? = some (.int .i64 (f i))) (hn:n<=1000):RdF w (some ⟨B,off,none⟩) n n f:=by
 refine⟨Yab _,Zo,λ_=>⟨_,_,rfl,b.lt,λi hi=>?_⟩⟩;rw[b.cell];exact h i hi
end Go.Mono
namespace Go.Proofs.W
open Go.RowKit Go.Mono
theorem Zn3 (s:Srf) (hs:s.ok) (p:Option Addr) (c B:Nat) (w:World) (b0:Box w B 117 (s.cs p c)) :
  Calls Tryz.prog 239 #[.pointer (some ⟨B,0,none⟩)] w λe w'=>e=.returned (.bool true)∧Below w.heap.size w w':=by
 have cb0:=b0.cell;simp only[Srf.cs]at cb0;have h8:=hs.coats;generalize s.co.length=n at *;have hn8:(n:Int)<=8:=Zo;clear hs b0;go_enter Tryz.func239,Tryz.ntmps239
 go_wp2
 go_ret
 exact⟨rfl,Yae _ _⟩
theorem Zn4 (s:Srf) (hs:s.ok) (p:Option Addr) (c B:Nat) (w:World) (b0:Box w B 117 (s.cs p c)) :
  Calls Tryz.prog 238 #[.pointer (some ⟨B,0,none⟩)] w λe w'=>e=.returned (.bool true)∧Below w.heap.size w w':=by
 have cb0:=b0.cell;simp only[Srf.cs]at cb0;rcases hs.glass with h|h
 ·rw[h]at cb0
  go_enter Tryz.func238,Tryz.ntmps238
  go_wp2
  go_ret
  exact⟨rfl,Yae _ _⟩
 ·have hn:=Zqm s.glass h.1 h.2.1 h.2.2 w
  clear h hs b0;go_enter Tryz.func238,Tryz.ntmps238
  go_wp2_with (go_at_call 204;refine hn.mono ?_;rintro e w' ⟨rfl,rfl⟩)
  all_goals
   go_ret
   exact⟨rfl,Yae _ _⟩
theorem Zn5 (s:Srf) (hs:s.ok) (p:Option Addr) (c B:Nat) (w:World) (b0:Box w B 117 (s.cs p c)) :
  Calls Tryz.prog 237 #[.pointer (some ⟨B,0,none⟩)] w λe w'=>e=.returned (.bool true)∧Below w.heap.size w w':=by
 have cb0:=b0.cell;simp only[Srf.cs]at cb0;have h:=hs.ring;by_cases h0:s.semi=0
 ·rw[h0]at cb0
  go_enter Tryz.func237,Tryz.ntmps237
  go_wp2
  go_ret
  exact⟨rfl,Yae _ _⟩
 ·have h1:s.hole<s.semi:=by omega
  have h2:(s.semi==0)=false:=by simpa using h0
  clear h h0;go_enter Tryz.func237,Tryz.ntmps237
  go_wp2
  go_ret
  exact⟨rfl,Yae _ _⟩
theorem Zcr {v:Value} {z:Int} (w:World) (h:LgV 600 w v z) :
  Calls Tryz.prog 179 #[v] w λe w'=>e=.returned (.bool true)∧Below w.heap.size w w':=by
 obtain⟨p,n,c,f,rfl,s1,d1,e1,l1⟩:=h;obtain⟨hc1,hn1,hx1⟩:=s1.opens;by_cases hn:n=0
 ·subst hn
  have hz:decide (z<0)=false:=decide_eq_false (by simp[vf]at e1;omega);rw[hz];clear hx1;go_enter Tryz.func179,Tryz.ntmps179
  go_wp2
  go_ret
  exact⟨rfl,Zad (Yae _ _) _⟩
 ·have hn':((n:Int)==0)=false:=by simp;omega
  generalize decide (z<0)=s at *;go_enter Tryz.func179,Tryz.ntmps179
  go_wp2
  refine Zbo λW hB hs b0=>?_;go_loopw [3] (λa wr=>∃i:Nat,i<=n∧a=.int .i64 (i:Int)∧wr=W) (λa _=>(n-intOf a).toNat)
  case atStart=>exact⟨0,Yat _,rfl,rfl⟩
  case round=>
   obtain⟨i,hi,rfl,hWe⟩:=hrel;obtain rfl:W=wr:=hWe.symm;have cb0:=b0.cell;have lb0:=b0.lt;have fb0:=b0.frozen;by_cases hin:i<n
   ·obtain⟨b,off,rfl,hb,hcell⟩:=hx1 Zo
    have a1:=(hB.cell (p:=⟨b,off+i,none⟩) hb).trans (hcell i hin);have hin':(i:Int)<n:=Zo;have f0:=d1.lo i hin;have f9:=d1.hi i hin;generalize f i=x at *;clear hcell hx1;go_wp2
    go_roundw
    case rel=>exact⟨i+1,Zo,Zs,trivial⟩
    case measure=>simp[intOf];omega
   ·obtain rfl:i=n:=by omega
    have hip:0<i:=Yck hn;clear e1;obtain⟨b,off,rfl,hb,hcell⟩:=hx1 hip;have a1:=(hB.cell (p:=⟨b,off+(i-1),none⟩) hb).trans (hcell (i-1) Zo);have ht:=d1.top Zo;obtain⟨k,rfl⟩:∃k,i=k+1:=⟨i-1,Zo⟩
    simp only[Ybf]at a1 ht;have ht2:(f k != 0)=true:=by simpa using ht
    generalize f k=x at *;have hk6:(k:Int)+1<=600:=Zo;clear hcell hx1;go_wp2
    go_ret
    exact⟨rfl,hB⟩
end Go.Proofs.W
namespace Go.Ex
open Go.RowKit Go.Mono
section
def capsOf (get:Operand->Option SV):List Operand->Option (List (Nat×Nat))
 | []=>some []
 | x :: r => match get x with
   | some (.a (.one (.ptr k o)))=>(capsOf get r).map ((k,o)::·)
   | _=>none
def realO (get:Operand->Option SV):Option Operand->Option (Option Value)
 | none=>some none
 | some x=>((get x).bind realV).map some
def cutS (len:Nat) (l h m:Option Value):Option (Nat×Nat):=
 match m,(match l with
  | none=>some 0
  | some (.int .i64 (.ofNat a))=>some a
  | _=>none),(match h with
  | none=>some len
  | some (.int .i64 (.ofNat b))=>some b
  | _=>none) with
 | none,some a,some b=>if a<b∧b<=len then some (a,b) else none
 | _,_,_=>none
def loO:Option Value->Option Nat
 | none=>some 0
 | some (.int .i64 (.ofNat a))=>some a
 | _=>none
def cut3 (len:Nat) (l h m:Option Value):Option (Nat×Nat×Nat):=
 match m,h,loO l with
 | some (.int .i64 (.ofNat c)),some (.int .i64 (.ofNat b)),some a=>if a<=b∧b<=c∧c<=len then some (a,b,c) else none
 | _,_,_=>none
def cut0 (len:Nat) (l h m:Option Value):Option Nat:=
 match m,loO l,(match h with
  | none=>some len
  | h=>loO h) with
 | none,some a,some b=>if a=b∧b<=len then some a else none
 | _,_,_=>none
def cutA (k off len s:Nat) (l h m:Option Value):Option SV:=
 match cutS len l h m with
 | some (a,b)=>some (.a (.one (.sli k (off+a*s) (b-a))))
 | none => match cut3 len l h m with
   | some (a,b,c)=>some (.a (.one (.slc k (if c=a then off else off+a*s) (b-a) (c-a))))
   | none => match cut0 len l h m with
     | some _=>some (.a (.one .emp))
     | none=>none
def sliceS (P:Program) (t:TypeId) (x:Option SV) (get:Operand->Option SV) (lo hi mx:Option Operand):Option SV:=
 match realO get lo,realO get hi,realO get mx with
 | some l, some h, some m => match x, P.underlying t with
   | some (.a (.one (.slc k off len cap))), some (.slice e) => match pureOf P (Instr.sliceBounds true len cap l h m), szOf P e with
     | some (a,b,c),some s=>some (.a (.one (.slc k (if c=a then off else off+a*s) (b-a) (c-a))))
     | _,_=>none
   | some (.a (.one (.ptr k off))), some (.array n e) => match pureOf P (Instr.sliceBounds false n n l h m), szOf P e with
     | some (a,b,c),some s=>some (.a (.one (.slc k (if c=a then off else off+a*s) (b-a) (c-a))))
     | _,_=>none
   | some (.a (.one (.own k len _))), some (.slice e) => match szOf P e with
     | some s=>cutA k 0 len s l h m
     | _=>none
   | some (.a (.one (.sli k off len))), some (.slice e) => match szOf P e with
     | some s=>cutA k off len s l h m
     | _=>none
   | some (.a (.one .emp)), some (.slice e) => match szOf P e, cut0 0 l h m with
     | some _,some _=>some (.a (.one .emp))
     | _,_=>none
   | some (.a (.one (.slx k off len _))), some (.slice e) => match szOf P e, h with
     | some s,some _=>cutA k off len s l h m
     | _,_=>none
   | _,_=>none
 | _,_,_=>none
def lenS (P:Program) (c:Call) (get:Operand->Option SV):Option SV:=
 match c.callee,c.args.toList,c.argTypes.toList with
 | .builtin .len, [x], [t] => match get x, P.underlying t with
   | some (.a (.one (.slc _ _ n _))),some (.slice _)=>some (.a (.one (.val (goInt n))))
   | some (.a (.one (.sli _ _ n))),some (.slice _)=>some (.a (.one (.val (goInt n))))
   | some (.a (.one (.own _ n _))),some (.slice _)=>some (.a (.one (.val (goInt n))))
   | some (.a (.one .emp)),some (.slice _)=>some (.a (.one (.val (goInt (0:Nat)))))
   | some (.a (.one (.slx _ _ _ n))),some (.slice _)=>some (.a (.one (.sym n)))
   | some (.a (.one (.raw 1 [.slice _ n _]))),some (.slice _)=>some (.a (.one (.val (goInt n))))
   | _,_=>none
 | .builtin .cap, [x], [t] => match get x, P.underlying t with
   | some (.a (.one (.slc _ _ _ c))),some (.slice _)=>some (.a (.one (.val (goInt c))))
   | _,_=>none
 | _,_,_=>none
def loadS (P:Program) (t:TypeId) (x:Option SV) (bk:List (Nat×Blk)):Option SV:=
 match x with
 | some (.a (.one (.ptr k off))) => match bk.look k with
   | some b=>if b.dead then none else partS P t b.cells off
   | none=>none
 | _=>none
def isSelect:Op->Bool
 | .select ..=>true
 | _=>false
def realOp (P:Program) (o:Oper) (get:Operand->Option SV):Option SV:=
 if !isSelect o.op&&o.op.operands.toList.all (λx=>((get x).bind realV).isSome) then
  match pureOf P (execOp (λx=>((get x).bind realV).getD undef) o) with
  | some (.value v)=>ofVal v
  | _=>none
 else none
def bndOf (f:FuncId) (s:SA):Option SV:=
 match s.weak with
 | .one u=>some (.a (.one (.bnd f false [u])))
 | .agg l=>some (.a (.one (.bnd f true l)))
theorem Zs6 {D:Den} {ρ:Nm} {w:World} {f:FuncId} {s:SA} {r:SV} {v:Value} (h:bndOf f s=some r) (hv:denA D ρ w s v):denV D ρ w r (.func (.func f) #[v] #[]):=by
 unfold bndOf at h;have:=hv.weak;split at h
 ·rename_i u e
  cases h;rw[e]at this;exact⟨v,rfl,this⟩
 ·rename_i l e
  cases h;rw[e]at this;exact⟨v,rfl,this⟩
def evPure (P:Program) (o:Oper) (get:Operand->Option SV) (bk:List (Nat×Blk)):Option SV:=
 match o.op with
 | .move x=>get x
 | .assign x=>get x
 | .makeFunc (.func f) first caps => if first.isEmpty then (capsOf get caps.toList).map λl => .a (.one (.clo f l)) else (match first.toList, caps.toList with
   | [x], [] => match get x with
     | some (.a s)=>bndOf f s
     | _=>none
   | _,_=>none)
 | .fieldAddr s x f=>fieldAddrS P s (get x) f
 | .indexAddr t x ix => match indexAddrS P t (get x) (get ix) with
   | some r=>some r
   | none=>realOp P o get
 | .field t x f => match fieldS P t (get x) f with
   | some r=>some r
   | none=>realOp P o get
 | .index t x ix => match indexS P t (get x) (get ix) with
   | some r=>some r
   | none=>realOp P o get
 | .extract x i => match get x with
   | some (.tup l)=>(l[i]?).map .a
   | _=>none
 | .nilCheck x => match get x with
   | some (.a (.one (.ptr k off)))=>some (.a (.one (.ptr k off)))
   | some (.a (.one (.clo f l)))=>some (.a (.one (.clo f l)))
   | some (.a (.one (.bnd f g l)))=>some (.a (.one (.bnd f g l)))
   | _=>realOp P o get
 | .build t parts=>buildS P t parts.toList get
 | .load t x=>loadS P t (get x) bk
 | .slice t x lo hi mx => match sliceS P t (get x) get lo hi mx with
   | some r=>some r
   | none=>realOp P o get
 | .call c => match lenS P c get with
   | some r=>some r
   | none=>realOp P o get
 | _=>realOp P o get
section
variable {D:Den} {P:Program} {ρ:Nm} {wc w:World} {get:Operand->Option SV} {ev:Operand->Value}
theorem Zju (hg:∀x z,get x=some z->denV D ρ wc z (ev x)):∀{l:List Operand} {c:List (Nat×Nat)},capsOf get l=some c->adrs ρ c (l.map ev)
 | [],c,h=>by cases h;rfl
 | x :: r, c, h => by
   unfold capsOf at h;split at h
   ·rename_i k o hx
    obtain⟨q,hq,rfl⟩:=Yad.1 h;obtain⟨B,hB,e⟩:=hg _ _ hx;exact⟨B,_,hB,by rw[Ybz,show ev x=_ from by simpa using e],Zju hg hq⟩
   ·cases h
theorem Zim (hg:∀x z,get x=some z->denV D ρ wc z (ev x)) {x:Option Operand} {l:Option Value} (h:realO get x=some l):l=x.map ev:=by
 cases x with
 | none=>cases h;rfl
 | some x =>
   unfold realO at h;obtain⟨v,hv,rfl⟩:=Yad.1 h;obtain⟨z,hz,hr⟩:=Ybg.1 hv;rw[Yfx,Zgp hr (hg _ _ hz)]
theorem Zw3 (B off a c s:Nat):(if c=a then(⟨B,off,none⟩:Addr) else(⟨B,off,none⟩:Addr).add (a*s))=⟨B,if c=a then off else off+a*s,none⟩:=by
 split
 ·rfl
 ·rw[Yem]
theorem Zu8 {len cap:Nat} {l h m:Option Value} {a b:Nat} (e:cutS len l h m=some (a,b)) (hc:len<=cap) :
  (Instr.sliceBounds true len cap l h m).run P w=.ok (a,b,cap) w∧a<b∧b<=len:=by
 unfold cutS at e;split at e
 ·rename_i a' b' hl hh
  split at e
  ·rename_i hab
   obtain⟨rfl,rfl⟩:a'=a∧b'=b:=by simpa using e
   refine⟨?_,hab⟩;have hl0:(l=none∧a'=0)∨l=some (.int .i64 (Int.ofNat a')):=by
    split at hl
    ·cases hl;simp
    ·cases hl;simp
    ·cases hl
   have hhigh:(h=none∧b'=len)∨h=some (.int .i64 (Int.ofNat b')):=by
    split at hh
    ·cases hh;simp
    ·cases hh;simp
    ·cases hh
   have n1:a'<=b':=Zo;have n2:b'<=cap:=Zo;unfold Instr.sliceBounds;rcases hl0 with ⟨rfl,rfl⟩|rfl<;>rcases hhigh with ⟨rfl,rfl⟩|rfl<;>simp[Instr.sliceBound,asIntOf,n1,n2]
  ·cases e
 ·cases e
theorem Zp0 {l:Option Value} {a:Nat} (h:loO l=some a):(l=none∧a=0)∨l=some (.int .i64 (Int.ofNat a)):=by
 unfold loO at h;split at h
 ·cases h;simp
 ·cases h;simp
 ·cases h
theorem Zu9 {len cap:Nat} {l h m:Option Value} {a b c:Nat} (e:cut3 len l h m=some (a,b,c)) (hc:len<=cap) :
  (Instr.sliceBounds true len cap l h m).run P w=.ok (a,b,c) w:=by
 unfold cut3 at e;split at e
 ·rename_i c' b' a' hl
  split at e
  ·rename_i hab
   obtain⟨rfl,rfl,rfl⟩:a'=a∧b'=b∧c'=c:=by simpa using e
   obtain⟨n1,n2,n3⟩:=hab;have n4:c'<=cap:=Zo;unfold Instr.sliceBounds;rcases Zp0 hl with ⟨rfl,rfl⟩|rfl<;>simp[Instr.sliceBound,asIntOf,n1,n2,n4]
  ·cases e
 ·cases e
theorem Zp1 {len cap:Nat} {l h m:Option Value} {a:Nat} (e:cut0 len l h m=some a) (hc:len<=cap) :
  (Instr.sliceBounds true len cap l h m).run P w=.ok (a,a,cap) w:=by
 unfold cut0 at e;split at e
 ·rename_i a' b' hl hh
  split at e
  ·rename_i hab
   obtain rfl:a'=a:=by simpa using e
   obtain⟨rfl,n2⟩:=hab;have n4:a'<=cap:=Zo;have hhigh:(h=none∧a'=len)∨h=some (.int .i64 (Int.ofNat a')):=by
    split at hh
    ·cases hh;simp
    ·rename_i hne
     rcases Zp0 hh with ⟨h1,h2⟩|h1
     ·exact absurd h1 (by simpa using hne)
     ·exact .inr h1
   unfold Instr.sliceBounds;rcases Zp0 hl with ⟨rfl,rfl⟩|rfl<;>rcases hhigh with ⟨rfl,rfl⟩|rfl<;>simp[Instr.sliceBound,asIntOf,n4]
  ·cases e
 ·cases e
theorem Zlf {k off len s cp:Nat} {l h' m:Option Value} {r:SV} (h:cutA k off len s l h' m=some r) {B:Pl} (hB:ρ k=some B) (h1:len<=cp) {t e:TypeId} (hu:P.underlying t=some (.slice e)) (hs:szOf P e=some s) :
  ∃v,(Instr.sliceAt t (.slice (some ⟨B.blk,B.base+off,none⟩) len cp) l h' m).run P w=.ok v w∧denV D ρ wc r v:=by
 have go:∀{a b c:Nat},(Instr.sliceBounds true len cp l h' m).run P w=.ok (a,b,c) w->(Instr.sliceAt t (.slice (some ⟨B.blk,B.base+off,none⟩) len cp) l h' m).run P w=.ok (.slice (some ⟨B.blk,B.base+(if c=a then off else off+a*s),none⟩) (b-a) (c-a)) w:=by
  intro a b c g1;unfold Instr.sliceAt;simp only[Yar,run_underlying hu,Yag];unfold Instr.slice;simp only[Yar,run_underlying hu,Yag,g1,Zcl hs,Yau];congr 2
  split<;>simp[Yem,Ybj]
 unfold cutA at h;split at h
 ·rename_i a b hb
  cases h;obtain⟨g1,g2,g3⟩:=Zu8 (P:=P) (w:=w) hb h1;refine⟨_,go g1,B,cp-a,hB,Zo,?_⟩;rw[if_neg Zo]
 ·split at h
  ·rename_i a b c hb
   cases h;exact⟨_,go (Zu9 hb h1),B,hB,rfl⟩
  ·split at h
   ·rename_i a hb
    cases h;exact⟨_,go (Zp1 hb h1),some ⟨B.blk,B.base+(if cp=a then off else off+a*s),none⟩,cp-a,λhh=>(by cases hh),by rw[Ydt]⟩
   ·cases h
theorem Zp2 (hg:∀x z,get x=some z->denV D ρ wc z (ev x)) {t:TypeId} {x:Operand} {lo hi mx:Option Operand} {r:SV} (h:sliceS P t (get x) get lo hi mx=some r) :
  ∃v,(Instr.sliceAt t (ev x) (lo.map ev) (hi.map ev) (mx.map ev)).run P w=.ok v w∧denV D ρ wc r v:=by
 unfold sliceS at h;split at h
 ·rename_i l h' m hl hh hm
  rw[<-Zim hg hl,<-Zim hg hh,<-Zim hg hm];split at h
  ·rename_i k off len cap e hx hu
   split at h
   ·rename_i a b c s hb hs
    cases h;obtain⟨B,hB,e1⟩:=hg _ _ hx;rw[show ev x=_ from by simpa using e1];refine⟨.slice (some ⟨B.blk,B.base+(if c=a then off else off+a*s),none⟩) (b-a) (c-a),?_,B,hB,rfl⟩;unfold Instr.sliceAt;simp only[Yar,run_underlying hu,Yag];unfold Instr.slice;simp only[Yar,run_underlying hu,Yag,Zdb hb,Zcl hs,Yau];congr 2
    split<;>simp[Yem,Ybj]
   ·cases h
  ·rename_i k off n e hx hu
   split at h
   ·rename_i a b c s hb hs
    cases h;obtain⟨B,hB,e1⟩:=hg _ _ hx;rw[show ev x=_ from by simpa using e1];refine⟨.slice (some ⟨B.blk,B.base+(if c=a then off else off+a*s),none⟩) (b-a) (c-a),?_,B,hB,rfl⟩;unfold Instr.sliceAt;simp only[Yar,run_underlying hu,Yag,Instr.sureAddr,Zdb hb,Zcl hs,Yau];rw[Zw3];congr 2
    split<;>simp[Ybj]
   ·cases h
  ·rename_i k len sz e hx hu
   split at h
   ·rename_i s hs
    obtain⟨B,hB,h1,h2,h3,e1⟩:=hg _ _ hx;rw[show ev x=_ from by simpa using e1];have:=Zlf (D:=D) (P:=P) (w:=w) (wc:=wc) (ρ:=ρ) h hB h1 hu hs;rwa [h3,Yba]at this
   ·cases h
  ·rename_i k off len e hx hu
   split at h
   ·rename_i s hs
    obtain⟨B,cp,hB,h1,e1⟩:=hg _ _ hx;rw[show ev x=_ from by simpa using e1];exact Zlf h hB h1 hu hs
   ·cases h
  ·rename_i e hx hu
   split at h
   ·rename_i s a hs hb
    cases h;obtain⟨p,c,hp,e1⟩:=hg _ _ hx;rw[show ev x=_ from by simpa using e1];refine⟨.slice (if c=a then p else p.map (·.add (a*s))) (a-a) (c-a),?_,(if c=a then p else p.map (·.add (a*s))),c-a,λhh=>?_,by rw[Ydt]⟩
    ·unfold Instr.sliceAt
     simp only[Yar,run_underlying hu,Yag];unfold Instr.slice;simp only[Yar,run_underlying hu,Yag,Zp1 (P:=P) (w:=w) hb (Yat c),Zcl hs,Yau]
    ·split at hh
     ·omega
     ·have:p=none:=by cases p with
       | none=>rfl
       | some q=>cases hh
      rw[hp this];omega
   ·cases h
  ·rename_i k off len n e hx hu
   split at h
   ·rename_i s b hs
    obtain⟨B,cp,hB,h0,h1,e1⟩:=hg _ _ hx;rw[show ev x=_ from by simpa using e1];have hh:∀{l m:Option Value} {r:SV},cutA k off len s l (some b) m=some r->(Instr.sliceAt t (.slice (some ⟨B.blk,B.base+off,none⟩) n cp) l (some b) m).run P w=(Instr.sliceAt t (.slice (some ⟨B.blk,B.base+off,none⟩) len cp) l (some b) m).run P w:=by
     intro l m r _;unfold Instr.sliceAt;simp only[Yar,run_underlying hu,Yag];unfold Instr.slice;simp only[Yar,run_underlying hu,Yag];cases m<;>rfl
    rw[hh h];exact Zlf h hB Zo hu hs
   ·cases h
  ·cases h
 ·cases h
theorem Zcu (hg:∀x z,get x=some z->denV D ρ wc z (ev x)) {o:Oper} {r:SV} (h:realOp P o get=some r) :
  ∃v,(execOp ev o).run P w=.ok (.value v) w∧denV D ρ wc r v:=by
 unfold realOp at h;split at h
 ·rename_i hc
  rw[Yam]at hc;split at h
  ·rename_i v hv
   refine⟨v,?_,Zjr h⟩;rw[execOp_congr (ρ:=ev) (ρ':=λx=>((get x).bind realV).getD undef) o (λcs b he=>by rw[he]at hc;simp[isSelect]at hc) (λx hx=>by
    have:=Ybn.1 hc.2 x (by simpa using hx);obtain⟨y,hy⟩:=Yct.1 this;obtain⟨z,hz,hr⟩:=Ybg.1 hy;rw[hy,Option.getD_some,Zgp hr (hg _ _ hz)])]
   exact Zdb hv w
  ·cases h
 ·cases h
theorem Zin (hg:∀x z,get x=some z->denV D ρ wc z (ev x)) {s f:Nat} {x:Operand} {r:SV} (h:fieldAddrS P s (get x) f=some r) :
  ∃v,(Instr.fieldAt s (ev x) f).run P w=.ok v w∧denV D ρ wc r v:=by
 unfold fieldAddrS at h;split at h
 ·rename_i k off hx
  split at h
  ·rename_i fs hu
   split at h
   ·rename_i fl hf
    split at h
    ·rename_i n hz
     cases h;obtain⟨B,hB,e1⟩:=hg _ _ hx;rw[show ev x=_ from by simpa using e1];exact⟨.pointer (some ⟨B.blk,B.base+(off+fl.offset),none⟩),by rw[<-Ybj];exact Zjs hu hf hz,B,hB,rfl⟩
    ·cases h
   ·cases h
  ·cases h
 ·cases h
theorem Zd6 {X I:Option SV} {vx vi:Value} (hX:∀s,X=some s->denV D ρ wc s vx) (hI:∀s,I=some s->denV D ρ wc s vi) {t:Nat} {r:SV} (h:indexAddrS P t X I=some r) :
  ∃v,(Instr.indexAt t vx vi).run P w=.ok v w∧denV D ρ wc r v:=by
 unfold indexAddrS at h;split at h
 ·rename_i k off kd i
  split at h
  ·rename_i n e hu
   split at h
   ·rename_i s hz
    split at h
    ·rename_i hb
     cases h;obtain⟨B,hB,e1⟩:=hX _ rfl;rw[show vx=_ from by simpa using e1,show vi=_ from by simpa using(hI _ rfl).1];exact⟨.pointer (some ⟨B.blk,B.base+(off+i.toNat*s),none⟩),by rw[<-Ybj];exact Zil hu hz hb,B,hB,rfl⟩
    ·cases h
   ·cases h
  ·cases h
 ·rename_i k off len cap kd i
  split at h
  ·rename_i e hu
   split at h
   ·rename_i s hz
    split at h
    ·rename_i hb
     cases h;obtain⟨B,hB,e1⟩:=hX _ rfl;rw[show vx=_ from by simpa using e1,show vi=_ from by simpa using(hI _ rfl).1];exact⟨.pointer (some ⟨B.blk,B.base+(off+i.toNat*s),none⟩),by rw[<-Ybj];exact Zcm hu hz hb,B,hB,rfl⟩
    ·cases h
   ·cases h
  ·cases h
 ·rename_i k off len kd i
  split at h
  ·rename_i e hu
   split at h
   ·rename_i s hz
    split at h
    ·rename_i hb
     cases h;obtain⟨B,c,hB,hc,e1⟩:=hX _ rfl;rw[show vx=_ from by simpa using e1,show vi=_ from by simpa using(hI _ rfl).1];exact⟨.pointer (some ⟨B.blk,B.base+(off+i.toNat*s),none⟩),by rw[<-Ybj];exact Zcm hu hz hb,B,hB,rfl⟩
    ·cases h
   ·cases h
  ·cases h
 ·rename_i k len sz kd i
  split at h
  ·rename_i e hu
   split at h
   ·rename_i s hz
    split at h
    ·rename_i hb
     cases h;obtain⟨B,hB,h1,h2,h3,e1⟩:=hX _ rfl;rw[show vx=_ from by simpa using e1,show vi=_ from by simpa using(hI _ rfl).1];refine⟨.pointer (some ⟨B.blk,B.base+i.toNat*s,none⟩),?_,B,hB,rfl⟩;rw[h3,Zcm hu hz hb]
    ·cases h
   ·cases h
  ·cases h
 ·rename_i k off m n kd i
  split at h
  ·rename_i e hu
   split at h
   ·rename_i s hz
    split at h
    ·rename_i hb
     cases h;obtain⟨B,c,hB,hm,hc,e1⟩:=hX _ rfl;rw[show vx=_ from by simpa using e1,show vi=_ from by simpa using(hI _ rfl).1];exact⟨.pointer (some ⟨B.blk,B.base+(off+i.toNat*s),none⟩),by rw[<-Ybj];exact Zcm hu hz ⟨hb.1,Zo⟩,B,hB,rfl⟩
    ·cases h
   ·cases h
  ·cases h
 ·cases h
theorem Zio (hg:∀x z,get x=some z->denV D ρ wc z (ev x)) {t:Nat} {x ix:Operand} {r:SV} (h:indexAddrS P t (get x) (get ix)=some r) :
  ∃v,(Instr.indexAt t (ev x) (ev ix)).run P w=.ok v w∧denV D ρ wc r v:=Zd6 (hg x) (hg ix) h
theorem Zp3 (hg:∀x z,get x=some z->denV D ρ wc z (ev x)) {s f:Nat} {x:Operand} {r:SV} (h:fieldS P s (get x) f=some r) :
  ∃v,(Instr.field s (ev x) f).run P w=.ok v w∧denV D ρ wc r v:=by
 unfold fieldS at h;split at h
 ·rename_i l hx
  split at h
  ·rename_i fs hu
   split at h
   ·rename_i fl hf
    obtain⟨cs,e,hl⟩:=hg _ _ hx;obtain⟨v,h1,h2⟩:=Zmr (P:=P) (w:=w) h hl;refine⟨v,?_,h2⟩;rw[e];unfold Instr.field;simp only[Yar,run_underlying hu,Yag,hf,asAgg,Yau,h1]
   ·cases h
  ·cases h
 ·cases h
theorem Zh0 {X I:Option SV} {vx vi:Value} (hX:∀s,X=some s->denV D ρ wc s vx) (hI:∀s,I=some s->denV D ρ wc s vi) {t:Nat} {r:SV} (h:indexS P t X I=some r) :
  ∃v,(Instr.index t vx vi).run P w=.ok v w∧denV D ρ wc r v:=by
 unfold indexS at h;split at h
 ·rename_i l kd i
  split at h
  ·rename_i n e hu
   split at h
   ·rename_i s hz
    split at h
    ·rename_i hb
     obtain⟨cs,e1,hl⟩:=hX _ rfl;obtain⟨v,h1,h2⟩:=Zmr (P:=P) (w:=w) h hl;refine⟨v,?_,h2⟩;rw[e1,show vi=_ from by simpa using(hI _ rfl).1];unfold Instr.index;simp only[Yar,asIntOf,run_underlying hu,Yag,Yau,if_pos hb,Zcl hz,h1]
    ·cases h
   ·cases h
  ·cases h
 ·cases h
theorem Zp4 (hg:∀x z,get x=some z->denV D ρ wc z (ev x)) {t:Nat} {x ix:Operand} {r:SV} (h:indexS P t (get x) (get ix)=some r) :
  ∃v,(Instr.index t (ev x) (ev ix)).run P w=.ok v w∧denV D ρ wc r v:=Zh0 (hg x) (hg ix) h
theorem Zjv:∀{l:List SA} {vs:List Value} {i:Nat} {x:SA},denAs D ρ w l vs->l[i]? = some x->∃v,vs[i]? = some v∧denA D ρ w x v
 | [],vs,i,x,h,hx=>by simp at hx
 | y :: l, vs, i, x, ⟨v, r, e, hv, hr⟩, hx => by
   subst e;cases i with
   | zero=>simp at hx;subst hx;exact⟨v,Zs,hv⟩
   | succ i=>simp at hx;simpa using Zjv hr hx
end
end
end Go.Ex
namespace Go.Mono
open Go.RowKit
theorem Zeu (w:World) (T:TypeId) (l:List Int) (hn:l.length<=1000):RdF (w.alloc (.cells (l.map (Value.int .i64)).toArray T)) (some ⟨w.heap.size,0,none⟩) l.length l.length (λi=>l.getD i 0):=by
 refine Zvl w T _ _ _ (λi hi=>?_) hn;simp[hi]
theorem Zfi {m:Int} {l:List Int} (h:∀x∈l,In m x):∀i,i<l.length->-m<=l.getD i 0∧l.getD i 0<=m:=by
 intro i hi;have:=h l[i] (Ybw hi);simpa[hi,In]using this
end Go.Mono
namespace Go.Proofs.W
open Go.RowKit Go.Mono
theorem Zn6 (s:Srf) (hs:s.ok) (p:Option Addr) (c B:Nat) (w:World) (b0:Box w B 117 (s.cs p c)) :
  Calls Tryz.prog 233 #[.pointer (some ⟨B,0,none⟩)] w λe w'=>e=.returned (.bool true)∧Below w.heap.size w w':=by
 have cb0:=b0.cell;have bx:=λW (h:Below w.heap.size w W)=>(b0.below h).cell;simp only[Srf.cs]at cb0 bx;have h5:∀x∈[s.curv,s.curvx,s.thick,s.dx,s.dy],In 1000000000 x:=by
  intro x hx;have:=hs.curv;have:=hs.curvx;have:=hs.thick;have:=hs.dx;have:=hs.dy;simp at hx;rcases hx with rfl|rfl|rfl|rfl|rfl<;>assumption
 have h4:∀x∈[s.a0,s.a1,s.a2,s.a3],In 1000000000 x:=by
  intro x hx;have:=hs.a0;have:=hs.a1;have:=hs.a2;have:=hs.a3;simp at hx;rcases hx with rfl|rfl|rfl|rfl<;>assumption
 have h2:∀x∈[s.p0,s.p1],In 1000000000 x:=by
  intro x hx;have:=hs.p0;have:=hs.p1;simp at hx;rcases hx with rfl|rfl<;>assumption
 go_enter Tryz.func233,Tryz.ntmps233
 go_wp2_with fail
 refine(Zd0 1000000000 5 _ 5 (λi=>[s.curv,s.curvx,s.thick,s.dx,s.dy].getD i 0) _ (Zeu w 3 [s.curv,s.curvx,s.thick,s.dx,s.dy] Zs) Zo Zo (Zfi h5)).mono ?_;rintro e W1 ⟨rfl,hb1⟩;have hB1:=Zaa (Zad (Yae _ _) _) hb1;have b1:=b0.below hB1;have cb1:=bx W1 hB1;go_wp2_with fail
 refine(Zd0 1000000000 4 _ 4 (λi=>[s.a0,s.a1,s.a2,s.a3].getD i 0) _ (RdF.box b1 5 4 _ ?_ Zd) Zo Zo (Zfi h4)).mono ?_
 ·intro i hi
  rcases(by omega:i=0∨i=1∨i=2∨i=3) with rfl|rfl|rfl|rfl<;>rfl
 rintro e W2 ⟨rfl,hb2⟩;have hB2:=Zaa hB1 hb2;have b2:=b0.below hB2;have cb2:=bx W2 hB2;go_wp2_with fail
 refine(Zd0 1000000000 2 _ 2 (λi=>[s.p0,s.p1].getD i 0) _ (RdF.box b2 9 2 _ ?_ Zd) Zo Zo (Zfi h2)).mono ?_
 ·intro i hi
  rcases(by omega:i=0∨i=1) with rfl|rfl<;>rfl
 rintro e W3 ⟨rfl,hb3⟩;go_wp2
 go_ret
 exact⟨rfl,Zaa hB2 hb3⟩
theorem Zn7 (s:Srf) (hs:s.ok) (p:Option Addr) (c B:Nat) (w:World) (b0:Box w B 117 (s.cs p c)) :
  Calls Tryz.prog 235 #[.pointer (some ⟨B,0,none⟩)] w λe w'=>e=.returned (.bool true)∧Below w.heap.size w w':=by
 have cb0:=b0.cell;have bx:=λW (h:Below w.heap.size w W)=>(b0.below h).cell;simp only[Srf.cs]at cb0 bx;have h2:∀x∈[s.conic,s.conicx],In 100000000 x:=by
  intro x hx;have:=hs.conic;have:=hs.conicx;simp at hx;rcases hx with rfl|rfl<;>assumption
 have h3:∀x∈[s.ax,s.ay,s.az],In 90000000 x:=by
  intro x hx;have:=hs.ax;have:=hs.ay;have:=hs.az;simp at hx;rcases hx with rfl|rfl|rfl<;>assumption
 go_enter Tryz.func235,Tryz.ntmps235
 go_wp2_with fail
 refine(Zd0 100000000 2 _ 2 (λi=>[s.conic,s.conicx].getD i 0) _ (Zeu w 3 [s.conic,s.conicx] Zs) Zo Zo (Zfi h2)).mono ?_;rintro e W1 ⟨rfl,hb1⟩;have hB1:=Zaa (Zad (Yae _ _) _) hb1;have cb1:=bx W1 hB1;go_wp2_with fail
 refine(Zd0 90000000 3 _ 3 (λi=>[s.ax,s.ay,s.az].getD i 0) _ (Zeu W1 3 [s.ax,s.ay,s.az] Zs) Zo Zo (Zfi h3)).mono ?_;rintro e W2 ⟨rfl,hb2⟩;go_wp2
 go_ret
 exact⟨rfl,Zaa (Zad hB1 _) hb2⟩
theorem Zn8 (s:Srf) (hs:s.ok) (p:Option Addr) (c B:Nat) (w:World) (b0:Box w B 117 (s.cs p c)) :
  Calls Tryz.prog 236 #[.pointer (some ⟨B,0,none⟩)] w λe w'=>e=.returned (.bool true)∧Below w.heap.size w w':=by
 have cb0:=b0.cell;have bx:=λW (h:Below w.heap.size w W)=>(b0.below h).cell;simp only[Srf.cs]at cb0 bx;have h1:∀x∈[s.order],In 3 x:=by
  intro x hx;have:=hs.order;simp at hx;subst hx;assumption
 have h2:∀i,i<2->0<=[s.semi,s.hole].getD i 0∧[s.semi,s.hole].getD i 0<=1000000000:=by
  intro i hi;have:=hs.semi0;have:=hs.semi1;have:=hs.hole0;have:=hs.hole1;rcases(by omega:i=0∨i=1) with rfl|rfl<;>constructor<;>assumption
 go_enter Tryz.func236,Tryz.ntmps236
 go_wp2_with fail
 refine(Zd0 3 1 _ 1 (λi=>[s.order].getD i 0) _ (Zeu w 3 [s.order] Zs) Zo Zo (Zfi h1)).mono ?_;rintro e W1 ⟨rfl,hb1⟩;have hB1:=Zaa (Zad (Yae _ _) _) hb1;have cb1:=bx W1 hB1;go_wp2_with fail
 refine(Zfh 0 1000000000 2 _ 2 (λi=>[s.semi,s.hole].getD i 0) _ (Zeu W1 3 [s.semi,s.hole] Zs) h2).mono ?_;rintro e W2 ⟨rfl,hb2⟩;go_wp2
 go_ret
 exact⟨rfl,Zaa (Zad hB1 _) hb2⟩
end Go.Proofs.W
namespace Go.Ex
open Go.RowKit Go.Mono
section
section
variable {D:Den} {P:Program} {ρ:Nm} {wc w:World} {get:Operand->Option SV} {ev:Operand->Value}
theorem Zp5 {t:TypeId} {l:List U} {off:Nat} {x:SV} {cs:List Value} (h:partS P t l off=some x) (hl:denL D ρ wc l cs) :
  (∃n m,rowT P t=some true∧szOf P t=some n∧x=.a (.agg m)∧denL D ρ wc m ((cs.drop off).take n)∧((cs.drop off).take n).length=n)∨
  (∃u v,rowT P t=some false∧x=.a (.one u)∧cs[off]? = some v∧denU D ρ wc u [v]):=by
 unfold partS at h;split at h
 ·rename_i n hr hz
  obtain⟨m,hm,rfl⟩:=Yad.1 h;obtain⟨h1,h2⟩:=Zf1 hm hl;exact .inl ⟨n,m,hr,hz,rfl,h1,h2⟩
 ·rename_i n hr hz
  split at h
  ·rename_i u hu
   cases h;obtain⟨h1,h2⟩:=Zf1 hu hl;obtain⟨c,d,e,hc,hd⟩:=h1;obtain rfl:d=[]:=hd;rw[Ydg]at e;rw[e]at h2;obtain⟨v,rfl⟩:∃v,c=[v]:=Ydr.1 h2;refine .inr ⟨u,v,hr,rfl,?_,hc⟩;have:=congrArg (·[0]?) e;simpa using this
  ·cases h
 ·cases h
def Holds (w:World) (p:Pl) (T:TypeId) (sp:Bool) (cs:List Value):Prop:=
 (p.ro=true∧w.rangeAt p.blk p.base cs)∨(p.ro=false∧p.base=0∧∃rest,(sp=false->rest=[])∧(sp=true->(cs++rest).length=p.tot)∧Box w p.blk T (cs++rest).toArray)
theorem Holds.cell {w:World} {p:Pl} {T:TypeId} {sp:Bool} {cs:List Value} (h:Holds w p T sp cs) {i:Nat} {v:Value} (hi:cs[i]? = some v):w.cell? ⟨p.blk,p.base+i,none⟩=some v:=by
 rcases h with ⟨_,h⟩|⟨_,h0,rest,_,_,h⟩
 ·exact h i v hi
 ·rw[h0,Yba,h.cell]
  have:=(Yan.1 hi).1;simpa[Ybb this]using hi
theorem Zeo {w w':World} {B:Nat} (h:w'.heap[B]? = w.heap[B]?) (o:Nat):w'.cell? ⟨B,o,none⟩=w.cell? ⟨B,o,none⟩:=by
 simp only[World.cell?,h]
theorem Holds.of_block {w w':World} {p:Pl} {T:TypeId} {sp:Bool} {cs:List Value} (h:Holds w p T sp cs) (hb:w'.heap[p.blk]? = w.heap[p.blk]?):Holds w' p T sp cs:=by
 rcases h with ⟨h1,h⟩|⟨h1,h0,rest,h2,h3,h⟩
 ·exact .inl ⟨h1,λj v hj=>(Zeo hb _).trans (h j v hj)⟩
 ·exact .inr ⟨h1,h0,rest,h2,h3,⟨hb.trans h.blk⟩⟩
def BkOk (D:Den) (ρ:Nm) (wc w:World) (bk:List (Nat×Blk)):Prop:=
 ∀k b,bk.look k=some b->b.dead=false->∃B cs,ρ k=some B∧Holds w B b.T b.sp cs∧denL D ρ wc b.cells cs∧B.ro=b.ro
theorem Zmt (hg:∀x z,get x=some z->denV D ρ wc z (ev x)) {bk:List (Nat×Blk)} (hb:BkOk D ρ wc w bk) {t:TypeId} {x:Operand} {r:SV} (h:loadS P t (get x) bk=some r) :
  ∃v,(Instr.loadAt t (ev x)).run P w=.ok v w∧denV D ρ wc r v:=by
 unfold loadS at h;split at h
 ·rename_i k off hx
  split at h
  ·rename_i b hk
   split at h
   ·cases h
   rename_i hdd;obtain⟨B,cs,hB,bx,hl,_⟩:=hb k b hk (by simpa using hdd);obtain⟨B',hB',e⟩:=hg _ _ hx;cases hB.symm.trans hB';rw[show ev x=_ from by simpa using e];rcases Zp5 h hl with ⟨n,m,hr,hz,rfl,h1,h2⟩|⟨u,v,hr,rfl,hv,hu⟩
   ·refine⟨.agg ((cs.drop off).take n).toArray,?_,_,rfl,h1⟩
    obtain⟨d,hd,hd'⟩:=Yad.1 hr;refine run_loadAt_mid w B.blk (B.base+off) t _ d ?_ hd hd' (by rw[h2];exact hz);intro j v hj;rw[Ybj];refine bx.cell ?_;have hjl:j<n:=by
     have:=(Yan.1 hj).1;omega
    rw[Ycv,if_pos hjl,Yeh]at hj;simpa using hj
   ·refine⟨v,?_,hu⟩
    unfold Instr.loadAt loadVar;simp only[Yar,Instr.sureAddr,Yau,Yag,Zf2 hr,Ybq,if_false];rw[run_load,bx.cell hv]
  ·cases h
 ·cases h
theorem Zva (hg:∀x z,get x=some z->denV D ρ wc z (ev x)) {o:Oper} {c:Call} (ho:o.op=.call c) {r:SV} (h:lenS P c get=some r) :
  ∃v,(execOp ev o).run P w=.ok (.value v) w∧denV D ρ wc r v:=by
 obtain⟨cal,⟨args⟩,⟨ts⟩⟩:=c;unfold lenS at h;dsimp only at h;split at h
 ·rename_i x t
  split at h
  ·rename_i k off n cp e hx hu
   cases h;obtain⟨B,hB,e1⟩:=hg _ _ hx;have e2:ev x=.slice (some ⟨B.blk,B.base+off,none⟩) n cp:=by simpa using e1
   refine⟨goInt n,?_,rfl,rfl⟩;unfold execOp;simp only[ho,resolve,Yar,Yau,Yag,invoke,builtin,Builtin.len_];simp[e2,run_underlying hu]
  ·rename_i k off n e hx hu
   cases h;obtain⟨B,cp,hB,hc,e1⟩:=hg _ _ hx;have e2:ev x=.slice (some ⟨B.blk,B.base+off,none⟩) n cp:=by simpa using e1
   refine⟨goInt n,?_,rfl,rfl⟩;unfold execOp;simp only[ho,resolve,Yar,Yau,Yag,invoke,builtin,Builtin.len_];simp[e2,run_underlying hu]
  ·rename_i k n sz e hx hu
   cases h;obtain⟨B,hB,h1,h2,h3,e1⟩:=hg _ _ hx;have e2:ev x=.slice (some ⟨B.blk,0,none⟩) n B.cap:=by simpa using e1
   refine⟨goInt n,?_,rfl,rfl⟩;unfold execOp;simp only[ho,resolve,Yar,Yau,Yag,invoke,builtin,Builtin.len_];simp[e2,run_underlying hu]
  ·rename_i e hx hu
   cases h;obtain⟨p,cp,hp,e1⟩:=hg _ _ hx;have e2:ev x=.slice p 0 cp:=by simpa using e1
   refine⟨goInt (0:Nat),?_,rfl,rfl⟩;unfold execOp;simp only[ho,resolve,Yar,Yau,Yag,invoke,builtin,Builtin.len_];simp[e2,run_underlying hu]
  ·rename_i k off m n e hx hu
   cases h;obtain⟨B,cp,hB,h0,hc,e1⟩:=hg _ _ hx;have e2:ev x=.slice (some ⟨B.blk,B.base+off,none⟩) n cp:=by simpa using e1
   refine⟨goInt n,?_,rfl⟩;unfold execOp;simp only[ho,resolve,Yar,Yau,Yag,invoke,builtin,Builtin.len_];simp[e2,run_underlying hu]
  ·rename_i p n c e hx hu
   cases h;have e2:ev x=.slice p n c:=by
    have:=hg _ _ hx;simp[denV,denA,denU]at this;exact this.1
   refine⟨goInt n,?_,rfl,rfl⟩;unfold execOp;simp only[ho,resolve,Yar,Yau,Yag,invoke,builtin,Builtin.len_];simp[e2,run_underlying hu]
  ·cases h
 ·rename_i x t
  split at h
  ·rename_i k off n cp e hx hu
   cases h;obtain⟨B,hB,e1⟩:=hg _ _ hx;have e2:ev x=.slice (some ⟨B.blk,B.base+off,none⟩) n cp:=by simpa using e1
   refine⟨goInt cp,?_,rfl,rfl⟩;unfold execOp;simp only[ho,resolve,Yar,Yau,Yag,invoke,builtin,Builtin.cap_];simp[e2,run_underlying hu]
  ·cases h
 ·cases h
theorem Zjw (hg:∀x z,get x=some z->denV D ρ wc z (ev x)) {bk:List (Nat×Blk)} (hb:BkOk D ρ wc w bk) {o:Oper} {r:SV} (h:evPure P o get bk=some r) :
  ∃v,(execOp ev o).run P w=.ok (.value v) w∧denV D ρ wc r v:=by
 have viaV:∀{s:Sem Value},(∃v,s.run P w=.ok v w∧denV D ρ wc r v)->∃v,(do pure (Next.value (<-s)):Sem Next).run P w=.ok (.value v) w∧denV D ρ wc r v:=by
  rintro s ⟨v,h1,h2⟩;exact⟨v,by simp only[Yar,h1,Yag,Yau],h2⟩
 unfold evPure at h;split at h
 ·rename_i x ho
  exact⟨ev x,by unfold execOp;rw[ho];rfl,hg _ _ h⟩
 ·rename_i x ho
  exact⟨ev x,by unfold execOp;rw[ho];rfl,hg _ _ h⟩
 ·rename_i f first caps ho
  split at h
  ·rename_i hf
   obtain⟨l,hl,rfl⟩:=Yad.1 h;have hc:=Zju hg hl;have hfe:first = #[]:=Array.isEmpty_iff.1 hf
   subst hfe;refine⟨.func (.func f) #[] (caps.map ev),by unfold execOp;simp[ho,Instr.makeFunc],_,hc,?_⟩;congr 2
   apply Yee.1;simp
  ·split at h
   ·rename_i x hx hc
    split at h
    ·rename_i s hs
     obtain⟨fl⟩:=first
     obtain⟨cl⟩:=caps;obtain rfl:fl=[x]:=hx;obtain rfl:cl=[]:=hc;exact⟨.func (.func f) #[ev x] #[],by unfold execOp;simp[ho,Instr.makeFunc],Zs6 h (hg _ _ hs)⟩
    ·cases h
   ·cases h
 ·rename_i s x f ho
  unfold execOp;rw[ho];exact viaV (Zin hg h)
 ·rename_i t x ix ho
  split at h
  ·rename_i r' hr
   cases h;unfold execOp;rw[ho];exact viaV (Zio (x:=x) (ix:=ix) hg hr)
  ·exact Zcu hg h
 ·rename_i t x f ho
  split at h
  ·rename_i r' hr
   cases h;unfold execOp;rw[ho];exact viaV (Zp3 hg hr)
  ·exact Zcu hg h
 ·rename_i t x ix ho
  split at h
  ·rename_i r' hr
   cases h;unfold execOp;rw[ho];exact viaV (Zp4 (x:=x) (ix:=ix) hg hr)
  ·exact Zcu hg h
 ·rename_i x i ho
  split at h
  ·rename_i l hx
   obtain⟨y,hy,rfl⟩:=Yad.1 h;obtain⟨vs,e,hl⟩:=hg _ _ hx;obtain⟨v,hv,hd⟩:=Zjv hl hy;unfold execOp;rw[ho];refine viaV ⟨v,?_,hd⟩;rw[e];simp[Instr.extract,hv]
  ·cases h
 ·rename_i x ho
  split at h
  ·rename_i k off hx
   cases h;have hd:=hg _ _ hx;obtain⟨B,hB,e1⟩:=hd;have e2:ev x=.pointer (some ⟨B.blk,B.base+off,none⟩):=by simpa using e1
   refine⟨ev x,?_,B,hB,e1⟩;unfold execOp;rw[ho];simp only[e2];rfl
  ·rename_i f l hx
   cases h;have hd:=hg _ _ hx;obtain⟨vs,hv,e1⟩:=hd;have e2:ev x=.func (.func f) #[] vs.toArray:=by simpa using e1
   refine⟨ev x,?_,vs,hv,e1⟩;unfold execOp;rw[ho];simp only[e2];rfl
  ·rename_i f g l hx
   cases h;have hd:=hg _ _ hx;obtain⟨u,e1,hu⟩:=hd;have e2:ev x=.func (.func f) #[u] #[]:=by simpa using e1
   refine⟨ev x,?_,u,e1,hu⟩;unfold execOp;rw[ho];simp only[e2];rfl
  ·exact Zcu hg h
 ·rename_i t parts ho
  unfold execOp;rw[ho];exact viaV (Zpz hg h w)
 ·rename_i t x ho
  unfold execOp;rw[ho];exact viaV (Zmt hg hb h)
 ·rename_i t x lo hi mx ho
  split at h
  ·rename_i r' hr
   cases h;unfold execOp;rw[ho];exact viaV (Zp2 hg hr)
  ·exact Zcu hg h
 ·rename_i c ho
  split at h
  ·rename_i r' hr
   cases h;exact Zva hg ho hr
  ·exact Zcu hg h
 ·exact Zcu hg h
end
end
end Go.Ex
namespace Go.Mono
open Go.RowKit
def RdC (w:World) (p:Option Addr) (n c sz:Nat) (cell:Nat->Nat->Value):Prop:=
 n<=c∧n<=140737488351232∧(0<n->∃b off,p=some ⟨b,off,none⟩∧b<w.heap.size∧(∀i j,i<n->j<sz->w.cell? ⟨b,off+i*sz+j,none⟩=some (cell i j)))
theorem RdC.below {w w':World} {p:Option Addr} {n c sz:Nat} {f:Nat->Nat->Value} (h:RdC w p n c sz f) (hB:Below w.heap.size w w'):RdC w' p n c sz f:=by
 obtain⟨h1,h2,h3⟩:=h;refine⟨h1,h2,λhn=>?_⟩;obtain⟨b,off,hp,hb,hc⟩:=h3 hn;exact⟨b,off,hp,Yaf hb hB.size,λi j hi hj=>(hB.cell hb).trans (hc i j hi hj)⟩
def FilmsAt (w:World) (p:Option Addr) (n c:Nat) (F:Nat->Flm):Prop:=RdC w p n c 3 (λi j=>(F i).vals.getD j undef)
theorem FilmsAt.below {w w':World} {p:Option Addr} {n c:Nat} {F:Nat->Flm} (h:FilmsAt w p n c F) (hB:Below w.heap.size w w'):FilmsAt w' p n c F:=RdC.below h hB
theorem FilmsAt.range {w:World} {p:Option Addr} {n c:Nat} {F:Nat->Flm} (h:FilmsAt w p n c F) (hn:0<n):∃b off,p=some ⟨b,off,none⟩∧b<w.heap.size∧∀i,i<n->∀W,Below w.heap.size w W->W.rangeAt b (off+i*3) (F i).vals.toList:=by
 obtain⟨_,_,hx⟩:=h;obtain⟨b,off,hp,hb,hc⟩:=hx hn;refine⟨b,off,hp,hb,λi hi W hW j v hv=>?_⟩;have hj:j<3:=by
  have:=(Yan.1 hv).1;simpa[Flm.vals]using this
 refine((hW.cell (p:=⟨b,off+i*3+j,none⟩) hb).trans (hc i j hi hj)).trans ?_;dsimp only;rw[Yaq]at hv;rw[Yax,hv];rfl
def CoatAt (w:World) (p:Option Addr) (c:Nat) (l:List Flm):Prop:=FilmsAt w p l.length c (λi=>l.getD i ⟨0,0,0⟩)
theorem CoatAt.below {w w':World} {p:Option Addr} {c:Nat} {l:List Flm} (h:CoatAt w p c l) (hB:Below w.heap.size w w'):CoatAt w' p c l:=FilmsAt.below h hB
theorem CoatAt.nil (w:World) (p:Option Addr) (c:Nat):CoatAt w p c []:=⟨Yat _,Yat _,λh=>absurd h (Yfw 0)⟩
theorem CoatAt.alt {w:World} {p p':Option Addr} {c c':Nat} {l:List Flm} (h:l=[]∨p'=p∧c'=c) (H:CoatAt w p c l):CoatAt w p' c' l:=by
 rcases h with rfl|⟨rfl,rfl⟩
 ·exact CoatAt.nil _ _ _
 ·exact H
end Go.Mono
namespace Go.Proofs.W
open Go.RowKit Go.Mono
theorem Zbg (n lo hi:Int) (h1:lo<=n) (h2:n<=hi) (w:World) :
  Calls Tryz.prog 206 #[.int .i64 n,.int .i64 lo,.int .i64 hi] w λe w'=>e=.returned (.bool true)∧w'=w:=by
 go_enter Tryz.func206,Tryz.ntmps206
 go_wp2
 go_ret
 exact⟨rfl,rfl⟩
theorem Ztd (B:Nat) (nm:ByteArray) (di pu st pr:Int) (pf pw' ps pc:Option Addr) (nf cf n cw ns cs nc cc:Nat) (L W:Nat->Int) (w:World)
  (b0:Box w B 249 #[.string nm,.int .i64 di,.int .i64 pu,.int .i64 st,.int .i64 pr,.slice pf nf cf,.slice pw' n cw,.slice ps ns cs,.slice pc nc cc])
  (hr:RdC w pw' n cw 2 (λi j=>if j=0 then .int .i64 (L i) else .int .i64 (W i)))
  (n1:1<=n) (n2:n<=5) (q1:0<=pr) (q2:pr<=n-1)
  (l0:∀i,i<n->300000<=L i∧L i<=2500000) (l1:∀i,i+1<n->L i<L (i+1)) (w0:∀i,i<n->1<=W i∧W i<=100) :
  Calls Tryz.prog 208 #[.pointer (some ⟨B,0,none⟩)] w λe w'=>e=.returned (.bool true)∧Below w.heap.size w w':=by
 have cb0:=b0.cell;obtain⟨hc1,hn1,hx⟩:=hr;obtain⟨b,off,rfl,hb,hcell⟩:=hx Zo;go_enter Tryz.func208,Tryz.ntmps208
 go_wp2
 go_loopw [3,12] (λl a wr=>∃(i:Nat) (la:Int),i<=n∧a=.int .i64 (i:Int)∧l=.int .i64 la∧(i=0->la=299999)∧(0<i->la=L (i-1))∧Below w.heap.size w wr) (λ_ a _=>(n-intOf a).toNat)
 case atStart=>exact⟨0,299999,Yat _,rfl,rfl,λ_=>rfl,λh=>Zo,Yae _ _⟩
 case round=>
  obtain⟨i,la,hi,rfl,rfl,ha0,ha1,hB⟩:=hrel;by_cases hin:i<n
  ·have hlt:la<L i:=by
    by_cases h0:i=0
    ·have:=ha0 h0;have:=l0 i hin;omega
    ·have:=ha1 (Zo);have:=l1 (i-1) Zo
     rw[show i-1+1=i by omega]at this;omega
   obtain⟨l2,l3⟩:=l0 i hin;obtain⟨w1,w2⟩:=w0 i hin;have f1:¬(L i<=la):=Zo;have f2:¬(2500000<L i):=Zo;have hin':(i:Int)<n:=Zo;have a0:=(hB.cell hb).trans (hcell i 0 hin Zo);have a1:=(hB.cell hb).trans (hcell i 1 hin Zo);simp only[if_true,Yce,Nat.succ_ne_self,if_false]at a0 a1;replace l0:=Yah l0;replace l1:=Yah l1;replace w0:=Yah w0;replace ha0:=Yah ha0;replace ha1:=Yah ha1;clear hcell;go_wp2_with (go_at_call 206;refine(Zbg _ _ _ w1 w2 _).mono ?_;rintro e w' ⟨rfl,rfl⟩)
   go_roundw
   case rel=>exact⟨i+1,L i,Zo,Zs,rfl,λh=>Zo,λ_=>rfl,Zad hB _⟩
   case measure=>simp[intOf];omega
  ·obtain rfl:i=n:=by omega
   have hb0:=b0.below hB;have cbb:=hb0.cell;have lbb:=hb0.lt;clear hcell cb0 l0 l1 w0 ha0 ha1;have e1:(1:Int)<=i:=Zo;have e2:(i:Int)<=5:=Zo;have hw:pr<=IntKind.i64.wrap ((i:Int)-1):=by
    have:IntKind.i64.wrap ((i:Int)-1)=(i:Int)-1:=by rw[Ybi];omega
    omega
   go_wp2_with fail
   go_region_held3 (λw'=>(∀b o,b<wr.heap.size->w'.cell? ⟨b,o,none⟩=wr.cell? ⟨b,o,none⟩)∧Below wr.heap.size wr w') ((refine Za3 ?_;first|exact(Yae _ _).drew|(repeat' (first|exact Yai ‹_› | exact Zaa (Yai ‹_›) ‹_› | exact Zad (Yai ‹_›) _|exact Zad ‹_› _|refine Zai ?_ Zo _ _)))) (first|(go_at_call 206;(with_reducible refine(Zbg (i:Int) 1 5 e1 e2 _).mono ?_);rintro e w' ⟨rfl,rfl⟩)|(go_at_call 206;(with_reducible refine(Zbg pr 0 (IntKind.i64.wrap ((i:Int)-1)) q1 hw _).mono ?_);rintro e w' ⟨rfl,rfl⟩))
   all_goals
    go_wp2
    go_ret
    exact⟨rfl,Zaa hB (Yai ‹_›)⟩
end Go.Proofs.W
