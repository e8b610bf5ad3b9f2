/- Contracts of package paraxial,and a verified evaluator. Part 13 of 26. No condition beside the row. -/
import Derived.Great.BuildSlice
import Derived.DeepKeys
import Derived.Test.YtpfpiecljfimjaaGreatDoorA01
import Derived.Test.YtpfpiecljfimjaaGreatDoorA12
set_option linter.unusedVariables false
set_option linter.unusedSimpArgs false
set_option maxRecDepth 100000
set_option maxHeartbeats 4000000
namespace Go.Ex
open Go.RowKit Go.Mono
section
theorem Zdc {v:Value} (h:v.oneCell'=true):v.cells = #[v]:=by
 cases v<;>first|rfl|simp[Value.oneCell']at h
def unitsA:SA->List U
 | .one u=>[u]
 | .agg l=>l
theorem Zff {D:Den} {ρ:Nm} {w:World}:∀{x:SA} {v:Value},denA D ρ w x v->denL D ρ w (unitsA x) v.cells.toList
 | .one u, v, h => by
   rw[Zdc (denU.ones h v Zs)];exact⟨[v],[],rfl,h,rfl⟩
 | .agg l,v,⟨cs,e,hl⟩=>by rw[e];exact hl
def fillS (place:Nat->Option (Nat×Nat)) (l:List U):List (Nat×List U)->Option (List U)
 | []=>some l
 | (i, us) :: r => match place i with
   | none=>none
   | some (off,size)=>if widths us=size then(putX l off us).bind λm=>fillS place m r else none
theorem Zj9 (off:Nat):∀(vs:List Value) (k:Nat) (cs:Array Value),off+k+vs.length<=cs.size->
  (vs.zipIdx k).foldl (λc (p:Value×Nat)=>c.setIfInBounds (off+p.2) p.1) cs=(cs.toList.take (off+k)++vs++cs.toList.drop (off+k+vs.length)).toArray
 | [],k,cs,h=>Zs
 | v :: r, k, cs, h => by
   have hl:off+k+(r.length+1)<=cs.size:=by simpa using h
   rw[List.zipIdx_cons,List.foldl_cons,Zj9 off r (k+1) _ (by simp;omega)];apply congrArg;rw[Array.toList_setIfInBounds,<-Ybj];have hL:off+k<cs.toList.length:=by rw[Yaz];omega
   rw[List.set_eq_take_append_cons_drop,if_pos hL];generalize off+k=m at *;have e1:(cs.toList.take m).length=m:=by rw[Ycq];omega
   have t1:(cs.toList.take m++v::cs.toList.drop (m+1)).take (m+1)=cs.toList.take m++[v]:=by
    rw[List.take_append,e1,Ycm Zo,show m+1-m=0+1 by omega,List.take_succ_cons];simp
   have t2:(cs.toList.take m++v::cs.toList.drop (m+1)).drop (m+1+r.length)=cs.toList.drop (m+(r.length+1)):=by
    rw[List.drop_append,e1,Yfi Zo,show m+1+r.length-m=r.length+1 by omega,List.drop_succ_cons,List.drop_drop,Ydp];congr 1
    omega
   rw[t1,t2];simp
section
variable {D:Den} {ρ:Nm} {w:World}
def denParts (D:Den) (ρ:Nm) (w:World):List (Nat×List U)->List (Nat×Value)->Prop
 | [],vs=>vs=[]
 | p::r,vs=>∃v s,vs=(p.1,v)::s∧denL D ρ w p.2 v.cells.toList∧denParts D ρ w r s
theorem Zf8 (place:Nat->Option (Nat×Nat)):∀{ps:List (Nat×List U)} {l m:List U} {cs:List Value} {vs:List (Nat×Value)},fillS place l ps=some m->denL D ρ w l cs->denParts D ρ w ps vs->
  ∃c:Array Value,Instr.fill place cs.toArray vs=some c∧denL D ρ w m c.toList
 | [], l, m, cs, vs, h, hl, hp => by
   obtain rfl:vs=[]:=hp;cases h;exact⟨_,rfl,hl⟩
 | (i, us) :: r, l, m, cs, vs, h, hl, hp => by
   obtain⟨v,s,rfl,hv,hs⟩:=hp;unfold fillS at h;cases hpl:place i with
   | none=>rw[hpl]at h;cases h
   | some os =>
     obtain⟨off,size⟩:=os;rw[hpl]at h;dsimp only at h;split at h
     ·rename_i hw
      obtain⟨m',hm',h2⟩:=Ybg.1 h;obtain⟨k1,k2⟩:=Zna hm' hl hv;have hlen:=hv.len;have hsz:v.cells.size=size:=by rw[<-hw,<-hlen,Yaz]
      have hk:¬(off+v.cells.size>cs.length):=by
       rw[Yaz]at k2;omega
      obtain⟨c,hc1,hc2⟩:=Zf8 place h2 k1 hs;refine⟨c,?_,hc2⟩;show(match place i with
       | none=>none
       | some (off, size) =>
         if v.cells.size≠size || off+v.cells.size>cs.toArray.size then none
         else Instr.fill place (v.cells.zipIdx.foldl (λcs (c,j)=>cs.setIfInBounds (off+j) c) cs.toArray) s)=some c
      rw[hpl];dsimp only;rw[if_neg (by simp[hsz];omega),<-hc1];congr 1
      have:=Zj9 off v.cells.toList 0 cs.toArray (by simp;rw[Yaz]at k2;omega);simp only[Yce,Yex]at this;rw[<-this,<-Array.foldl_toList];simp
     ·cases h
end
def zeroU (P:Program) (t:TypeId):Option (List U):=
 match (P.info? t).bind (·.zero) with
 | some z=>if z.cells.toList.all (·.oneCell') then some (z.cells.toList.map .val) else none
 | none=>none
theorem Znc {P:Program} {t:TypeId} {l:List U} (h:zeroU P t=some l) (D:Den) (ρ:Nm) (w:World) :
  ∃i z,P.info? t=some i∧i.zero=some z∧denL D ρ w l z.cells.toList:=by
 unfold zeroU at h;split at h
 ·rename_i z hz
  obtain⟨i,hi,hz'⟩:=Ybg.1 hz;split at h
  ·rename_i ha
   cases h;exact⟨i,z,hi,hz',Zdm _ λv hv=>Ybn.1 ha v hv⟩
  ·cases h
 ·cases h
def getS (tm:List (Nat×SV)):Operand->Option SV
 | .tmp t=>tm.look t
 | .const v=>ofVal v
 | .global g=>some (.a (.one (.val (.pointer (some ⟨g,0,none⟩)))))
 | .func f=>some (.a (.one (.clo f [])))
structure TSat (D:Den) (ρ:Nm) (w:World) (n:Nat) (tm:List (Nat×SV)) (a:Act):Prop where
 size:a.tmps.size=n
 at_:∀t x,tm.look t=some x->∃v,a.tmps[t]? = some v∧denV D ρ w x v
theorem TSat.get {D:Den} {ρ:Nm} {w:World} {n:Nat} {tm:List (Nat×SV)} {a:Act} (h:TSat D ρ w n tm a):∀{x:Operand} {z:SV},getS tm x=some z->denV D ρ w z (a.eval x)
 | .tmp t, z, hz => by
   obtain⟨v,hv,hd⟩:=h.at_ t z hz;have:a.eval (.tmp t)=v:=by
    show a.tmps.getD t undef=v;simp[Yax,hv]
   rw[this];exact hd
 | .const v,z,hz=>Zj7 hz
 | .global g,z,hz=>by cases hz;exact⟨rfl,rfl⟩
 | .func f,z,hz=>by cases hz;exact⟨[],rfl,rfl⟩
theorem TSat.mono {D:Den} {ρ ρ':Nm} {w w':World} {n:Nat} {tm:List (Nat×SV)} {a:Act} (h:TSat D ρ w n tm a) (hr:ρ.le ρ') (hx:Ext w w'):TSat D ρ' w' n tm a:=
 ⟨h.size,λt x hl=>let ⟨v,hv,hd⟩:=h.at_ t x hl;⟨v,hv,hd.mono hr hx⟩⟩
def partsS (get:Operand->Option SV):List (Nat×Operand)->Option (List (Nat×List U))
 | []=>some []
 | (i, x) :: r => match get x with
   | some (.a s)=>(partsS get r).map ((i,unitsA s)::·)
   | _=>none
theorem Zgs {D:Den} {ρ:Nm} {w:World} {get:Operand->Option SV} {ev:Operand->Value} (hg:∀x z,get x=some z->denV D ρ w z (ev x)) :
  ∀{l:List (Nat×Operand)} {ps:List (Nat×List U)},partsS get l=some ps->denParts D ρ w ps (l.map λ(i,x)=>(i,ev x))
 | [],ps,h=>by cases h;rfl
 | (i, x) :: r, ps, h => by
   unfold partsS at h;split at h
   ·rename_i s hs
    obtain⟨q,hq,rfl⟩:=Yad.1 h;exact⟨_,_,rfl,Zff (hg _ _ hs),Zgs hg hq⟩
   ·cases h
def buildS (P:Program) (t:TypeId) (parts:List (Nat×Operand)) (get:Operand->Option SV):Option SV:=
 match zeroU P t,partsS get parts with
 | some z, some ps => match P.underlying t with
   | some (.array _ e) => match szOf P e with
     | some s=>(fillS (λi=>some (i*s,s)) z ps).map λm=>.a (.agg m)
     | none=>none
   | some (.struct fields) => match fields.toList.mapM (λf => (P.info? f.type).map λi => (f.offset, i.size)) with
     | some places=>(fillS (places.toArray[·]?) z ps).map λm=>.a (.agg m)
     | none=>none
   | _=>none
 | _,_=>none
theorem Zqp {D:Den} {P:Program} {ρ:Nm} {w:World} {get:Operand->Option SV} {ev:Operand->Value} (hg:∀x z,get x=some z->denV D ρ w z (ev x))
  {t:TypeId} {parts:Array (Nat×Operand)} {x:SV} (h:buildS P t parts.toList get=some x) (W:World) :
  ∃v,(Instr.build t (parts.map λ(i,x)=>(i,ev x))).run P W=.ok v W∧denV D ρ w x v:=by
 unfold buildS at h;split at h
 ·rename_i z ps hz hp
  obtain⟨it,zv,h1,h2,h3⟩:=Znc hz D ρ w;have hps:=Zgs hg hp;split at h
  ·rename_i n e hu
   split at h
   ·rename_i s hs
    obtain⟨m,hm,rfl⟩:=Yad.1 h;obtain⟨c,hc1,hc2⟩:=Zf8 _ hm h3 hps;obtain⟨ie,hie,rfl⟩:=Yad.1 hs;refine⟨.agg c,run_build W t _ c ?_,c.toList,Zs,hc2⟩;unfold Program.built;rw[h1,hu];dsimp only;rw[h2,hie];simpa using hc1
   ·cases h
  ·rename_i fields hu
   split at h
   ·rename_i places hpl
    obtain⟨m,hm,rfl⟩:=Yad.1 h;obtain⟨c,hc1,hc2⟩:=Zf8 _ hm h3 hps;refine⟨.agg c,run_build W t _ c ?_,c.toList,Zs,hc2⟩;unfold Program.built;rw[h1,hu];dsimp only;rw[h2,hpl];simpa using hc1
   ·cases h
  ·cases h
 ·cases h
end
end Go.Ex
namespace Go.Mono
open Go.RowKit
structure Srf where
 kind:Int
 curv:Int
 conic:Int
 curvx:Int
 conicx:Int
 a0:Int
 a1:Int
 a2:Int
 a3:Int
 p0:Int
 p1:Int
 order:Int
 thick:Int
 glass:ByteArray
 semi:Int
 hole:Int
 dx:Int
 dy:Int
 ax:Int
 ay:Int
 az:Int
 co:List Flm:=[]
def Srf.cs (s:Srf) (p:Option Addr) (c:Nat):Array Value:=
 #[.int .i64 s.kind,.int .i64 s.curv,.int .i64 s.conic,.int .i64 s.curvx,.int .i64 s.conicx,.int .i64 s.a0,.int .i64 s.a1,.int .i64 s.a2,.int .i64 s.a3,.int .i64 s.p0,.int .i64 s.p1,.int .i64 s.order,.int .i64 s.thick,.string s.glass,.int .i64 s.semi,.int .i64 s.hole,.int .i64 s.dx,.int .i64 s.dy,.int .i64 s.ax,.int .i64 s.ay,.int .i64 s.az,.slice p s.co.length c]
def NameOk (s:ByteArray):Prop:=1<=s.size∧s.size<=16∧∀i (hi:i<s.size),isLetter (s[i].toNat:Int)
def mirror:ByteArray:={data:=#[77,73,82,82,79,82]}
def Srf.kept (s:Srf):Srf:=
 let z:Srf:={kind:=s.kind,curv:=0,conic:=0,curvx:=0,conicx:=0,a0:=0,a1:=0,a2:=0,a3:=0,p0:=0,p1:=0,order:=0,thick:=s.thick,glass:={data:=#[]},semi:=0,hole:=0,dx:=0,dy:=0,ax:=0,ay:=0,az:=0,co:=[]}
 let all:Srf->Srf:=λz=>{z with curv:=s.curv,conic:=s.conic,glass:=s.glass,semi:=s.semi,hole:=s.hole,co:=s.co}
 if s.kind=1 then
  let z:={z with a0:=s.a0,a1:=s.a1,a2:=s.a2,a3:=s.a3}
  all (if s.order≠0∧s.glass≠mirror then {z with order:=s.order,p0:=s.p0,p1:=s.p1} else z)
 else if s.kind=2 then all {z with curvx:=s.curvx,conicx:=s.conicx}
 else if s.kind=3 then {z with dx:=s.dx,dy:=s.dy,ax:=s.ax,ay:=s.ay,az:=s.az}
 else if s.kind=4 then {z with curv:=s.curv,semi:=s.semi,hole:=s.hole}
 else all z
def In (m z:Int):Prop:=-m<=z∧z<=m
structure Srf.ok (s:Srf):Prop where
 k1:1<=s.kind
 k2:s.kind<=4
 kept:s.kept=s
 curv:In 1000000000 s.curv
 curvx:In 1000000000 s.curvx
 thick:In 1000000000 s.thick
 dx:In 1000000000 s.dx
 dy:In 1000000000 s.dy
 a0:In 1000000000 s.a0
 a1:In 1000000000 s.a1
 a2:In 1000000000 s.a2
 a3:In 1000000000 s.a3
 p0:In 1000000000 s.p0
 p1:In 1000000000 s.p1
 conic:In 100000000 s.conic
 conicx:In 100000000 s.conicx
 ax:In 90000000 s.ax
 ay:In 90000000 s.ay
 az:In 90000000 s.az
 order:In 3 s.order
 semi0:0<=s.semi
 semi1:s.semi<=1000000000
 hole0:0<=s.hole
 hole1:s.hole<=1000000000
 ring:s.semi=0∨s.hole<s.semi
 glass:s.glass = {data:=#[]}∨NameOk s.glass
 coats:s.co.length<=8
 films:∀f∈s.co,f.ok
theorem Zwf (w:World) (T:TypeId) (cs:Array Value) (n:Nat) (f:Nat->Int) (h:∀i,i<n->cs[i]? = some (.int .i64 (f i))) (hn:n<=1000):RdF (w.alloc (.cells cs T)) (some ⟨w.heap.size,0,none⟩) n n f:=by
 refine⟨Yab _,Zo,λ_=>⟨_,_,rfl,Zs,λi hi=>?_⟩⟩;rw[(Box.new w T cs).cell,Yba];exact h i hi
theorem RdF.box {w:World} {B:Nat} {T:TypeId} {cs:Array Value} (b:Box w B T cs) (off n:Nat) (f:Nat->Int) (h:∀i,i<n->cs[off+i]? = some (.int .i64 (f i))) (hn:n<=1000):RdF w (some ⟨B,off,none⟩) n n f:=by
 refine⟨Yab _,Zo,λ_=>⟨_,_,rfl,b.lt,λi hi=>?_⟩⟩;rw[b.cell];exact h i hi
end Go.Mono
namespace Go.Proofs.W
open Go.RowKit Go.Mono
theorem Zop (s:Srf) (hs:s.ok) (p:Option Addr) (c B:Nat) (w:World) (b0:Box w B 115 (s.cs p c)) :
  Calls Tryz.prog 233 #[.pointer (some ⟨B,0,none⟩)] w λe w'=>e=.returned (.bool true)∧Below w.heap.size w w':=by
 have cb0:=b0.cell;simp only[Srf.cs]at cb0;have h8:=hs.coats;generalize s.co.length=n at *;have hn8:(n:Int)<=8:=Zo;clear hs b0;go_enter Tryz.func233,Tryz.ntmps233
 go_wp2
 go_ret
 exact⟨rfl,Yae _ _⟩
theorem Zoq (s:Srf) (hs:s.ok) (p:Option Addr) (c B:Nat) (w:World) (b0:Box w B 115 (s.cs p c)) :
  Calls Tryz.prog 232 #[.pointer (some ⟨B,0,none⟩)] w λe w'=>e=.returned (.bool true)∧Below w.heap.size w w':=by
 have cb0:=b0.cell;simp only[Srf.cs]at cb0;rcases hs.glass with h|h
 ·rw[h]at cb0
  go_enter Tryz.func232,Tryz.ntmps232
  go_wp2
  go_ret
  exact⟨rfl,Yae _ _⟩
 ·have hn:=Zl7 s.glass h.1 h.2.1 h.2.2 w
  clear h hs b0;go_enter Tryz.func232,Tryz.ntmps232
  go_wp2_with (go_at_call 191;refine hn.mono ?_;rintro e w' ⟨rfl,rfl⟩)
  all_goals
   go_ret
   exact⟨rfl,Yae _ _⟩
theorem Zor (s:Srf) (hs:s.ok) (p:Option Addr) (c B:Nat) (w:World) (b0:Box w B 115 (s.cs p c)) :
  Calls Tryz.prog 231 #[.pointer (some ⟨B,0,none⟩)] w λe w'=>e=.returned (.bool true)∧Below w.heap.size w w':=by
 have cb0:=b0.cell;simp only[Srf.cs]at cb0;have h:=hs.ring;by_cases h0:s.semi=0
 ·rw[h0]at cb0
  go_enter Tryz.func231,Tryz.ntmps231
  go_wp2
  go_ret
  exact⟨rfl,Yae _ _⟩
 ·have h1:s.hole<s.semi:=by omega
  have h2:(s.semi==0)=false:=by simpa using h0
  clear h h0;go_enter Tryz.func231,Tryz.ntmps231
  go_wp2
  go_ret
  exact⟨rfl,Yae _ _⟩
end Go.Proofs.W
namespace Go.Ex
open Go.RowKit Go.Mono
section
def capsOf (get:Operand->Option SV):List Operand->Option (List (Nat×Nat))
 | []=>some []
 | x :: r => match get x with
   | some (.a (.one (.ptr k o)))=>(capsOf get r).map ((k,o)::·)
   | _=>none
def realO (get:Operand->Option SV):Option Operand->Option (Option Value)
 | none=>some none
 | some x=>((get x).bind realV).map some
def cutS (len:Nat) (l h m:Option Value):Option (Nat×Nat):=
 match m,(match l with
  | none=>some 0
  | some (.int .i64 (.ofNat a))=>some a
  | _=>none),(match h with
  | none=>some len
  | some (.int .i64 (.ofNat b))=>some b
  | _=>none) with
 | none,some a,some b=>if a<b∧b<=len then some (a,b) else none
 | _,_,_=>none
def loO:Option Value->Option Nat
 | none=>some 0
 | some (.int .i64 (.ofNat a))=>some a
 | _=>none
def cut3 (len:Nat) (l h m:Option Value):Option (Nat×Nat×Nat):=
 match m,h,loO l with
 | some (.int .i64 (.ofNat c)),some (.int .i64 (.ofNat b)),some a=>if a<=b∧b<=c∧c<=len then some (a,b,c) else none
 | _,_,_=>none
def cut0 (len:Nat) (l h m:Option Value):Option Nat:=
 match m,loO l,(match h with
  | none=>some len
  | h=>loO h) with
 | none,some a,some b=>if a=b∧b<=len then some a else none
 | _,_,_=>none
def cutA (k off len s:Nat) (l h m:Option Value):Option SV:=
 match cutS len l h m with
 | some (a,b)=>some (.a (.one (.sli k (off+a*s) (b-a))))
 | none => match cut3 len l h m with
   | some (a,b,c)=>some (.a (.one (.slc k (if c=a then off else off+a*s) (b-a) (c-a))))
   | none => match cut0 len l h m with
     | some _=>some (.a (.one .emp))
     | none=>none
def sliceS (P:Program) (t:TypeId) (x:Option SV) (get:Operand->Option SV) (lo hi mx:Option Operand):Option SV:=
 match realO get lo,realO get hi,realO get mx with
 | some l, some h, some m => match x, P.underlying t with
   | some (.a (.one (.slc k off len cap))), some (.slice e) => match pureOf P (Instr.sliceBounds true len cap l h m), szOf P e with
     | some (a,b,c),some s=>some (.a (.one (.slc k (if c=a then off else off+a*s) (b-a) (c-a))))
     | _,_=>none
   | some (.a (.one (.ptr k off))), some (.array n e) => match pureOf P (Instr.sliceBounds false n n l h m), szOf P e with
     | some (a,b,c),some s=>some (.a (.one (.slc k (if c=a then off else off+a*s) (b-a) (c-a))))
     | _,_=>none
   | some (.a (.one (.own k len _))), some (.slice e) => match szOf P e with
     | some s=>cutA k 0 len s l h m
     | _=>none
   | some (.a (.one (.sli k off len))), some (.slice e) => match szOf P e with
     | some s=>cutA k off len s l h m
     | _=>none
   | some (.a (.one .emp)), some (.slice e) => match szOf P e, cut0 0 l h m with
     | some _,some _=>some (.a (.one .emp))
     | _,_=>none
   | some (.a (.one (.slx k off len _))), some (.slice e) => match szOf P e, h with
     | some s,some _=>cutA k off len s l h m
     | _,_=>none
   | _,_=>none
 | _,_,_=>none
def lenS (P:Program) (c:Call) (get:Operand->Option SV):Option SV:=
 match c.callee,c.args.toList,c.argTypes.toList with
 | .builtin .len, [x], [t] => match get x, P.underlying t with
   | some (.a (.one (.slc _ _ n _))),some (.slice _)=>some (.a (.one (.val (goInt n))))
   | some (.a (.one (.sli _ _ n))),some (.slice _)=>some (.a (.one (.val (goInt n))))
   | some (.a (.one (.own _ n _))),some (.slice _)=>some (.a (.one (.val (goInt n))))
   | some (.a (.one .emp)),some (.slice _)=>some (.a (.one (.val (goInt (0:Nat)))))
   | some (.a (.one (.slx _ _ _ n))),some (.slice _)=>some (.a (.one (.sym n)))
   | some (.a (.one (.raw 1 [.slice _ n _]))),some (.slice _)=>some (.a (.one (.sym n)))
   | _,_=>none
 | .builtin .cap, [x], [t] => match get x, P.underlying t with
   | some (.a (.one (.slc _ _ _ c))),some (.slice _)=>some (.a (.one (.val (goInt c))))
   | _,_=>none
 | _,_,_=>none
def loadS (P:Program) (t:TypeId) (x:Option SV) (bk:List (Nat×Blk)):Option SV:=
 match x with
 | some (.a (.one (.ptr k off))) => match bk.look k with
   | some b=>if b.dead then none else partS P t b.cells off
   | none=>none
 | _=>none
def isSelect:Op->Bool
 | .select ..=>true
 | _=>false
def realOp (P:Program) (o:Oper) (get:Operand->Option SV):Option SV:=
 if !isSelect o.op&&o.op.operands.toList.all (λx=>((get x).bind realV).isSome) then
  match pureOf P (execOp (λx=>((get x).bind realV).getD undef) o) with
  | some (.value v)=>ofVal v
  | _=>none
 else none
def bndOf (f:FuncId) (s:SA):Option SV:=
 match s.weak with
 | .one u=>some (.a (.one (.bnd f false [u])))
 | .agg l=>some (.a (.one (.bnd f true l)))
theorem Zt3 {D:Den} {ρ:Nm} {w:World} {f:FuncId} {s:SA} {r:SV} {v:Value} (h:bndOf f s=some r) (hv:denA D ρ w s v):denV D ρ w r (.func (.func f) #[v] #[]):=by
 unfold bndOf at h;have:=hv.weak;split at h
 ·rename_i u e
  cases h;rw[e]at this;exact⟨v,rfl,this⟩
 ·rename_i l e
  cases h;rw[e]at this;exact⟨v,rfl,this⟩
def evPure (P:Program) (o:Oper) (get:Operand->Option SV) (bk:List (Nat×Blk)):Option SV:=
 match o.op with
 | .move x=>get x
 | .assign x=>get x
 | .makeFunc (.func f) first caps => if first.isEmpty then (capsOf get caps.toList).map λl => .a (.one (.clo f l)) else (match first.toList, caps.toList with
   | [x], [] => match get x with
     | some (.a s)=>bndOf f s
     | _=>none
   | _,_=>none)
 | .fieldAddr s x f=>fieldAddrS P s (get x) f
 | .indexAddr t x ix => match indexAddrS P t (get x) (get ix) with
   | some r=>some r
   | none=>realOp P o get
 | .field t x f => match fieldS P t (get x) f with
   | some r=>some r
   | none=>realOp P o get
 | .index t x ix => match indexS P t (get x) (get ix) with
   | some r=>some r
   | none=>realOp P o get
 | .extract x i => match get x with
   | some (.tup l)=>(l[i]?).map .a
   | _=>none
 | .nilCheck x => match get x with
   | some (.a (.one (.ptr k off)))=>some (.a (.one (.ptr k off)))
   | some (.a (.one (.clo f l)))=>some (.a (.one (.clo f l)))
   | some (.a (.one (.bnd f g l)))=>some (.a (.one (.bnd f g l)))
   | _=>realOp P o get
 | .build t parts=>buildS P t parts.toList get
 | .load t x=>loadS P t (get x) bk
 | .slice t x lo hi mx => match sliceS P t (get x) get lo hi mx with
   | some r=>some r
   | none=>realOp P o get
 | .call c => match lenS P c get with
   | some r=>some r
   | none=>realOp P o get
 | _=>realOp P o get
section
variable {D:Den} {P:Program} {ρ:Nm} {wc w:World} {get:Operand->Option SV} {ev:Operand->Value}
theorem Zka (hg:∀x z,get x=some z->denV D ρ wc z (ev x)):∀{l:List Operand} {c:List (Nat×Nat)},capsOf get l=some c->adrs ρ c (l.map ev)
 | [],c,h=>by cases h;rfl
 | x :: r, c, h => by
   unfold capsOf at h;split at h
   ·rename_i k o hx
    obtain⟨q,hq,rfl⟩:=Yad.1 h;obtain⟨B,hB,e⟩:=hg _ _ hx;exact⟨B,_,hB,by rw[Ybz,show ev x=_ from by simpa using e],Zka hg hq⟩
   ·cases h
theorem Ziv (hg:∀x z,get x=some z->denV D ρ wc z (ev x)) {x:Option Operand} {l:Option Value} (h:realO get x=some l):l=x.map ev:=by
 cases x with
 | none=>cases h;rfl
 | some x =>
   unfold realO at h;obtain⟨v,hv,rfl⟩:=Yad.1 h;obtain⟨z,hz,hr⟩:=Ybg.1 hv;rw[Yfx,Zgr hr (hg _ _ hz)]
theorem Zxy (B off a c s:Nat):(if c=a then(⟨B,off,none⟩:Addr) else(⟨B,off,none⟩:Addr).add (a*s))=⟨B,if c=a then off else off+a*s,none⟩:=by
 split
 ·rfl
 ·rw[Yem]
theorem Zv2 {len cap:Nat} {l h m:Option Value} {a b:Nat} (e:cutS len l h m=some (a,b)) (hc:len<=cap) :
  (Instr.sliceBounds true len cap l h m).run P w=.ok (a,b,cap) w∧a<b∧b<=len:=by
 unfold cutS at e;split at e
 ·rename_i a' b' hl hh
  split at e
  ·rename_i hab
   obtain⟨rfl,rfl⟩:a'=a∧b'=b:=by simpa using e
   refine⟨?_,hab⟩;have hl0:(l=none∧a'=0)∨l=some (.int .i64 (Int.ofNat a')):=by
    split at hl
    ·cases hl;simp
    ·cases hl;simp
    ·cases hl
   have hhigh:(h=none∧b'=len)∨h=some (.int .i64 (Int.ofNat b')):=by
    split at hh
    ·cases hh;simp
    ·cases hh;simp
    ·cases hh
   have n1:a'<=b':=Zo;have n2:b'<=cap:=Zo;unfold Instr.sliceBounds;rcases hl0 with ⟨rfl,rfl⟩|rfl<;>rcases hhigh with ⟨rfl,rfl⟩|rfl<;>simp[Instr.sliceBound,asIntOf,n1,n2]
  ·cases e
 ·cases e
theorem Zqq {l:Option Value} {a:Nat} (h:loO l=some a):(l=none∧a=0)∨l=some (.int .i64 (Int.ofNat a)):=by
 unfold loO at h;split at h
 ·cases h;simp
 ·cases h;simp
 ·cases h
theorem Zv3 {len cap:Nat} {l h m:Option Value} {a b c:Nat} (e:cut3 len l h m=some (a,b,c)) (hc:len<=cap) :
  (Instr.sliceBounds true len cap l h m).run P w=.ok (a,b,c) w:=by
 unfold cut3 at e;split at e
 ·rename_i c' b' a' hl
  split at e
  ·rename_i hab
   obtain⟨rfl,rfl,rfl⟩:a'=a∧b'=b∧c'=c:=by simpa using e
   obtain⟨n1,n2,n3⟩:=hab;have n4:c'<=cap:=Zo;unfold Instr.sliceBounds;rcases Zqq hl with ⟨rfl,rfl⟩|rfl<;>simp[Instr.sliceBound,asIntOf,n1,n2,n4]
  ·cases e
 ·cases e
theorem Zqr {len cap:Nat} {l h m:Option Value} {a:Nat} (e:cut0 len l h m=some a) (hc:len<=cap) :
  (Instr.sliceBounds true len cap l h m).run P w=.ok (a,a,cap) w:=by
 unfold cut0 at e;split at e
 ·rename_i a' b' hl hh
  split at e
  ·rename_i hab
   obtain rfl:a'=a:=by simpa using e
   obtain⟨rfl,n2⟩:=hab;have n4:a'<=cap:=Zo;have hhigh:(h=none∧a'=len)∨h=some (.int .i64 (Int.ofNat a')):=by
    split at hh
    ·cases hh;simp
    ·rename_i hne
     rcases Zqq hh with ⟨h1,h2⟩|h1
     ·exact absurd h1 (by simpa using hne)
     ·exact .inr h1
   unfold Instr.sliceBounds;rcases Zqq hl with ⟨rfl,rfl⟩|rfl<;>rcases hhigh with ⟨rfl,rfl⟩|rfl<;>simp[Instr.sliceBound,asIntOf,n4]
  ·cases e
 ·cases e
theorem Zlz {k off len s cp:Nat} {l h' m:Option Value} {r:SV} (h:cutA k off len s l h' m=some r) {B:Pl} (hB:ρ k=some B) (h1:len<=cp) {t e:TypeId} (hu:P.underlying t=some (.slice e)) (hs:szOf P e=some s) :
  ∃v,(Instr.sliceAt t (.slice (some ⟨B.blk,B.base+off,none⟩) len cp) l h' m).run P w=.ok v w∧denV D ρ wc r v:=by
 have go:∀{a b c:Nat},(Instr.sliceBounds true len cp l h' m).run P w=.ok (a,b,c) w->(Instr.sliceAt t (.slice (some ⟨B.blk,B.base+off,none⟩) len cp) l h' m).run P w=.ok (.slice (some ⟨B.blk,B.base+(if c=a then off else off+a*s),none⟩) (b-a) (c-a)) w:=by
  intro a b c g1;unfold Instr.sliceAt;simp only[Yar,run_underlying hu,Yag];unfold Instr.slice;simp only[Yar,run_underlying hu,Yag,g1,Zcl hs,Yau];congr 2
  split<;>simp[Yem,Ybj]
 unfold cutA at h;split at h
 ·rename_i a b hb
  cases h;obtain⟨g1,g2,g3⟩:=Zv2 (P:=P) (w:=w) hb h1;refine⟨_,go g1,B,cp-a,hB,Zo,?_⟩;rw[if_neg Zo]
 ·split at h
  ·rename_i a b c hb
   cases h;exact⟨_,go (Zv3 hb h1),B,hB,rfl⟩
  ·split at h
   ·rename_i a hb
    cases h;exact⟨_,go (Zqr hb h1),some ⟨B.blk,B.base+(if cp=a then off else off+a*s),none⟩,cp-a,λhh=>(by cases hh),by rw[Ydt]⟩
   ·cases h
theorem Zqs (hg:∀x z,get x=some z->denV D ρ wc z (ev x)) {t:TypeId} {x:Operand} {lo hi mx:Option Operand} {r:SV} (h:sliceS P t (get x) get lo hi mx=some r) :
  ∃v,(Instr.sliceAt t (ev x) (lo.map ev) (hi.map ev) (mx.map ev)).run P w=.ok v w∧denV D ρ wc r v:=by
 unfold sliceS at h;split at h
 ·rename_i l h' m hl hh hm
  rw[<-Ziv hg hl,<-Ziv hg hh,<-Ziv hg hm];split at h
  ·rename_i k off len cap e hx hu
   split at h
   ·rename_i a b c s hb hs
    cases h;obtain⟨B,hB,e1⟩:=hg _ _ hx;rw[show ev x=_ from by simpa using e1];refine⟨.slice (some ⟨B.blk,B.base+(if c=a then off else off+a*s),none⟩) (b-a) (c-a),?_,B,hB,rfl⟩;unfold Instr.sliceAt;simp only[Yar,run_underlying hu,Yag];unfold Instr.slice;simp only[Yar,run_underlying hu,Yag,Zc8 hb,Zcl hs,Yau];congr 2
    split<;>simp[Yem,Ybj]
   ·cases h
  ·rename_i k off n e hx hu
   split at h
   ·rename_i a b c s hb hs
    cases h;obtain⟨B,hB,e1⟩:=hg _ _ hx;rw[show ev x=_ from by simpa using e1];refine⟨.slice (some ⟨B.blk,B.base+(if c=a then off else off+a*s),none⟩) (b-a) (c-a),?_,B,hB,rfl⟩;unfold Instr.sliceAt;simp only[Yar,run_underlying hu,Yag,Instr.sureAddr,Zc8 hb,Zcl hs,Yau];rw[Zxy];congr 2
    split<;>simp[Ybj]
   ·cases h
  ·rename_i k len sz e hx hu
   split at h
   ·rename_i s hs
    obtain⟨B,hB,h1,h2,h3,e1⟩:=hg _ _ hx;rw[show ev x=_ from by simpa using e1];have:=Zlz (D:=D) (P:=P) (w:=w) (wc:=wc) (ρ:=ρ) h hB h1 hu hs;rwa [h3,Yba]at this
   ·cases h
  ·rename_i k off len e hx hu
   split at h
   ·rename_i s hs
    obtain⟨B,cp,hB,h1,e1⟩:=hg _ _ hx;rw[show ev x=_ from by simpa using e1];exact Zlz h hB h1 hu hs
   ·cases h
  ·rename_i e hx hu
   split at h
   ·rename_i s a hs hb
    cases h;obtain⟨p,c,hp,e1⟩:=hg _ _ hx;rw[show ev x=_ from by simpa using e1];refine⟨.slice (if c=a then p else p.map (·.add (a*s))) (a-a) (c-a),?_,(if c=a then p else p.map (·.add (a*s))),c-a,λhh=>?_,by rw[Ydt]⟩
    ·unfold Instr.sliceAt
     simp only[Yar,run_underlying hu,Yag];unfold Instr.slice;simp only[Yar,run_underlying hu,Yag,Zqr (P:=P) (w:=w) hb (Yat c),Zcl hs,Yau]
    ·split at hh
     ·omega
     ·have:p=none:=by cases p with
       | none=>rfl
       | some q=>cases hh
      rw[hp this];omega
   ·cases h
  ·rename_i k off len n e hx hu
   split at h
   ·rename_i s b hs
    obtain⟨B,cp,hB,h0,h1,e1⟩:=hg _ _ hx;rw[show ev x=_ from by simpa using e1];have hh:∀{l m:Option Value} {r:SV},cutA k off len s l (some b) m=some r->(Instr.sliceAt t (.slice (some ⟨B.blk,B.base+off,none⟩) n cp) l (some b) m).run P w=(Instr.sliceAt t (.slice (some ⟨B.blk,B.base+off,none⟩) len cp) l (some b) m).run P w:=by
     intro l m r _;unfold Instr.sliceAt;simp only[Yar,run_underlying hu,Yag];unfold Instr.slice;simp only[Yar,run_underlying hu,Yag];cases m<;>rfl
    rw[hh h];exact Zlz h hB Zo hu hs
   ·cases h
  ·cases h
 ·cases h
theorem Zcs (hg:∀x z,get x=some z->denV D ρ wc z (ev x)) {o:Oper} {r:SV} (h:realOp P o get=some r) :
  ∃v,(execOp ev o).run P w=.ok (.value v) w∧denV D ρ wc r v:=by
 unfold realOp at h;split at h
 ·rename_i hc
  rw[Yam]at hc;split at h
  ·rename_i v hv
   refine⟨v,?_,Zj7 h⟩;rw[execOp_congr (ρ:=ev) (ρ':=λx=>((get x).bind realV).getD undef) o (λcs b he=>by rw[he]at hc;simp[isSelect]at hc) (λx hx=>by
    have:=Ybn.1 hc.2 x (by simpa using hx);obtain⟨y,hy⟩:=Yct.1 this;obtain⟨z,hz,hr⟩:=Ybg.1 hy;rw[hy,Option.getD_some,Zgr hr (hg _ _ hz)])]
   exact Zc8 hv w
  ·cases h
 ·cases h
theorem Ziw (hg:∀x z,get x=some z->denV D ρ wc z (ev x)) {s f:Nat} {x:Operand} {r:SV} (h:fieldAddrS P s (get x) f=some r) :
  ∃v,(Instr.fieldAt s (ev x) f).run P w=.ok v w∧denV D ρ wc r v:=by
 unfold fieldAddrS at h;split at h
 ·rename_i k off hx
  split at h
  ·rename_i fs hu
   split at h
   ·rename_i fl hf
    split at h
    ·rename_i n hz
     cases h;obtain⟨B,hB,e1⟩:=hg _ _ hx;rw[show ev x=_ from by simpa using e1];exact⟨.pointer (some ⟨B.blk,B.base+(off+fl.offset),none⟩),by rw[<-Ybj];exact Zj8 hu hf hz,B,hB,rfl⟩
    ·cases h
   ·cases h
  ·cases h
 ·cases h
theorem Zd5 {X I:Option SV} {vx vi:Value} (hX:∀s,X=some s->denV D ρ wc s vx) (hI:∀s,I=some s->denV D ρ wc s vi) {t:Nat} {r:SV} (h:indexAddrS P t X I=some r) :
  ∃v,(Instr.indexAt t vx vi).run P w=.ok v w∧denV D ρ wc r v:=by
 unfold indexAddrS at h;split at h
 ·rename_i k off kd i
  split at h
  ·rename_i n e hu
   split at h
   ·rename_i s hz
    split at h
    ·rename_i hb
     cases h;obtain⟨B,hB,e1⟩:=hX _ rfl;rw[show vx=_ from by simpa using e1,show vi=_ from by simpa using(hI _ rfl).1];exact⟨.pointer (some ⟨B.blk,B.base+(off+i.toNat*s),none⟩),by rw[<-Ybj];exact Ziu hu hz hb,B,hB,rfl⟩
    ·cases h
   ·cases h
  ·cases h
 ·rename_i k off len cap kd i
  split at h
  ·rename_i e hu
   split at h
   ·rename_i s hz
    split at h
    ·rename_i hb
     cases h;obtain⟨B,hB,e1⟩:=hX _ rfl;rw[show vx=_ from by simpa using e1,show vi=_ from by simpa using(hI _ rfl).1];exact⟨.pointer (some ⟨B.blk,B.base+(off+i.toNat*s),none⟩),by rw[<-Ybj];exact Zcm hu hz hb,B,hB,rfl⟩
    ·cases h
   ·cases h
  ·cases h
 ·rename_i k off len kd i
  split at h
  ·rename_i e hu
   split at h
   ·rename_i s hz
    split at h
    ·rename_i hb
     cases h;obtain⟨B,c,hB,hc,e1⟩:=hX _ rfl;rw[show vx=_ from by simpa using e1,show vi=_ from by simpa using(hI _ rfl).1];exact⟨.pointer (some ⟨B.blk,B.base+(off+i.toNat*s),none⟩),by rw[<-Ybj];exact Zcm hu hz hb,B,hB,rfl⟩
    ·cases h
   ·cases h
  ·cases h
 ·rename_i k len sz kd i
  split at h
  ·rename_i e hu
   split at h
   ·rename_i s hz
    split at h
    ·rename_i hb
     cases h;obtain⟨B,hB,h1,h2,h3,e1⟩:=hX _ rfl;rw[show vx=_ from by simpa using e1,show vi=_ from by simpa using(hI _ rfl).1];refine⟨.pointer (some ⟨B.blk,B.base+i.toNat*s,none⟩),?_,B,hB,rfl⟩;rw[h3,Zcm hu hz hb]
    ·cases h
   ·cases h
  ·cases h
 ·rename_i k off m n kd i
  split at h
  ·rename_i e hu
   split at h
   ·rename_i s hz
    split at h
    ·rename_i hb
     cases h;obtain⟨B,c,hB,hm,hc,e1⟩:=hX _ rfl;rw[show vx=_ from by simpa using e1,show vi=_ from by simpa using(hI _ rfl).1];exact⟨.pointer (some ⟨B.blk,B.base+(off+i.toNat*s),none⟩),by rw[<-Ybj];exact Zcm hu hz ⟨hb.1,Zo⟩,B,hB,rfl⟩
    ·cases h
   ·cases h
  ·cases h
 ·cases h
theorem Zix (hg:∀x z,get x=some z->denV D ρ wc z (ev x)) {t:Nat} {x ix:Operand} {r:SV} (h:indexAddrS P t (get x) (get ix)=some r) :
  ∃v,(Instr.indexAt t (ev x) (ev ix)).run P w=.ok v w∧denV D ρ wc r v:=Zd5 (hg x) (hg ix) h
theorem Zqt (hg:∀x z,get x=some z->denV D ρ wc z (ev x)) {s f:Nat} {x:Operand} {r:SV} (h:fieldS P s (get x) f=some r) :
  ∃v,(Instr.field s (ev x) f).run P w=.ok v w∧denV D ρ wc r v:=by
 unfold fieldS at h;split at h
 ·rename_i l hx
  split at h
  ·rename_i fs hu
   split at h
   ·rename_i fl hf
    obtain⟨cs,e,hl⟩:=hg _ _ hx;obtain⟨v,h1,h2⟩:=Znb (P:=P) (w:=w) h hl;refine⟨v,?_,h2⟩;rw[e];unfold Instr.field;simp only[Yar,run_underlying hu,Yag,hf,asAgg,Yau,h1]
   ·cases h
  ·cases h
 ·cases h
theorem Zh8 {X I:Option SV} {vx vi:Value} (hX:∀s,X=some s->denV D ρ wc s vx) (hI:∀s,I=some s->denV D ρ wc s vi) {t:Nat} {r:SV} (h:indexS P t X I=some r) :
  ∃v,(Instr.index t vx vi).run P w=.ok v w∧denV D ρ wc r v:=by
 unfold indexS at h;split at h
 ·rename_i l kd i
  split at h
  ·rename_i n e hu
   split at h
   ·rename_i s hz
    split at h
    ·rename_i hb
     obtain⟨cs,e1,hl⟩:=hX _ rfl;obtain⟨v,h1,h2⟩:=Znb (P:=P) (w:=w) h hl;refine⟨v,?_,h2⟩;rw[e1,show vi=_ from by simpa using(hI _ rfl).1];unfold Instr.index;simp only[Yar,asIntOf,run_underlying hu,Yag,Yau,if_pos hb,Zcl hz,h1]
    ·cases h
   ·cases h
  ·cases h
 ·cases h
theorem Zqu (hg:∀x z,get x=some z->denV D ρ wc z (ev x)) {t:Nat} {x ix:Operand} {r:SV} (h:indexS P t (get x) (get ix)=some r) :
  ∃v,(Instr.index t (ev x) (ev ix)).run P w=.ok v w∧denV D ρ wc r v:=Zh8 (hg x) (hg ix) h
theorem Zkb:∀{l:List SA} {vs:List Value} {i:Nat} {x:SA},denAs D ρ w l vs->l[i]? = some x->∃v,vs[i]? = some v∧denA D ρ w x v
 | [],vs,i,x,h,hx=>by simp at hx
 | y :: l, vs, i, x, ⟨v, r, e, hv, hr⟩, hx => by
   subst e;cases i with
   | zero=>simp at hx;subst hx;exact⟨v,Zs,hv⟩
   | succ i=>simp at hx;simpa using Zkb hr hx
end
end
end Go.Ex
namespace Go.Mono
open Go.RowKit
theorem Zer (w:World) (T:TypeId) (l:List Int) (hn:l.length<=1000):RdF (w.alloc (.cells (l.map (Value.int .i64)).toArray T)) (some ⟨w.heap.size,0,none⟩) l.length l.length (λi=>l.getD i 0):=by
 refine Zwf w T _ _ _ (λi hi=>?_) hn;simp[hi]
theorem Zfl {m:Int} {l:List Int} (h:∀x∈l,In m x):∀i,i<l.length->-m<=l.getD i 0∧l.getD i 0<=m:=by
 intro i hi;have:=h l[i] (Ybw hi);simpa[hi,In]using this
end Go.Mono
namespace Go.Proofs.W
open Go.RowKit Go.Mono
theorem Zos (s:Srf) (hs:s.ok) (p:Option Addr) (c B:Nat) (w:World) (b0:Box w B 115 (s.cs p c)) :
  Calls Tryz.prog 227 #[.pointer (some ⟨B,0,none⟩)] w λe w'=>e=.returned (.bool true)∧Below w.heap.size w w':=by
 have cb0:=b0.cell;have bx:=λW (h:Below w.heap.size w W)=>(b0.below h).cell;simp only[Srf.cs]at cb0 bx;have h5:∀x∈[s.curv,s.curvx,s.thick,s.dx,s.dy],In 1000000000 x:=by
  intro x hx;have:=hs.curv;have:=hs.curvx;have:=hs.thick;have:=hs.dx;have:=hs.dy;simp at hx;rcases hx with rfl|rfl|rfl|rfl|rfl<;>assumption
 have h4:∀x∈[s.a0,s.a1,s.a2,s.a3],In 1000000000 x:=by
  intro x hx;have:=hs.a0;have:=hs.a1;have:=hs.a2;have:=hs.a3;simp at hx;rcases hx with rfl|rfl|rfl|rfl<;>assumption
 have h2:∀x∈[s.p0,s.p1],In 1000000000 x:=by
  intro x hx;have:=hs.p0;have:=hs.p1;simp at hx;rcases hx with rfl|rfl<;>assumption
 go_enter Tryz.func227,Tryz.ntmps227
 go_wp2_with fail
 refine(Zdy 1000000000 5 _ 5 (λi=>[s.curv,s.curvx,s.thick,s.dx,s.dy].getD i 0) _ (Zer w 3 [s.curv,s.curvx,s.thick,s.dx,s.dy] Zs) Zo Zo (Zfl h5)).mono ?_;rintro e W1 ⟨rfl,hb1⟩;have hB1:=Zaa (Zad (Yae _ _) _) hb1;have b1:=b0.below hB1;have cb1:=bx W1 hB1;go_wp2_with fail
 refine(Zdy 1000000000 4 _ 4 (λi=>[s.a0,s.a1,s.a2,s.a3].getD i 0) _ (RdF.box b1 5 4 _ ?_ Zd) Zo Zo (Zfl h4)).mono ?_
 ·intro i hi
  rcases(by omega:i=0∨i=1∨i=2∨i=3) with rfl|rfl|rfl|rfl<;>rfl
 rintro e W2 ⟨rfl,hb2⟩;have hB2:=Zaa hB1 hb2;have b2:=b0.below hB2;have cb2:=bx W2 hB2;go_wp2_with fail
 refine(Zdy 1000000000 2 _ 2 (λi=>[s.p0,s.p1].getD i 0) _ (RdF.box b2 9 2 _ ?_ Zd) Zo Zo (Zfl h2)).mono ?_
 ·intro i hi
  rcases(by omega:i=0∨i=1) with rfl|rfl<;>rfl
 rintro e W3 ⟨rfl,hb3⟩;go_wp2
 go_ret
 exact⟨rfl,Zaa hB2 hb3⟩
theorem Zot (s:Srf) (hs:s.ok) (p:Option Addr) (c B:Nat) (w:World) (b0:Box w B 115 (s.cs p c)) :
  Calls Tryz.prog 229 #[.pointer (some ⟨B,0,none⟩)] w λe w'=>e=.returned (.bool true)∧Below w.heap.size w w':=by
 have cb0:=b0.cell;have bx:=λW (h:Below w.heap.size w W)=>(b0.below h).cell;simp only[Srf.cs]at cb0 bx;have h2:∀x∈[s.conic,s.conicx],In 100000000 x:=by
  intro x hx;have:=hs.conic;have:=hs.conicx;simp at hx;rcases hx with rfl|rfl<;>assumption
 have h3:∀x∈[s.ax,s.ay,s.az],In 90000000 x:=by
  intro x hx;have:=hs.ax;have:=hs.ay;have:=hs.az;simp at hx;rcases hx with rfl|rfl|rfl<;>assumption
 go_enter Tryz.func229,Tryz.ntmps229
 go_wp2_with fail
 refine(Zdy 100000000 2 _ 2 (λi=>[s.conic,s.conicx].getD i 0) _ (Zer w 3 [s.conic,s.conicx] Zs) Zo Zo (Zfl h2)).mono ?_;rintro e W1 ⟨rfl,hb1⟩;have hB1:=Zaa (Zad (Yae _ _) _) hb1;have cb1:=bx W1 hB1;go_wp2_with fail
 refine(Zdy 90000000 3 _ 3 (λi=>[s.ax,s.ay,s.az].getD i 0) _ (Zer W1 3 [s.ax,s.ay,s.az] Zs) Zo Zo (Zfl h3)).mono ?_;rintro e W2 ⟨rfl,hb2⟩;go_wp2
 go_ret
 exact⟨rfl,Zaa (Zad hB1 _) hb2⟩
theorem Zou (s:Srf) (hs:s.ok) (p:Option Addr) (c B:Nat) (w:World) (b0:Box w B 115 (s.cs p c)) :
  Calls Tryz.prog 230 #[.pointer (some ⟨B,0,none⟩)] w λe w'=>e=.returned (.bool true)∧Below w.heap.size w w':=by
 have cb0:=b0.cell;have bx:=λW (h:Below w.heap.size w W)=>(b0.below h).cell;simp only[Srf.cs]at cb0 bx;have h1:∀x∈[s.order],In 3 x:=by
  intro x hx;have:=hs.order;simp at hx;subst hx;assumption
 have h2:∀i,i<2->0<=[s.semi,s.hole].getD i 0∧[s.semi,s.hole].getD i 0<=1000000000:=by
  intro i hi;have:=hs.semi0;have:=hs.semi1;have:=hs.hole0;have:=hs.hole1;rcases(by omega:i=0∨i=1) with rfl|rfl<;>constructor<;>assumption
 go_enter Tryz.func230,Tryz.ntmps230
 go_wp2_with fail
 refine(Zdy 3 1 _ 1 (λi=>[s.order].getD i 0) _ (Zer w 3 [s.order] Zs) Zo Zo (Zfl h1)).mono ?_;rintro e W1 ⟨rfl,hb1⟩;have hB1:=Zaa (Zad (Yae _ _) _) hb1;have cb1:=bx W1 hB1;go_wp2_with fail
 refine(Zfk 0 1000000000 2 _ 2 (λi=>[s.semi,s.hole].getD i 0) _ (Zer W1 3 [s.semi,s.hole] Zs) h2).mono ?_;rintro e W2 ⟨rfl,hb2⟩;go_wp2
 go_ret
 exact⟨rfl,Zaa (Zad hB1 _) hb2⟩
end Go.Proofs.W
namespace Go.Ex
open Go.RowKit Go.Mono
section
section
variable {D:Den} {P:Program} {ρ:Nm} {wc w:World} {get:Operand->Option SV} {ev:Operand->Value}
theorem Zqv {t:TypeId} {l:List U} {off:Nat} {x:SV} {cs:List Value} (h:partS P t l off=some x) (hl:denL D ρ wc l cs) :
  (∃n m,rowT P t=some true∧szOf P t=some n∧x=.a (.agg m)∧denL D ρ wc m ((cs.drop off).take n)∧((cs.drop off).take n).length=n)∨
  (∃u v,rowT P t=some false∧x=.a (.one u)∧cs[off]? = some v∧denU D ρ wc u [v]):=by
 unfold partS at h;split at h
 ·rename_i n hr hz
  obtain⟨m,hm,rfl⟩:=Yad.1 h;obtain⟨h1,h2⟩:=Zf6 hm hl;exact .inl ⟨n,m,hr,hz,rfl,h1,h2⟩
 ·rename_i n hr hz
  split at h
  ·rename_i u hu
   cases h;obtain⟨h1,h2⟩:=Zf6 hu hl;obtain⟨c,d,e,hc,hd⟩:=h1;obtain rfl:d=[]:=hd;rw[Ydg]at e;rw[e]at h2;obtain⟨v,rfl⟩:∃v,c=[v]:=Ydr.1 h2;refine .inr ⟨u,v,hr,rfl,?_,hc⟩;have:=congrArg (·[0]?) e;simpa using this
  ·cases h
 ·cases h
def Holds (w:World) (p:Pl) (T:TypeId) (sp:Bool) (cs:List Value):Prop:=
 (p.ro=true∧w.rangeAt p.blk p.base cs)∨(p.ro=false∧p.base=0∧∃rest,(sp=false->rest=[])∧(sp=true->(cs++rest).length=p.tot)∧Box w p.blk T (cs++rest).toArray)
theorem Holds.cell {w:World} {p:Pl} {T:TypeId} {sp:Bool} {cs:List Value} (h:Holds w p T sp cs) {i:Nat} {v:Value} (hi:cs[i]? = some v):w.cell? ⟨p.blk,p.base+i,none⟩=some v:=by
 rcases h with ⟨_,h⟩|⟨_,h0,rest,_,_,h⟩
 ·exact h i v hi
 ·rw[h0,Yba,h.cell]
  have:=(Yan.1 hi).1;simpa[Ybb this]using hi
theorem Zel {w w':World} {B:Nat} (h:w'.heap[B]? = w.heap[B]?) (o:Nat):w'.cell? ⟨B,o,none⟩=w.cell? ⟨B,o,none⟩:=by
 simp only[World.cell?,h]
theorem Holds.of_block {w w':World} {p:Pl} {T:TypeId} {sp:Bool} {cs:List Value} (h:Holds w p T sp cs) (hb:w'.heap[p.blk]? = w.heap[p.blk]?):Holds w' p T sp cs:=by
 rcases h with ⟨h1,h⟩|⟨h1,h0,rest,h2,h3,h⟩
 ·exact .inl ⟨h1,λj v hj=>(Zel hb _).trans (h j v hj)⟩
 ·exact .inr ⟨h1,h0,rest,h2,h3,⟨hb.trans h.blk⟩⟩
def BkOk (D:Den) (ρ:Nm) (wc w:World) (bk:List (Nat×Blk)):Prop:=
 ∀k b,bk.look k=some b->b.dead=false->∃B cs,ρ k=some B∧Holds w B b.T b.sp cs∧denL D ρ wc b.cells cs∧B.ro=b.ro
theorem Znd (hg:∀x z,get x=some z->denV D ρ wc z (ev x)) {bk:List (Nat×Blk)} (hb:BkOk D ρ wc w bk) {t:TypeId} {x:Operand} {r:SV} (h:loadS P t (get x) bk=some r) :
  ∃v,(Instr.loadAt t (ev x)).run P w=.ok v w∧denV D ρ wc r v:=by
 unfold loadS at h;split at h
 ·rename_i k off hx
  split at h
  ·rename_i b hk
   split at h
   ·cases h
   rename_i hdd;obtain⟨B,cs,hB,bx,hl,_⟩:=hb k b hk (by simpa using hdd);obtain⟨B',hB',e⟩:=hg _ _ hx;cases hB.symm.trans hB';rw[show ev x=_ from by simpa using e];rcases Zqv h hl with ⟨n,m,hr,hz,rfl,h1,h2⟩|⟨u,v,hr,rfl,hv,hu⟩
   ·refine⟨.agg ((cs.drop off).take n).toArray,?_,_,rfl,h1⟩
    obtain⟨d,hd,hd'⟩:=Yad.1 hr;refine run_loadAt_mid w B.blk (B.base+off) t _ d ?_ hd hd' (by rw[h2];exact hz);intro j v hj;rw[Ybj];refine bx.cell ?_;have hjl:j<n:=by
     have:=(Yan.1 hj).1;omega
    rw[Ycv,if_pos hjl,Yeh]at hj;simpa using hj
   ·refine⟨v,?_,hu⟩
    unfold Instr.loadAt loadVar;simp only[Yar,Instr.sureAddr,Yau,Yag,Zf7 hr,Ybq,if_false];rw[run_load,bx.cell hv]
  ·cases h
 ·cases h
theorem Zv4 (hg:∀x z,get x=some z->denV D ρ wc z (ev x)) {o:Oper} {c:Call} (ho:o.op=.call c) {r:SV} (h:lenS P c get=some r) :
  ∃v,(execOp ev o).run P w=.ok (.value v) w∧denV D ρ wc r v:=by
 obtain⟨cal,⟨args⟩,⟨ts⟩⟩:=c;unfold lenS at h;dsimp only at h;split at h
 ·rename_i x t
  split at h
  ·rename_i k off n cp e hx hu
   cases h;obtain⟨B,hB,e1⟩:=hg _ _ hx;have e2:ev x=.slice (some ⟨B.blk,B.base+off,none⟩) n cp:=by simpa using e1
   refine⟨goInt n,?_,rfl,rfl⟩;unfold execOp;simp only[ho,resolve,Yar,Yau,Yag,invoke,builtin,Builtin.len_];simp[e2,run_underlying hu]
  ·rename_i k off n e hx hu
   cases h;obtain⟨B,cp,hB,hc,e1⟩:=hg _ _ hx;have e2:ev x=.slice (some ⟨B.blk,B.base+off,none⟩) n cp:=by simpa using e1
   refine⟨goInt n,?_,rfl,rfl⟩;unfold execOp;simp only[ho,resolve,Yar,Yau,Yag,invoke,builtin,Builtin.len_];simp[e2,run_underlying hu]
  ·rename_i k n sz e hx hu
   cases h;obtain⟨B,hB,h1,h2,h3,e1⟩:=hg _ _ hx;have e2:ev x=.slice (some ⟨B.blk,0,none⟩) n B.cap:=by simpa using e1
   refine⟨goInt n,?_,rfl,rfl⟩;unfold execOp;simp only[ho,resolve,Yar,Yau,Yag,invoke,builtin,Builtin.len_];simp[e2,run_underlying hu]
  ·rename_i e hx hu
   cases h;obtain⟨p,cp,hp,e1⟩:=hg _ _ hx;have e2:ev x=.slice p 0 cp:=by simpa using e1
   refine⟨goInt (0:Nat),?_,rfl,rfl⟩;unfold execOp;simp only[ho,resolve,Yar,Yau,Yag,invoke,builtin,Builtin.len_];simp[e2,run_underlying hu]
  ·rename_i k off m n e hx hu
   cases h;obtain⟨B,cp,hB,h0,hc,e1⟩:=hg _ _ hx;have e2:ev x=.slice (some ⟨B.blk,B.base+off,none⟩) n cp:=by simpa using e1
   refine⟨goInt n,?_,rfl⟩;unfold execOp;simp only[ho,resolve,Yar,Yau,Yag,invoke,builtin,Builtin.len_];simp[e2,run_underlying hu]
  ·rename_i p n c e hx hu
   cases h;have e2:ev x=.slice p n c:=by
    have:=hg _ _ hx;simp[denV,denA,denU]at this;exact this.1
   refine⟨goInt n,?_,rfl⟩;unfold execOp;simp only[ho,resolve,Yar,Yau,Yag,invoke,builtin,Builtin.len_];simp[e2,run_underlying hu]
  ·cases h
 ·rename_i x t
  split at h
  ·rename_i k off n cp e hx hu
   cases h;obtain⟨B,hB,e1⟩:=hg _ _ hx;have e2:ev x=.slice (some ⟨B.blk,B.base+off,none⟩) n cp:=by simpa using e1
   refine⟨goInt cp,?_,rfl,rfl⟩;unfold execOp;simp only[ho,resolve,Yar,Yau,Yag,invoke,builtin,Builtin.cap_];simp[e2,run_underlying hu]
  ·cases h
 ·cases h
theorem Zkc (hg:∀x z,get x=some z->denV D ρ wc z (ev x)) {bk:List (Nat×Blk)} (hb:BkOk D ρ wc w bk) {o:Oper} {r:SV} (h:evPure P o get bk=some r) :
  ∃v,(execOp ev o).run P w=.ok (.value v) w∧denV D ρ wc r v:=by
 have viaV:∀{s:Sem Value},(∃v,s.run P w=.ok v w∧denV D ρ wc r v)->∃v,(do pure (Next.value (<-s)):Sem Next).run P w=.ok (.value v) w∧denV D ρ wc r v:=by
  rintro s ⟨v,h1,h2⟩;exact⟨v,by simp only[Yar,h1,Yag,Yau],h2⟩
 unfold evPure at h;split at h
 ·rename_i x ho
  exact⟨ev x,by unfold execOp;rw[ho];rfl,hg _ _ h⟩
 ·rename_i x ho
  exact⟨ev x,by unfold execOp;rw[ho];rfl,hg _ _ h⟩
 ·rename_i f first caps ho
  split at h
  ·rename_i hf
   obtain⟨l,hl,rfl⟩:=Yad.1 h;have hc:=Zka hg hl;have hfe:first = #[]:=Array.isEmpty_iff.1 hf
   subst hfe;refine⟨.func (.func f) #[] (caps.map ev),by unfold execOp;simp[ho,Instr.makeFunc],_,hc,?_⟩;congr 2
   apply Yee.1;simp
  ·split at h
   ·rename_i x hx hc
    split at h
    ·rename_i s hs
     obtain⟨fl⟩:=first
     obtain⟨cl⟩:=caps;obtain rfl:fl=[x]:=hx;obtain rfl:cl=[]:=hc;exact⟨.func (.func f) #[ev x] #[],by unfold execOp;simp[ho,Instr.makeFunc],Zt3 h (hg _ _ hs)⟩
    ·cases h
   ·cases h
 ·rename_i s x f ho
  unfold execOp;rw[ho];exact viaV (Ziw hg h)
 ·rename_i t x ix ho
  split at h
  ·rename_i r' hr
   cases h;unfold execOp;rw[ho];exact viaV (Zix (x:=x) (ix:=ix) hg hr)
  ·exact Zcs hg h
 ·rename_i t x f ho
  split at h
  ·rename_i r' hr
   cases h;unfold execOp;rw[ho];exact viaV (Zqt hg hr)
  ·exact Zcs hg h
 ·rename_i t x ix ho
  split at h
  ·rename_i r' hr
   cases h;unfold execOp;rw[ho];exact viaV (Zqu (x:=x) (ix:=ix) hg hr)
  ·exact Zcs hg h
 ·rename_i x i ho
  split at h
  ·rename_i l hx
   obtain⟨y,hy,rfl⟩:=Yad.1 h;obtain⟨vs,e,hl⟩:=hg _ _ hx;obtain⟨v,hv,hd⟩:=Zkb hl hy;unfold execOp;rw[ho];refine viaV ⟨v,?_,hd⟩;rw[e];simp[Instr.extract,hv]
  ·cases h
 ·rename_i x ho
  split at h
  ·rename_i k off hx
   cases h;have hd:=hg _ _ hx;obtain⟨B,hB,e1⟩:=hd;have e2:ev x=.pointer (some ⟨B.blk,B.base+off,none⟩):=by simpa using e1
   refine⟨ev x,?_,B,hB,e1⟩;unfold execOp;rw[ho];simp only[e2];rfl
  ·rename_i f l hx
   cases h;have hd:=hg _ _ hx;obtain⟨vs,hv,e1⟩:=hd;have e2:ev x=.func (.func f) #[] vs.toArray:=by simpa using e1
   refine⟨ev x,?_,vs,hv,e1⟩;unfold execOp;rw[ho];simp only[e2];rfl
  ·rename_i f g l hx
   cases h;have hd:=hg _ _ hx;obtain⟨u,e1,hu⟩:=hd;have e2:ev x=.func (.func f) #[u] #[]:=by simpa using e1
   refine⟨ev x,?_,u,e1,hu⟩;unfold execOp;rw[ho];simp only[e2];rfl
  ·exact Zcs hg h
 ·rename_i t parts ho
  unfold execOp;rw[ho];exact viaV (Zqp hg h w)
 ·rename_i t x ho
  unfold execOp;rw[ho];exact viaV (Znd hg hb h)
 ·rename_i t x lo hi mx ho
  split at h
  ·rename_i r' hr
   cases h;unfold execOp;rw[ho];exact viaV (Zqs hg hr)
  ·exact Zcs hg h
 ·rename_i c ho
  split at h
  ·rename_i r' hr
   cases h;exact Zv4 hg ho hr
  ·exact Zcs hg h
 ·exact Zcs hg h
end
end
end Go.Ex
namespace Go.Mono
open Go.RowKit
def RdC (w:World) (p:Option Addr) (n c sz:Nat) (cell:Nat->Nat->Value):Prop:=
 n<=c∧n<=140737488351232∧(0<n->∃b off,p=some ⟨b,off,none⟩∧b<w.heap.size∧(∀i j,i<n->j<sz->w.cell? ⟨b,off+i*sz+j,none⟩=some (cell i j)))
theorem RdC.below {w w':World} {p:Option Addr} {n c sz:Nat} {f:Nat->Nat->Value} (h:RdC w p n c sz f) (hB:Below w.heap.size w w'):RdC w' p n c sz f:=by
 obtain⟨h1,h2,h3⟩:=h;refine⟨h1,h2,λhn=>?_⟩;obtain⟨b,off,hp,hb,hc⟩:=h3 hn;exact⟨b,off,hp,Yaf hb hB.size,λi j hi hj=>(hB.cell hb).trans (hc i j hi hj)⟩
def FilmsAt (w:World) (p:Option Addr) (n c:Nat) (F:Nat->Flm):Prop:=RdC w p n c 3 (λi j=>(F i).vals.getD j undef)
theorem FilmsAt.below {w w':World} {p:Option Addr} {n c:Nat} {F:Nat->Flm} (h:FilmsAt w p n c F) (hB:Below w.heap.size w w'):FilmsAt w' p n c F:=RdC.below h hB
theorem FilmsAt.range {w:World} {p:Option Addr} {n c:Nat} {F:Nat->Flm} (h:FilmsAt w p n c F) (hn:0<n):∃b off,p=some ⟨b,off,none⟩∧b<w.heap.size∧∀i,i<n->∀W,Below w.heap.size w W->W.rangeAt b (off+i*3) (F i).vals.toList:=by
 obtain⟨_,_,hx⟩:=h;obtain⟨b,off,hp,hb,hc⟩:=hx hn;refine⟨b,off,hp,hb,λi hi W hW j v hv=>?_⟩;have hj:j<3:=by
  have:=(Yan.1 hv).1;simpa[Flm.vals]using this
 refine((hW.cell (p:=⟨b,off+i*3+j,none⟩) hb).trans (hc i j hi hj)).trans ?_;dsimp only;rw[Yaq]at hv;rw[Yax,hv];rfl
def CoatAt (w:World) (p:Option Addr) (c:Nat) (l:List Flm):Prop:=FilmsAt w p l.length c (λi=>l.getD i ⟨0,0,0⟩)
theorem CoatAt.below {w w':World} {p:Option Addr} {c:Nat} {l:List Flm} (h:CoatAt w p c l) (hB:Below w.heap.size w w'):CoatAt w' p c l:=FilmsAt.below h hB
theorem CoatAt.nil (w:World) (p:Option Addr) (c:Nat):CoatAt w p c []:=⟨Yat _,Yat _,λh=>absurd h (Yfw 0)⟩
theorem CoatAt.alt {w:World} {p p':Option Addr} {c c':Nat} {l:List Flm} (h:l=[]∨p'=p∧c'=c) (H:CoatAt w p c l):CoatAt w p' c' l:=by
 rcases h with rfl|⟨rfl,rfl⟩
 ·exact CoatAt.nil _ _ _
 ·exact H
end Go.Mono
namespace Go.Proofs.W
open Go.RowKit Go.Mono
theorem Zbf (n lo hi:Int) (h1:lo<=n) (h2:n<=hi) (w:World) :
  Calls Tryz.prog 193 #[.int .i64 n,.int .i64 lo,.int .i64 hi] w λe w'=>e=.returned (.bool true)∧w'=w:=by
 go_enter Tryz.func193,Tryz.ntmps193
 go_wp2
 go_ret
 exact⟨rfl,rfl⟩
theorem Znr (B:Nat) (nm:ByteArray) (di pu st pr:Int) (pf pw' ps pc:Option Addr) (nf cf n cw ns cs nc cc:Nat) (L W:Nat->Int) (w:World)
  (b0:Box w B 236 #[.string nm,.int .i64 di,.int .i64 pu,.int .i64 st,.int .i64 pr,.slice pf nf cf,.slice pw' n cw,.slice ps ns cs,.slice pc nc cc])
  (hr:RdC w pw' n cw 2 (λi j=>if j=0 then .int .i64 (L i) else .int .i64 (W i)))
  (n1:1<=n) (n2:n<=5) (q1:0<=pr) (q2:pr<=n-1)
  (l0:∀i,i<n->300000<=L i∧L i<=2500000) (l1:∀i,i+1<n->L i<L (i+1)) (w0:∀i,i<n->1<=W i∧W i<=100) :
  Calls Tryz.prog 195 #[.pointer (some ⟨B,0,none⟩)] w λe w'=>e=.returned (.bool true)∧Below w.heap.size w w':=by
 have cb0:=b0.cell;obtain⟨hc1,hn1,hx⟩:=hr;obtain⟨b,off,rfl,hb,hcell⟩:=hx Zo;go_enter Tryz.func195,Tryz.ntmps195
 go_wp2
 go_loopw [3,12] (λl a wr=>∃(i:Nat) (la:Int),i<=n∧a=.int .i64 (i:Int)∧l=.int .i64 la∧(i=0->la=299999)∧(0<i->la=L (i-1))∧Below w.heap.size w wr) (λ_ a _=>(n-intOf a).toNat)
 case atStart=>exact⟨0,299999,Yat _,rfl,rfl,λ_=>rfl,λh=>Zo,Yae _ _⟩
 case round=>
  obtain⟨i,la,hi,rfl,rfl,ha0,ha1,hB⟩:=hrel;by_cases hin:i<n
  ·have hlt:la<L i:=by
    by_cases h0:i=0
    ·have:=ha0 h0;have:=l0 i hin;omega
    ·have:=ha1 (Zo);have:=l1 (i-1) Zo
     rw[show i-1+1=i by omega]at this;omega
   obtain⟨l2,l3⟩:=l0 i hin;obtain⟨w1,w2⟩:=w0 i hin;have f1:¬(L i<=la):=Zo;have f2:¬(2500000<L i):=Zo;have hin':(i:Int)<n:=Zo;have a0:=(hB.cell hb).trans (hcell i 0 hin Zo);have a1:=(hB.cell hb).trans (hcell i 1 hin Zo);simp only[if_true,Yce,Nat.succ_ne_self,if_false]at a0 a1;replace l0:=Yah l0;replace l1:=Yah l1;replace w0:=Yah w0;replace ha0:=Yah ha0;replace ha1:=Yah ha1;clear hcell;go_wp2_with (go_at_call 193;refine(Zbf _ _ _ w1 w2 _).mono ?_;rintro e w' ⟨rfl,rfl⟩)
   go_roundw
   case rel=>exact⟨i+1,L i,Zo,Zs,rfl,λh=>Zo,λ_=>rfl,Zad hB _⟩
   case measure=>simp[intOf];omega
  ·obtain rfl:i=n:=by omega
   have hb0:=b0.below hB;have cbb:=hb0.cell;have lbb:=hb0.lt;clear hcell cb0 l0 l1 w0 ha0 ha1;have e1:(1:Int)<=i:=Zo;have e2:(i:Int)<=5:=Zo;have hw:pr<=IntKind.i64.wrap ((i:Int)-1):=by
    have:IntKind.i64.wrap ((i:Int)-1)=(i:Int)-1:=by rw[Ybi];omega
    omega
   go_wp2_with fail
   go_region_held3 (λw'=>(∀b o,b<wr.heap.size->w'.cell? ⟨b,o,none⟩=wr.cell? ⟨b,o,none⟩)∧Below wr.heap.size wr w') ((refine Za1 ?_;first|exact(Yae _ _).drew|(repeat' (first|exact Yai ‹_› | exact Zaa (Yai ‹_›) ‹_› | exact Zad (Yai ‹_›) _|exact Zad ‹_› _|refine Zag ?_ Zo _ _)))) (first|(go_at_call 193;(with_reducible refine(Zbf (i:Int) 1 5 e1 e2 _).mono ?_);rintro e w' ⟨rfl,rfl⟩)|(go_at_call 193;(with_reducible refine(Zbf pr 0 (IntKind.i64.wrap ((i:Int)-1)) q1 hw _).mono ?_);rintro e w' ⟨rfl,rfl⟩))
   all_goals
    go_wp2
    go_ret
    exact⟨rfl,Zaa hB (Yai ‹_›)⟩
end Go.Proofs.W
namespace Go.Mono
open Go.RowKit
def Srf.flds (s:Srf):Array Value:=#[.int .i64 s.kind,.int .i64 s.curv,.int .i64 s.conic,.int .i64 s.curvx,.int .i64 s.conicx,.int .i64 s.order,.int .i64 s.thick,.int .i64 s.semi,.int .i64 s.hole,.int .i64 s.dx,.int .i64 s.dy,.int .i64 s.ax,.int .i64 s.ay,.int .i64 s.az,.int .i64 0,.int .i64 0,.int .i64 s.a0,.int .i64 s.a1,.int .i64 s.a2,.int .i64 s.a3,.int .i64 s.p0,.int .i64 s.p1,.string s.glass]
def Srf.lits (s:Srf):List Lit:=[.int .i64 s.kind,.int .i64 s.curv,.int .i64 s.conic,.int .i64 s.curvx,.int .i64 s.conicx,.int .i64 s.order,.int .i64 s.thick,.int .i64 s.semi,.int .i64 s.hole,.int .i64 s.dx,.int .i64 s.dy,.int .i64 s.ax,.int .i64 s.ay,.int .i64 s.az,.int .i64 0,.int .i64 0,.int .i64 s.a0,.int .i64 s.a1,.int .i64 s.a2,.int .i64 s.a3,.int .i64 s.p0,.int .i64 s.p1,.string s.glass.data.toList]
theorem Zcf {m z:Int} (h:In m z) (hm:m<=1000000000):(Lit.int .i64 z).wf=true:=by
 obtain⟨h1,h2⟩:=h;have e1:IntKind.i64.min = -9223372036854775808:=Zd;have e2:IntKind.i64.max=9223372036854775807:=Zd;simp only[Lit.wf,e1,e2,Yam,decide_eq_true_eq];omega
theorem Zoy {s:Srf} (h:s.ok):s.glass.size<=16:=by
 rcases h.glass with h|h
 ·rw[h];decide
 ·exact h.2.1
end Go.Mono
namespace Go.Proofs.W
open Go.RowKit Go.Mono
theorem Zud (d:Nat) (s:ByteArray) (h:s.size<=16):Tryz.prog.keyLits (d+1) 9 [.string s]=some [.string s.data.toList]:=by
 have hu:Tryz.prog.underlying 9=some .string:=Zk;have:s.size<=maxLen:=Yak h Zd;simp[Program.keyLits,hu,this]
theorem Zkp (s:Srf) (hs:s.ok):Tryz.prog.keyLits 6 295 s.flds.toList=some s.lits:=by
 have c299:Tryz.prog.cellsOf 295=23:=Zk;have c297:Tryz.prog.cellsOf 293=16:=Zk;have c91:Tryz.prog.cellsOf 83=4:=Zk;have c49:Tryz.prog.cellsOf 45=2:=Zk;have c3:Tryz.prog.cellsOf 3=1:=Zk;have c9:Tryz.prog.cellsOf 9=1:=Zk;have hg:=Zud 4 s.glass (Zoy hs);have w0:(Lit.int .i64 0).wf=true:=Zd;have w_kind:(Lit.int .i64 s.kind).wf=true:=Zcf (m:=4) ⟨by have:=hs.k1;omega,hs.k2⟩ Zo;have w_curv:(Lit.int .i64 s.curv).wf=true:=Zcf hs.curv Zo;have w_conic:(Lit.int .i64 s.conic).wf=true:=Zcf hs.conic Zo;have w_curvx:(Lit.int .i64 s.curvx).wf=true:=Zcf hs.curvx Zo;have w_conicx:(Lit.int .i64 s.conicx).wf=true:=Zcf hs.conicx Zo;have w_order:(Lit.int .i64 s.order).wf=true:=Zcf hs.order Zo;have w_thick:(Lit.int .i64 s.thick).wf=true:=Zcf hs.thick Zo;have w_semi:(Lit.int .i64 s.semi).wf=true:=Zcf (m:=1000000000) ⟨by have:=hs.semi0;omega,hs.semi1⟩ Zo;have w_hole:(Lit.int .i64 s.hole).wf=true:=Zcf (m:=1000000000) ⟨by have:=hs.hole0;omega,hs.hole1⟩ Zo;have w_dx:(Lit.int .i64 s.dx).wf=true:=Zcf hs.dx Zo;have w_dy:(Lit.int .i64 s.dy).wf=true:=Zcf hs.dy Zo;have w_ax:(Lit.int .i64 s.ax).wf=true:=Zcf hs.ax Zo;have w_ay:(Lit.int .i64 s.ay).wf=true:=Zcf hs.ay Zo;have w_az:(Lit.int .i64 s.az).wf=true:=Zcf hs.az Zo;have w_a0:(Lit.int .i64 s.a0).wf=true:=Zcf hs.a0 Zo;have w_a1:(Lit.int .i64 s.a1).wf=true:=Zcf hs.a1 Zo;have w_a2:(Lit.int .i64 s.a2).wf=true:=Zcf hs.a2 Zo;have w_a3:(Lit.int .i64 s.a3).wf=true:=Zcf hs.a3 Zo;have w_p0:(Lit.int .i64 s.p0).wf=true:=Zcf hs.p0 Zo;have w_p1:(Lit.int .i64 s.p1).wf=true:=Zcf hs.p1 Zo;clear hs;have h297:Tryz.prog.keyLits 5 293 [.int .i64 s.kind,.int .i64 s.curv,.int .i64 s.conic,.int .i64 s.curvx,.int .i64 s.conicx,.int .i64 s.order,.int .i64 s.thick,.int .i64 s.semi,.int .i64 s.hole,.int .i64 s.dx,.int .i64 s.dy,.int .i64 s.ax,.int .i64 s.ay,.int .i64 s.az,.int .i64 0,.int .i64 0]=some [.int .i64 s.kind,.int .i64 s.curv,.int .i64 s.conic,.int .i64 s.curvx,.int .i64 s.conicx,.int .i64 s.order,.int .i64 s.thick,.int .i64 s.semi,.int .i64 s.hole,.int .i64 s.dx,.int .i64 s.dy,.int .i64 s.ax,.int .i64 s.ay,.int .i64 s.az,.int .i64 0,.int .i64 0]:=by
  simp[Program.keyLits,Tryz.underlying293,Ydo, *]
 have h91:Tryz.prog.keyLits 5 83 [.int .i64 s.a0,.int .i64 s.a1,.int .i64 s.a2,.int .i64 s.a3]=some [.int .i64 s.a0,.int .i64 s.a1,.int .i64 s.a2,.int .i64 s.a3]:=by
  simp[Program.keyLits,Tryz.underlying83,Ydo, *]
 have h49:Tryz.prog.keyLits 5 45 [.int .i64 s.p0,.int .i64 s.p1]=some [.int .i64 s.p0,.int .i64 s.p1]:=by
  simp[Program.keyLits,Tryz.underlying45,Ydo, *]
 rw[Program.keyLits.eq_def];simp only[Tryz.underlying295];simp[Srf.flds,Srf.lits,h297,h91,h49,hg,c299,c297,c91,c49,c9]
theorem Zue (s:Srf) (hs:s.ok) (w:World):(binOp .eql 295 (.agg s.flds) (.agg s.flds)).run Tryz.prog w=.ok (.bool true) w:=by
 obtain⟨r,h1,h2⟩:=run_equalIn_deep (P:=Tryz.prog) 9995 5 295 Zk w 6 6 (.agg s.flds) (.agg s.flds) s.lits s.lits Zk Zk (Zkp s hs) (Zkp s hs);rw[run_eql_struct];have h3:r=true:=h2.2 rfl;subst h3;rw[show(10000:Nat)=9995+5 from rfl,h1];rfl
theorem Zku (z lo hi:Int) (B0 B1:Nat) (w:World) (b0:Box w B0 3 #[.int .i64 lo]) (b1:Box w B1 3 #[.int .i64 hi]) :
  Calls Tryz.prog 242 #[.int .i64 z,.pointer (some ⟨B0,0,none⟩),.pointer (some ⟨B1,0,none⟩)] w λe w'=>e=.returned (.bool (!decide (lo<=z∧z<=hi)))∧∃k,w'=w.drewN k:=by
 by_cases h:lo<=z∧z<=hi
 ·rw[decide_eq_true h]
  refine(Zgx z lo hi B0 B1 w b0 b1 h.1 h.2).mono ?_;rintro e w' ⟨rfl,rfl⟩;exact⟨rfl,0,rfl⟩
 ·rw[decide_eq_false h]
  have c0:=b0.cell;have c1:=b1.cell;by_cases e1:z<lo
  ·clear h
   go_enter Tryz.func242,Tryz.ntmps242
   go_wp2
   go_ret
   exact⟨rfl,0,rfl⟩
  ·have e2:hi<z:=by omega
   clear h;go_enter Tryz.func242,Tryz.ntmps242
   go_wp2
   go_ret
   exact⟨rfl,0,rfl⟩
theorem Zrg (p:Option Addr) (c:Nat) (z:Int) (r:Bool) (g:Nat) (eg:∀args w,(callFunc g args).run Tryz.prog w=.ok (.enter g args) w) (cap:Array Value) (w:World) (h:RdF w p 1 c (λ_=>z))
  (hf:Calls Tryz.prog g (#[.int .i64 z]++cap) w λe w'=>e=.returned (.bool r)∧∃k,w'=w.drewN k) :
  Calls Tryz.prog 249 #[.slice p 1 c,.func (.func g) #[] cap] w λe w'=>e=.returned (.int .i64 (if r then 0 else -1))∧∃k,w'=w.drewN k:=by
 obtain⟨hc1,hn1,hx1⟩:=h;obtain⟨b,off,rfl,hb,hcell⟩:=hx1 Zd;have a1:=hcell 0 Zd;clear hcell hx1;have hcj:∀j:Nat,j<1->w.cell? ⟨b,off+j,none⟩=some (.int .i64 z):=λj hj=>by
  obtain rfl:j=0:=Zo;exact a1
 clear a1;go_enter Tryz.func249,Tryz.ntmps249
 go_wp2
 go_loopw [8] (λa wr=>∃j:Nat,j<=1∧a=.int .i64 (j:Int)∧(j=0->wr=w)∧(j=1->r=false)∧∃k,wr=w.drewN k) (λa _=>(1-intOf a).toNat)
 case atStart=>exact⟨0,Zd,rfl,λ_=>rfl,λh=>Zo,0,rfl⟩
 case round=>
  obtain⟨j,hj,rfl,h0,h1,hk⟩:=hrel;by_cases hj0:j<1
  ·obtain rfl:=h0 Zo
   have a1:=hcj j hj0;have hj':(j:Int)<1:=Zo;clear h0 h1 hk hcj;go_wp2
   refine hf.mono ?_;rintro e w' ⟨rfl,k,rfl⟩;cases r with
   | true =>
     go_wp2
     go_ret
     exact⟨by simp;omega,k,rfl⟩
   | false =>
     go_wp2
     go_roundw
     case rel=>exact⟨j+1,Zo,Zs,λh=>Zo,Zs,k,rfl⟩
     case measure=>simp[intOf];omega
  ·obtain rfl:j=1:=by omega
   obtain rfl:=h1 rfl;obtain⟨k,rfl⟩:=hk;clear h0 hf hcj;go_wp2
   go_ret
   exact⟨rfl,k,rfl⟩
theorem Zkv (p:Option Addr) (c:Nat) (z:Int) (r:Bool) (g:Nat) (eg:∀args w,(callFunc g args).run Tryz.prog w=.ok (.enter g args) w) (cap:Array Value) (w:World) (h:RdF w p 1 c (λ_=>z))
  (hf:Calls Tryz.prog g (#[.int .i64 z]++cap) w λe w'=>e=.returned (.bool r)∧∃k,w'=w.drewN k) :
  Calls Tryz.prog 241 #[.slice p 1 c,.func (.func g) #[] cap] w λe w'=>e=.returned (.bool r)∧∃k,w'=w.drewN k:=by
 have hi:=Zrg p c z r g eg cap w h hf;clear h hf;cases r with
 | true =>
   simp only[if_true]at hi;go_enter Tryz.func241,Tryz.ntmps241
   go_wp2_with (go_at_call 249;refine hi.mono ?_;rintro e w' ⟨rfl,k,rfl⟩)
   go_ret
   exact⟨rfl,k,rfl⟩
 | false =>
   simp only[if_false,Ybq]at hi;go_enter Tryz.func241,Tryz.ntmps241
   go_wp2_with (go_at_call 249;refine hi.mono ?_;rintro e w' ⟨rfl,k,rfl⟩)
   go_ret
   exact⟨rfl,k,rfl⟩
theorem Zd8 (lo hi:Int) (p:Option Addr) (c:Nat) (z:Int) (w:World) (h:RdF w p 1 c (λ_=>z)) :
  Calls Tryz.prog 224 #[.int .i64 lo,.int .i64 hi,.slice p 1 c] w λe w'=>e=.returned (.bool (decide (lo<=z∧z<=hi)))∧Below w.heap.size w w':=by
 have hmf:∀(fn:Fn) (first cap:Array Value) (w:World),(Instr.makeFunc fn first cap).run Tryz.prog w=.ok (.func fn first cap) w:=λ_ _ _ _=>rfl;generalize hr:decide (lo<=z∧z<=hi)=r;replace hr:=Yah hr;go_enter Tryz.func224,Tryz.ntmps224
 go_wp2_with fail
 refine Zbj λW hB hs b0 b1=>?_;replace h:=h.below hB;have h1:=Zku z lo hi _ _ W b0 b1;rw[hr.out]at h1;refine(Zkv p c z (!r) _ Zdn _ W h ?_).mono ?_
 ·exact h1
 rintro e W1 ⟨rfl,k,rfl⟩;go_wp2
 go_ret
 exact⟨Zs,below_drewN hB k⟩
theorem Zuf (f:Flm) (w:World):Calls Tryz.prog 234 #[.agg f.vals] w λe w'=>e=.returned (.bool (decide f.ok))∧Below w.heap.size w w':=by
 obtain⟨ix,p,q⟩:=f;unfold Flm.vals;dsimp only;have e0:decide (Flm.ok ⟨ix,p,q⟩)=((decide (10000000<=ix∧ix<=40000000)&&decide (0<=p∧p<=1000))&&decide (1<=q∧q<=1000)):=by
  rw[<-Bool.decide_and,<-Bool.decide_and];exact decide_eq_decide.2 (by unfold Flm.ok;dsimp only;omega)
 rw[e0];generalize h1:decide (10000000<=ix∧ix<=40000000)=r1;generalize h2:decide (0<=p∧p<=1000)=r2;generalize h3:decide (1<=q∧q<=1000)=r3;replace h1:=Yah h1;replace h2:=Yah h2;replace h3:=Yah h3;clear e0;go_enter Tryz.func234,Tryz.ntmps234
 go_wp2_with fail
 refine Zbj (T1:=3) λW hB hs b0 b1=>?_;have c0:=b0.cell;have l0:=b0.lt;refine(Zd8 10000000 40000000 _ 1 ix W (.box b1 0 1 _ (λi hi=>by obtain rfl:i=0:=(Zo);rfl) Zo)).mono ?_;rintro e W1 ⟨rfl,hb⟩;rw[h1.out];replace hB:=Zaa hB hb;replace b0:=b0.below hb;clear c0 l0;have c0:=b0.cell;have l0:=b0.lt;cases r1 with
 | false =>
   go_wp2
   go_ret
   exact⟨rfl,hB⟩
 | true =>
   go_wp2_with fail
   refine Zbg (T0:=3) λW2 hB2 hs2 b2=>?_;have hBB:=Zaa hB hB2;refine(Zd8 0 1000 _ 1 p W2 (.box b2 0 1 _ (λi hi=>by obtain rfl:i=0:=(Zo);rfl) Zo)).mono ?_;rintro e W3 ⟨rfl,hb⟩;rw[h2.out];replace hB:=Zaa hBB hb;replace b0:=(b0.below hB2).below hb;clear c0 l0;have c0:=b0.cell;have l0:=b0.lt;cases r2 with
   | false =>
     go_wp2
     go_ret
     exact⟨rfl,hB⟩
   | true =>
     go_wp2_with fail
     refine Zbg (T0:=3) λW4 hB4 hs4 b4=>?_;have hBB4:=Zaa hB hB4;refine(Zd8 1 1000 _ 1 q W4 (.box b4 0 1 _ (λi hi=>by obtain rfl:i=0:=(Zo);rfl) Zo)).mono ?_;rintro e W5 ⟨rfl,hb⟩;rw[h3.out];go_wp2
     go_ret
     exact⟨Zs,Zaa hBB4 hb⟩
theorem Zo3 (w:World):(Instr.alloc 222 true (.tuple #[])).run Tryz.prog w=.ok (.pointer (some ⟨w.heap.size,0,none⟩)) (w.alloc (.cells #[.int .i64 0,.int .i64 0,.int .i64 0] 222)):=by
 go_simp
end Go.Proofs.W
namespace Go.Ex
open Go.RowKit Go.Mono
section
structure Frm (w0:World) (X:Nat->Prop) (w:World):Prop where
 os:w.os=w0.os
 tape:w.tape=w0.tape
 output:w.output=w0.output
 size:w0.heap.size<=w.heap.size
 block:∀i,i<w0.heap.size->¬X i->w.heap[i]? = w0.heap[i]?
theorem Frm.refl (w:World) (X:Nat->Prop):Frm w X w:=⟨rfl,rfl,rfl,Yab _,λ_ _ _=>rfl⟩
theorem Frm.below {w0 w:World} (h:Frm w0 (λ_=>False) w):Below w0.heap.size w0 w:=⟨h.os,h.tape,h.output,h.size,λk hk=>h.block k hk id⟩
theorem Frm.of_below {w0 w:World} (h:Below w0.heap.size w0 w) (X:Nat->Prop):Frm w0 X w:=⟨h.os,h.tape,h.output,h.size,λk hk _=>h.block k hk⟩
abbrev Liv (bk:List (Nat×Blk)) (k:Nat) (b:Blk):Prop:=bk.look k=some b∧b.dead=false
structure Sat (D:Den) (w0:World) (X:Nat->Prop) (th:Nat) (ρ:Nm) (wc w:World) (bk:List (Nat×Blk)):Prop where
 fr:Frm w0 X w
 ext:Ext wc w
 inj:∀k k' b b' B B',Liv bk k b->Liv bk k' b'->ρ k=some B->ρ k'=some B'->B.blk=B'.blk->k=k'∨(B.ro=true∧B'.ro=true)
 lt:∀k B,ρ k=some B->B.blk<w.heap.size
 box:∀k b,Liv bk k b->∃B cs,ρ k=some B∧Holds w B b.T b.sp cs∧denL D ρ wc b.cells cs∧(b.ro=false->w0.heap.size<=B.blk∨X B.blk)∧(b.T=3->th<=k->wc.heap.size<=B.blk)∧B.ro=b.ro
structure Evo (ρ:Nm) (wc w:World) (bk:List (Nat×Blk)) (c c':Nat) (ρ':Nm) (wc' w':World) (bk':List (Nat×Blk)):Prop where
 rho:ρ.le ρ'
 ext:Ext wc wc'
 size:w.heap.size<=w'.heap.size
 os:w'.os=w.os
 tape:w'.tape=w.tape
 output:w'.output=w.output
 loc:∀i,i<w.heap.size->(∀k b B,Liv bk k b->ρ k=some B->B.ro=false->B.blk≠i)->w'.heap[i]? = w.heap[i]?
 ids:∀k b,Liv bk' k b->(∃b0,Liv bk k b0)∨(c<=k∧k<c'∧∃B,ρ' k=some B∧(w.heap.size<=B.blk∨∃k0 b0 B0,Liv bk k0 b0∧ρ k0=some B0∧B0.ro=false∧B0.blk=B.blk))
 cc:c<=c'
 dom:∀k,(k<c∨c'<=k)->ρ' k=ρ k
theorem Evo.refl (ρ:Nm) (wc w:World) (bk:List (Nat×Blk)) (c:Nat):Evo ρ wc w bk c c ρ wc w bk:=
 ⟨Nm.le.refl _,Ext.refl _,Yab _,rfl,rfl,rfl,λ_ _ _=>rfl,λk b h=>.inl ⟨b,h⟩,Yab _,λ_ _=>rfl⟩
theorem Evo.trans {ρ ρ1 ρ2:Nm} {wc w wc1 w1 wc2 w2:World} {bk bk1 bk2:List (Nat×Blk)} {c c1 c2:Nat}
  (h:Evo ρ wc w bk c c1 ρ1 wc1 w1 bk1) (g:Evo ρ1 wc1 w1 bk1 c1 c2 ρ2 wc2 w2 bk2) (hlt:∀k b,Liv bk k b->∃B,ρ k=some B):Evo ρ wc w bk c c2 ρ2 wc2 w2 bk2 where
 rho:=h.rho.trans g.rho
 ext:=h.ext.trans g.ext
 size:=Yak h.size g.size
 os:=g.os.trans h.os
 tape:=g.tape.trans h.tape
 output:=g.output.trans h.output
 loc:=λi hi hn=>by
  rw[g.loc i (Yaf hi h.size) ?_,h.loc i hi hn];intro k b C hk he hro;rcases h.ids k b hk with ⟨b',hb'⟩|⟨_,_,B,hB,hle⟩
  ·obtain⟨B,hB⟩:=hlt k b' hb'
   have:=h.rho k B hB;rw[he]at this;cases this;exact hn k b' C hb' hB hro
  ·rw[he]at hB
   cases hB;rcases hle with hle|⟨k0,b0,B0,h1,h2,h3,h4⟩
   ·omega
   ·rw[<-h4];exact hn k0 b0 B0 h1 h2 h3
 ids:=λk b hk=>by
  have hc1:=h.cc;have hc2:=g.cc;rcases g.ids k b hk with ⟨b',hb'⟩|⟨k1,k2,B,hB,hle⟩
  ·rcases h.ids k b' hb' with h2|⟨k1,k2,B,hB,hle⟩
   ·exact .inl h2
   ·exact .inr ⟨k1,Zo,B,g.rho k B hB,hle⟩
  ·refine .inr ⟨Zo,k2,B,hB,?_⟩
   rcases hle with hle|⟨k0,b0,B0,h1,h2,h3,h4⟩
   ·exact .inl (Yak h.size hle)
   ·rcases h.ids k0 b0 h1 with ⟨b',hb'⟩|⟨_,_,B1,hB1,hle⟩
    ·obtain⟨B1,hB1⟩:=hlt k0 b' hb'
     have:=h.rho k0 B1 hB1;rw[h2]at this;cases this;exact .inr ⟨k0,b',B0,hb',hB1,h3,h4⟩
    ·rw[h2]at hB1
     cases hB1;rw[<-h4];exact hle
 cc:=Yak h.cc g.cc
 dom:=λk hk=>by
  have h1:=h.cc;have h2:=g.cc;rw[g.dom k Zo,h.dom k Zo]
section
variable {D:Den} {w0:World} {X:Nat->Prop} {th:Nat} {ρ:Nm} {wc w:World} {bk:List (Nat×Blk)}
theorem Sat.named (h:Sat D w0 X th ρ wc w bk):∀k b,Liv bk k b->∃B,ρ k=some B:=λk b hk=>let ⟨B,_,hB,_⟩:=h.box k b hk;⟨B,hB⟩
theorem Sat.bkOk (h:Sat D w0 X th ρ wc w bk):BkOk D ρ wc w bk:=λk b hk hd=>let ⟨B,cs,h1,h2,h3,_,_,h6⟩:=h.box k b ⟨hk,hd⟩;⟨B,cs,h1,h2,h3,h6⟩
theorem Sat.mono (h:Sat D w0 X th ρ wc w bk) {th':Nat} (hle:th<=th'):Sat D w0 X th' ρ wc w bk:=
 ⟨h.fr,h.ext,h.inj,h.lt,λk b hk=>let ⟨B,cs,h1,h2,h3,h4,h5,h6⟩:=h.box k b hk;⟨B,cs,h1,h2,h3,h4,λht hh=>h5 ht (Yak hle hh),h6⟩⟩
def addNm (ρ:Nm) (k:Nat) (B:Pl):Nm:=λj=>if j=k then some B else ρ j
theorem Zbt (ρ:Nm) (k:Nat) (B:Pl):addNm ρ k B k=some B:=by simp[addNm]
theorem Za4 (ρ:Nm) {k j:Nat} (B:Pl) (h:j≠k):addNm ρ k B j=ρ j:=by simp[addNm,h]
theorem Ziy {ρ:Nm} {k:Nat} {B:Pl} (h:ρ k=none):ρ.le (addNm ρ k B):=λj C hj=>by
 by_cases e:j=k
 ·subst e;rw[h]at hj;cases hj
 ·rw[Za4 _ _ e];exact hj
theorem Zce {k j:Nat} {b x:Blk} {l:List (Nat×Blk)} (h:Liv ((k,x)::l) j b):(j=k∧b=x∧x.dead=false)∨(j≠k∧Liv l j b):=by
 obtain⟨h,hd⟩:=h;rw[Zat]at h;by_cases e:j=k
 ·rw[if_pos e]at h;cases h;exact .inl ⟨e,rfl,hd⟩
 ·rw[if_neg e]at h;exact .inr ⟨e,h,hd⟩
theorem Sat.alloc (h:Sat D w0 X th ρ wc w bk) {k:Nat} (hk:ρ k=none) (T:TypeId) (sp:Bool) (cap tot:Nat) {l:List U} {cs rest:List Value} (hl:denL D ρ wc l cs) (hsp:sp=false->rest=[]) (htot:sp=true->(cs++rest).length=tot) :
  Sat D w0 X th (addNm ρ k ⟨w.heap.size,0,false,cap,tot⟩) wc (w.alloc (.cells (cs++rest).toArray T)) ((k,⟨T,l,false,sp,false⟩)::bk)∧
  Evo ρ wc w bk k (k+1) (addNm ρ k ⟨w.heap.size,0,false,cap,tot⟩) wc (w.alloc (.cells (cs++rest).toArray T)) ((k,⟨T,l,false,sp,false⟩)::bk):=by
 have hle:=Ziy (B:=⟨w.heap.size,0,false,cap,tot⟩) hk;have hb:Below w.heap.size w (w.alloc (.cells (cs++rest).toArray T)):=Zad (Yae _ _) _;have hnew:=Zbt ρ k ⟨w.heap.size,0,false,cap,tot⟩;refine⟨⟨⟨h.fr.os,h.fr.tape,h.fr.output,Yak h.fr.size hb.size,λi hi hx=>(hb.block i (Yaf hi h.fr.size)).trans (h.fr.block i hi hx)⟩,
  h.ext.alloc _,?_,?_,?_⟩,⟨hle,Ext.refl _,hb.size,rfl,rfl,rfl,λi hi _=>hb.block i hi,?_,Zo,?_⟩⟩
 ·intro j j' b b' B B' hj hj' h1 h2 he
  rcases Zce hj with ⟨e1,_,_⟩|⟨e1,hj⟩<;>rcases Zce hj' with ⟨e2,_,_⟩|⟨e2,hj'⟩
  ·exact .inl (by rw[e1,e2])
  ·subst e1
   rw[hnew]at h1;rw[Za4 _ _ e2]at h2;cases h1;have:=h.lt j' _ h2;dsimp only at he;omega
  ·subst e2
   rw[Za4 _ _ e1]at h1;rw[hnew]at h2;cases h2;have:=h.lt j _ h1;dsimp only at he;omega
  ·rw[Za4 _ _ e1]at h1;rw[Za4 _ _ e2]at h2
   exact h.inj j j' b b' B B' hj hj' h1 h2 he
 ·intro j B h1
  by_cases e1:j=k
  ·subst e1;rw[hnew]at h1;cases h1;simp
  ·rw[Za4 _ _ e1]at h1
   exact Yaf (h.lt j B h1) hb.size
 ·intro j b hj
  rcases Zce hj with ⟨rfl,rfl,_⟩|⟨e1,hj⟩
  ·exact⟨_,cs,hnew,.inr ⟨rfl,rfl,rest,hsp,htot,Box.new _ _ _⟩,hl.mono hle (Ext.refl _),λ_=>.inl h.fr.size,λ_ _=>h.ext.size,rfl⟩
  ·obtain⟨B,cs',h1,h2,h3,h4,h5,h6⟩:=h.box j b hj
   exact⟨B,cs',hle j B h1,h2.of_block (hb.block _ (h.lt j B h1)),h3.mono hle (Ext.refl _),h4,h5,h6⟩
 ·intro j b hj
  rcases Zce hj with ⟨rfl,rfl,_⟩|⟨e1,hj⟩
  ·exact .inr ⟨Yab _,Zo,_,hnew,.inl (Yab _)⟩
  ·exact .inl ⟨b,hj⟩
 ·intro j hj
  exact Za4 _ _ Zo
theorem Zqw (h:Sat D w0 X th ρ wc w bk) {k:Nat} {b:Blk} (hk:Liv bk k b) {B:Pl} (hB:ρ k=some B) (hro:b.ro=false) (hT:b.T≠3∨th<=k) (off:Nat) (ps:List Value):Ext wc (w.setCells B.blk off ps):=by
 obtain⟨B',cs,h1,h2,h3,h4,h5,h6⟩:=h.box k b hk;cases hB.symm.trans h1;have hks:KeepBut B.blk w.heap.size w (w.setCells B.blk off ps):=(KeepBut.refl _ _).setCells _ _ _;rcases h2 with ⟨g,_⟩|⟨_,hbase,rest,_,_,h2⟩
 ·rw[h6,hro]at g;cases g
 ·by_cases hT3:b.T=3
  ·have h6:=h5 hT3 (hT.resolve_left λhh=>hh hT3)
   refine⟨Yak h.ext.size hks.size,λj ds fr hj=>?_⟩;have h7:=h.ext.kept j ds fr hj;have h8:=Zam hj;rw[hks.block j (Zam h7) Zo];exact h7
  ·exact h.ext.trans (hks.ext h2 hT3)
theorem Sat.store (h:Sat D w0 X th ρ wc w bk) {k:Nat} {b:Blk} (hk:Liv bk k b) (hro:b.ro=false) {off:Nat} {us l:List U} {ps:List Value} (hput:putX b.cells off us=some l) (hp:denL D ρ wc us ps)
  (hT:b.T≠3∨th<=k) {B:Pl} (hB:ρ k=some B) (c:Nat) :
  Sat D w0 X th ρ wc (w.setCells B.blk off ps) ((k,⟨b.T,l,false,b.sp,false⟩)::bk)∧Evo ρ wc w bk c c ρ wc (w.setCells B.blk off ps) ((k,⟨b.T,l,false,b.sp,false⟩)::bk)∧w.there B.blk off ps.length∧B.base=0:=by
 have hext:=Zqw h hk hB hro hT off ps;obtain⟨B',cs,h1,h2,h3,h4,h5,h6⟩:=h.box k b hk;cases hB.symm.trans h1;have hBro:B.ro=false:=h6.trans hro;obtain⟨hbase,rest,hr1,hr2,h2'⟩:B.base=0∧∃rest,(b.sp=false->rest=[])∧(b.sp=true->(cs++rest).length=B.tot)∧Box w B.blk b.T (cs++rest).toArray:=by
  rcases h2 with ⟨g,_⟩|⟨_,g⟩
  ·rw[hBro]at g;cases g
  ·exact g
 obtain⟨q1,q2⟩:=Zna hput h3 hp;have hks:KeepBut B.blk w.heap.size w (w.setCells B.blk off ps):=(KeepBut.refl _ _).setCells _ _ _;have hbx0:=Box.setCells ps off w _ h2' (by simp;omega);have hcut:((cs++rest).toArray.toList.take off++ps++(cs++rest).toArray.toList.drop (off+ps.length))=(cs.take off++ps++cs.drop (off+ps.length))++rest:=by
  simp only[Yex];rw[Yfr Zo,List.drop_append_of_le_length Zo];simp
 have hbx:Box (w.setCells B.blk off ps) B.blk b.T ((cs.take off++ps++cs.drop (off+ps.length))++rest).toArray:=by
  rw[<-hcut];exact hbx0
 have hlen:(cs.take off++ps++cs.drop (off+ps.length)).length=cs.length:=by
  simp only[Yay,Ycq,Yfs];omega
 refine⟨⟨⟨?_,?_,?_,?_,?_⟩,hext,?_,λj C hj=>Yaf (h.lt j C hj) hks.size,?_⟩,⟨Nm.le.refl _,Ext.refl _,hks.size,hks.os,hks.tape,hks.output,?_,?_,Yab _,λ_ _=>rfl⟩,?_,hbase⟩
 ·exact hks.os.trans h.fr.os
 ·exact hks.tape.trans h.fr.tape
 ·exact hks.output.trans h.fr.output
 ·exact Yak h.fr.size hks.size
 ·intro i hi hx
  rw[hks.block i (Yaf hi h.fr.size) (by
   intro e;subst e;rcases h4 hro with h4|h4
   ·omega
   ·exact hx h4)]
  exact h.fr.block i hi hx
 ·intro j j' x x' C C' hj hj' e1 e2 he
  have f:∀{j x},Liv ((k,⟨b.T,l,false,b.sp,false⟩)::bk) j x->∃x,Liv bk j x:=λhj=>by
   rcases Zce hj with ⟨rfl,_,_⟩|⟨_,hj⟩
   ·exact⟨b,hk⟩
   ·exact⟨_,hj⟩
  obtain⟨y,hy⟩:=f hj;obtain⟨y',hy'⟩:=f hj';exact h.inj j j' y y' C C' hy hy' e1 e2 he
 ·intro j b' hj
  rcases Zce hj with ⟨rfl,rfl,_⟩|⟨e1,hj⟩
  ·exact⟨B,_,h1,.inr ⟨hBro,hbase,rest,hr1,λhs=>by rw[Yay,hlen,<-Yay];exact hr2 hs,hbx⟩,q1,λ_=>h4 hro,h5,hBro⟩
  ·obtain⟨C,ds,g1,g2,g3,g4,g5,g6⟩:=h.box j b' hj
   refine⟨C,ds,g1,g2.of_block (hks.block _ (h.lt j C g1) λe=>?_),g3,g4,g5,g6⟩;rcases h.inj j k b' b C B hj hk g1 h1 e with h7|h7
   ·exact e1 h7
   ·rw[hBro]at h7;cases h7.2
 ·intro i hi hn
  exact hks.block i hi (λe=>hn k b B hk h1 hBro e.symm)
 ·intro j b' hj
  rcases Zce hj with ⟨rfl,_,_⟩|⟨_,hj⟩
  ·exact .inl ⟨b,hk⟩
  ·exact .inl ⟨b',hj⟩
 ·exact h2'.there off ps.length (by simp;omega)
theorem Sat.push (h:Sat D w0 X th ρ wc w bk) {k:Nat} {b:Blk} (hk:Liv bk k b) (hro:b.ro=false) (hsp:b.sp=true) {us:List U} {ps:List Value} (hp:denL D ρ wc us ps)
  (hT:b.T≠3∨th<=k) {B:Pl} (hB:ρ k=some B) {c:Nat} (hc:ρ c=none) (hroom:widths b.cells+ps.length<=B.tot) (hck:c≠k) :
  Sat D w0 X th (addNm ρ c B) wc (w.setCells B.blk (widths b.cells) ps) ((k,⟨b.T,[],false,true,true⟩)::(c,⟨b.T,b.cells++us,false,true,false⟩)::bk)∧
  Evo ρ wc w bk c (c+1) (addNm ρ c B) wc (w.setCells B.blk (widths b.cells) ps) ((k,⟨b.T,[],false,true,true⟩)::(c,⟨b.T,b.cells++us,false,true,false⟩)::bk)∧w.there B.blk (widths b.cells) ps.length∧B.base=0:=by
 have hext:=Zqw h hk hB hro hT (widths b.cells) ps;obtain⟨B',cs,h1,h2,h3,h4,h5,h6⟩:=h.box k b hk;cases hB.symm.trans h1;have hBro:B.ro=false:=h6.trans hro;have hle:=Ziy (B:=B) hc;have hnew:=Zbt ρ c B;obtain⟨hbase,rest,hr1,hr2,h2'⟩:B.base=0∧∃rest,(b.sp=false->rest=[])∧(b.sp=true->(cs++rest).length=B.tot)∧Box w B.blk b.T (cs++rest).toArray:=by
  rcases h2 with ⟨g,_⟩|⟨_,g⟩
  ·rw[hBro]at g;cases g
  ·exact g
 have hw:=h3.len;have hlen0:=hr2 hsp;rw[Yay]at hlen0;have hks:KeepBut B.blk w.heap.size w (w.setCells B.blk (widths b.cells) ps):=(KeepBut.refl _ _).setCells _ _ _;have hbx0:=Box.setCells ps (widths b.cells) w _ h2' (by simp;omega);have hcut:((cs++rest).toArray.toList.take (widths b.cells)++ps++(cs++rest).toArray.toList.drop (widths b.cells+ps.length))=(cs++ps)++rest.drop ps.length:=by
  simp only[Yex];rw[Yfr Zo,Ycm Zo,List.drop_append,Yfi Zo,Ydp];congr 2
  omega
 have hbx:Box (w.setCells B.blk (widths b.cells) ps) B.blk b.T ((cs++ps)++rest.drop ps.length).toArray:=by
  rw[<-hcut];exact hbx0
 have livs:∀{j x},Liv ((k,⟨b.T,[],false,true,true⟩)::(c,⟨b.T,b.cells++us,false,true,false⟩)::bk) j x->j≠k∧((j=c∧x=⟨b.T,b.cells++us,false,true,false⟩)∨(j≠c∧Liv bk j x)):=λhj=>by
  rcases Zce hj with ⟨_,_,hd⟩|⟨e1,hj⟩
  ·cases hd
  ·rcases Zce hj with ⟨e2,e3,_⟩|⟨e2,hj⟩
   ·exact⟨e1,.inl ⟨e2,e3⟩⟩
   ·exact⟨e1,.inr ⟨e2,hj⟩⟩
 refine⟨⟨⟨?_,?_,?_,?_,?_⟩,hext,?_,?_,?_⟩,⟨hle,Ext.refl _,hks.size,hks.os,hks.tape,hks.output,?_,?_,Zo,?_⟩,?_,hbase⟩
 ·exact hks.os.trans h.fr.os
 ·exact hks.tape.trans h.fr.tape
 ·exact hks.output.trans h.fr.output
 ·exact Yak h.fr.size hks.size
 ·intro i hi hx
  rw[hks.block i (Yaf hi h.fr.size) (by
   intro e;subst e;rcases h4 hro with h4|h4
   ·omega
   ·exact hx h4)]
  exact h.fr.block i hi hx
 ·intro j j' x x' C C' gj gj' e1 e2 he
  obtain⟨nk,hj⟩:=livs gj;obtain⟨nk',hj'⟩:=livs gj';clear gj gj';rcases hj with ⟨a1,_⟩|⟨a1,hj⟩<;>rcases hj' with ⟨a2,_⟩|⟨a2,hj'⟩
  ·exact .inl (a1.trans a2.symm)
  ·subst a1
   rw[hnew]at e1;rw[Za4 _ _ a2]at e2;cases e1;rcases h.inj k j' b x' B C' hk hj' h1 e2 he with h7|h7
   ·exact absurd h7.symm nk'
   ·rw[hBro]at h7;cases h7.1
  ·subst a2
   rw[Za4 _ _ a1]at e1;rw[hnew]at e2;cases e2;rcases h.inj j k x b C B hj hk e1 h1 he with h7|h7
   ·exact absurd h7 nk
   ·rw[hBro]at h7;cases h7.2
  ·rw[Za4 _ _ a1]at e1;rw[Za4 _ _ a2]at e2
   exact h.inj j j' x x' C C' hj hj' e1 e2 he
 ·intro j C hj
  by_cases e:j=c
  ·subst e;rw[hnew]at hj;cases hj;exact Yaf (h.lt k _ h1) hks.size
  ·rw[Za4 _ _ e]at hj;exact Yaf (h.lt j C hj) hks.size
 ·intro j b' hj
  obtain⟨nk,hj⟩:=livs hj;rcases hj with ⟨rfl,rfl⟩|⟨e2,hj⟩
  ·refine⟨B,cs++ps,hnew,.inr ⟨hBro,hbase,rest.drop ps.length,(λhh=>by cases hh),λ_=>?_,hbx⟩,(h3.append hp).mono hle (Ext.refl _),λ_=>h4 hro,λht hh=>?_,hBro⟩
   ·simp only[Yay,Yfs];omega
   ·exact h5 ht (hT.resolve_left λhh=>hh ht)
  ·obtain⟨C,ds,g1,g2,g3,g4,g5,g6⟩:=h.box j b' hj
   refine⟨C,ds,hle j C g1,g2.of_block (hks.block _ (h.lt j C g1) λe=>?_),g3.mono hle (Ext.refl _),g4,g5,g6⟩;rcases h.inj j k b' b C B hj hk g1 h1 e with h7|h7
   ·exact nk h7
   ·rw[hBro]at h7;cases h7.2
 ·intro i hi hn
  exact hks.block i hi (λe=>hn k b B hk h1 hBro e.symm)
 ·intro j b' hj
  obtain⟨nk,hj⟩:=livs hj;rcases hj with ⟨rfl,_⟩|⟨e2,hj⟩
  ·exact .inr ⟨Yab _,Zo,B,hnew,.inr ⟨k,b,B,hk,h1,hBro,rfl⟩⟩
  ·exact .inl ⟨b',hj⟩
 ·intro j hj
  exact Za4 _ _ Zo
 ·exact h2'.there (widths b.cells) ps.length (by simp;omega)
theorem Sat.call (h:Sat D w0 X th ρ wc w bk) {w':World} (hb:Below w.heap.size w w') (c t:Nat) (hf:∀k b,bk.look k=some b->¬t<=k) :
  Sat D w0 X t ρ w' w' bk∧Evo ρ wc w bk c c ρ w' w' bk:=by
 have hx:Ext wc w':=h.ext.trans (.of_below hb);refine⟨⟨⟨hb.os.trans h.fr.os,hb.tape.trans h.fr.tape,hb.output.trans h.fr.output,Yak h.fr.size hb.size,λi hi hX=>(hb.block i (Yaf hi h.fr.size)).trans (h.fr.block i hi hX)⟩,
  Ext.refl _,h.inj,λj C hj=>Yaf (h.lt j C hj) hb.size,?_⟩,⟨Nm.le.refl _,hx,hb.size,hb.os,hb.tape,hb.output,λi hi _=>hb.block i hi,λk b hk=>.inl ⟨b,hk⟩,Yab _,λ_ _=>rfl⟩⟩
 intro j b hj;obtain⟨B,cs,h1,h2,h3,h4,h5,h6⟩:=h.box j b hj;exact⟨B,cs,h1,h2.of_block (hb.block _ (h.lt j B h1)),h3.mono (Nm.le.refl _) hx,h4,λ_ hh=>absurd hh (hf j b hj.1),h6⟩
theorem Sat.drew (h:Sat D w0 X th ρ wc w bk):Sat D w0 X th ρ wc w.drew bk:=
 ⟨⟨h.fr.os,h.fr.tape,h.fr.output,h.fr.size,h.fr.block⟩,h.ext.drew,h.inj,h.lt,λk b hk=>let ⟨B,cs,h1,h2,h3⟩:=h.box k b hk;⟨B,cs,h1,h2.of_block rfl,h3⟩⟩
theorem Evo.drew (ρ:Nm) (wc w:World) (bk:List (Nat×Blk)) (c:Nat):Evo ρ wc w bk c c ρ wc w.drew bk:=
 ⟨Nm.le.refl _,Ext.refl _,Yab _,rfl,rfl,rfl,λ_ _ _=>rfl,λk b h=>.inl ⟨b,h⟩,Yab _,λ_ _=>rfl⟩
end
end
end Go.Ex
