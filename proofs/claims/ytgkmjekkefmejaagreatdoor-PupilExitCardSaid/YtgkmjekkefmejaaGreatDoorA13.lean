/- Contracts of package matrix,and a verified evaluator. Part 13 of 27. No condition beside the row. -/
import Derived.Shelf.Abstract
import Derived.Great.BuildSlice
import Derived.Deep.Upon
import Derived.Laws.AppendOwn
import Derived.OrdersIn
import Derived.RecoverIn
import Derived.RangeFuncLeaves
import Derived.RangeFuncBound
import Derived.RangeFuncCalls
import Derived.RangeFuncNested
import Derived.Test.YtgkmjekkefmejaaGreatDoorA01
import Derived.Test.YtgkmjekkefmejaaGreatDoorA12
set_option linter.unusedVariables false
set_option linter.unusedSimpArgs false
set_option maxRecDepth 100000
set_option maxHeartbeats 4000000
namespace Go.Proofs.W
open Go.RowKit Go.Mono
theorem Zcp {v:Value} {z:Int} (w:World) (h:LgV 600 w v z) :
  Calls Tryz.prog 232 #[v] w λe w'=>e=.returned (.bool true)∧Below w.heap.size w w':=by
 obtain⟨p,n,c,f,rfl,s1,d1,e1,l1⟩:=h;obtain⟨hc1,hn1,hx1⟩:=s1.opens;by_cases hn:n=0
 ·subst hn
  have hz:decide (z<0)=false:=decide_eq_false (by simp[vf]at e1;omega);rw[hz];clear hx1;go_enter Tryz.func232,Tryz.ntmps232
  go_wp2
  go_ret
  exact⟨rfl,Zad (Yae _ _) _⟩
 ·have hn':((n:Int)==0)=false:=by simp;omega
  generalize decide (z<0)=s at *;go_enter Tryz.func232,Tryz.ntmps232
  go_wp2
  refine Zb3 λW hB hs b0=>?_;go_loopw [3] (λa wr=>∃i:Nat,i<=n∧a=.int .i64 (i:Int)∧wr=W) (λa _=>(n-intOf a).toNat)
  case atStart=>exact⟨0,Yat _,rfl,rfl⟩
  case round=>
   obtain⟨i,hi,rfl,hWe⟩:=hrel;obtain rfl:W=wr:=hWe.symm;have cb0:=b0.cell;have lb0:=b0.lt;have fb0:=b0.frozen;by_cases hin:i<n
   ·obtain⟨b,off,rfl,hb,hcell⟩:=hx1 Zo
    have a1:=(hB.cell (p:=⟨b,off+i,none⟩) hb).trans (hcell i hin);have hin':(i:Int)<n:=Zo;have f0:=d1.lo i hin;have f9:=d1.hi i hin;generalize f i=x at *;clear hcell hx1;go_wp2
    go_roundw
    case rel=>exact⟨i+1,Zo,Zs,trivial⟩
    case measure=>simp[intOf];omega
   ·obtain rfl:i=n:=by omega
    have hip:0<i:=Yck hn;clear e1;obtain⟨b,off,rfl,hb,hcell⟩:=hx1 hip;have a1:=(hB.cell (p:=⟨b,off+(i-1),none⟩) hb).trans (hcell (i-1) Zo);have ht:=d1.top Zo;obtain⟨k,rfl⟩:∃k,i=k+1:=⟨i-1,Zo⟩
    simp only[Ybf]at a1 ht;have ht2:(f k != 0)=true:=by simpa using ht
    generalize f k=x at *;have hk6:(k:Int)+1<=600:=Zo;clear hcell hx1;go_wp2
    go_ret
    exact⟨rfl,hB⟩
end Go.Proofs.W
namespace Go.Mono
open Go.RowKit
def RdF (w:World) (p:Option Addr) (n c:Nat) (f:Nat->Int):Prop:=
 n<=c∧n<=140737488351232∧(0<n->∃b off,p=some ⟨b,off,none⟩∧b<w.heap.size∧(∀i,i<n->w.cell? ⟨b,off+i,none⟩=some (.int .i64 (f i))))
theorem RdF.below {w w':World} {p:Option Addr} {n c:Nat} {f:Nat->Int} (h:RdF w p n c f) (hB:Below w.heap.size w w'):RdF w' p n c f:=by
 obtain⟨h1,h2,h3⟩:=h;refine⟨h1,h2,λhn=>?_⟩;obtain⟨b,off,hp,hb,hc⟩:=h3 hn;exact⟨b,off,hp,Yaf hb hB.size,λi hi=>(hB.cell hb).trans (hc i hi)⟩
end Go.Mono
namespace Go.Proofs.W
open Go.RowKit Go.Mono
theorem Zgz (z lo hi:Int) (B0 B1:Nat) (w:World) (b0:Box w B0 3 #[.int .i64 lo]) (b1:Box w B1 3 #[.int .i64 hi]) (h1:lo<=z) (h2:z<=hi) :
  Calls Tryz.prog 287 #[.int .i64 z,.pointer (some ⟨B0,0,none⟩),.pointer (some ⟨B1,0,none⟩)] w λe w'=>e=.returned (.bool false)∧w'=w:=by
 have c0:=b0.cell;have c1:=b1.cell;have e1:¬(z<lo):=Zo;have e2:¬(hi<z):=Zo;go_enter Tryz.func287,Tryz.ntmps287
 go_wp2
 go_ret
 exact⟨rfl,rfl⟩
theorem Zpe (n:Nat) (p:Option Addr) (c:Nat) (f:Nat->Int) (g:Nat) (eg:∀args w,(callFunc g args).run Tryz.prog w=.ok (.enter g args) w) (cap:Array Value) (w:World) (h:RdF w p n c f)
  (hf:∀i,i<n->Calls Tryz.prog g (#[.int .i64 (f i)]++cap) w λe w'=>e=.returned (.bool false)∧w'=w) :
  Calls Tryz.prog 294 #[.slice p n c,.func (.func g) #[] cap] w λe w'=>e=.returned (.int .i64 (-1))∧w'=w:=by
 obtain⟨hc1,hn1,hx1⟩:=h;go_enter Tryz.func294,Tryz.ntmps294
 go_wp2
 go_loopw [8] (λa wr=>∃k:Nat,k<=n∧a=.int .i64 (k:Int)∧wr=w) (λa _=>(n-intOf a).toNat)
 case atStart=>exact⟨0,Yat _,rfl,rfl⟩
 case round=>
  obtain⟨k,hk,rfl,rfl⟩:=hrel;by_cases h0:k<n
  ·obtain⟨b,off,rfl,hb,hcell⟩:=hx1 Zo
   have a1:=hcell k Zo;have hfk:=hf k h0;clear hcell hx1 hf;have h0':(k:Int)<n:=Zo;go_wp2
   refine hfk.mono ?_;rintro e w' ⟨rfl,rfl⟩;go_wp2
   go_roundw
   case rel=>refine⟨k+1,Zo,?_⟩;simp
   case measure=>simp[intOf];omega
  ·obtain rfl:k=n:=by omega
   go_wp2
   go_ret
   exact⟨rfl,rfl⟩
theorem Zjm (n:Nat) (p:Option Addr) (c:Nat) (f:Nat->Int) (g:Nat) (eg:∀args w,(callFunc g args).run Tryz.prog w=.ok (.enter g args) w) (cap:Array Value) (w:World) (h:RdF w p n c f)
  (hf:∀i,i<n->Calls Tryz.prog g (#[.int .i64 (f i)]++cap) w λe w'=>e=.returned (.bool false)∧w'=w) :
  Calls Tryz.prog 286 #[.slice p n c,.func (.func g) #[] cap] w λe w'=>e=.returned (.bool false)∧w'=w:=by
 have hi:=Zpe n p c f g eg cap w h hf;clear h hf;go_enter Tryz.func286,Tryz.ntmps286
 go_wp2_with (go_at_call 294;refine hi.mono ?_;rintro e w' ⟨rfl,rfl⟩)
 go_ret
 exact⟨rfl,rfl⟩
theorem Zdo:∀args w,(callFunc 287 args).run Tryz.prog w=.ok (.enter 287 args) w:=Go.Proofs.enters_of Tryz.func287 Zk rfl
theorem Zfi (lo hi:Int) (n:Nat) (p:Option Addr) (c:Nat) (f:Nat->Int) (w:World) (h:RdF w p n c f) (h1:∀i,i<n->lo<=f i∧f i<=hi) :
  Calls Tryz.prog 262 #[.int .i64 lo,.int .i64 hi,.slice p n c] w λe w'=>e=.returned (.bool true)∧Below w.heap.size w w':=by
 have hmf:∀(fn:Fn) (first cap:Array Value) (w:World),(Instr.makeFunc fn first cap).run Tryz.prog w=.ok (.func fn first cap) w:=λ_ _ _ _=>rfl;go_enter Tryz.func262,Tryz.ntmps262
 go_wp2_with fail
 refine Zbq λW hB hs b0 b1=>?_;replace h:=h.below hB;refine(Zjm n p c f _ Zdo _ W h λi hi=>?_).mono ?_
 ·exact Zgz _ _ _ _ _ W b0 b1 (h1 i hi).1 (h1 i hi).2
 rintro e W1 ⟨rfl,rfl⟩;go_wp2
 go_ret
 exact⟨rfl,hB⟩
theorem Zdy (m:Int) (n:Nat) (p:Option Addr) (c:Nat) (f:Nat->Int) (w:World) (h:RdF w p n c f) (hm0:0<=m) (hm1:m<=1000000000) (h1:∀i,i<n->-m<=f i∧f i<=m) :
  Calls Tryz.prog 266 #[.int .i64 m,.slice p n c] w λe w'=>e=.returned (.bool true)∧Below w.heap.size w w':=by
 have hb:=Zfi (-m) m n p c f w h h1;clear h h1;go_enter Tryz.func266,Tryz.ntmps266
 go_wp2_with (go_at_call 262;refine hb.mono ?_;rintro e w' ⟨rfl,hb⟩)
 go_ret
 exact⟨rfl,hb⟩
end Go.Proofs.W
namespace Go.Ex
open Go.RowKit Go.Mono
section
theorem Zdb {v:Value} (h:v.oneCell'=true):v.cells = #[v]:=by
 cases v<;>first|rfl|simp[Value.oneCell']at h
def unitsA:SA->List U
 | .one u=>[u]
 | .agg l=>l
theorem Zfd {D:Den} {ρ:Nm} {w:World}:∀{x:SA} {v:Value},denA D ρ w x v->denL D ρ w (unitsA x) v.cells.toList
 | .one u, v, h => by
   rw[Zdb (denU.ones h v Zs)];exact⟨[v],[],rfl,h,rfl⟩
 | .agg l,v,⟨cs,e,hl⟩=>by rw[e];exact hl
def fillS (place:Nat->Option (Nat×Nat)) (l:List U):List (Nat×List U)->Option (List U)
 | []=>some l
 | (i, us) :: r => match place i with
   | none=>none
   | some (off,size)=>if widths us=size then(putX l off us).bind λm=>fillS place m r else none
theorem Zkz (off:Nat):∀(vs:List Value) (k:Nat) (cs:Array Value),off+k+vs.length<=cs.size->
  (vs.zipIdx k).foldl (λc (p:Value×Nat)=>c.setIfInBounds (off+p.2) p.1) cs=(cs.toList.take (off+k)++vs++cs.toList.drop (off+k+vs.length)).toArray
 | [],k,cs,h=>Zs
 | v :: r, k, cs, h => by
   have hl:off+k+(r.length+1)<=cs.size:=by simpa using h
   rw[List.zipIdx_cons,List.foldl_cons,Zkz off r (k+1) _ (by simp;omega)];apply congrArg;rw[Array.toList_setIfInBounds,<-Ybj];have hL:off+k<cs.toList.length:=by rw[Yaz];omega
   rw[List.set_eq_take_append_cons_drop,if_pos hL];generalize off+k=m at *;have e1:(cs.toList.take m).length=m:=by rw[Ycq];omega
   have t1:(cs.toList.take m++v::cs.toList.drop (m+1)).take (m+1)=cs.toList.take m++[v]:=by
    rw[List.take_append,e1,Ycm Zo,show m+1-m=0+1 by omega,List.take_succ_cons];simp
   have t2:(cs.toList.take m++v::cs.toList.drop (m+1)).drop (m+1+r.length)=cs.toList.drop (m+(r.length+1)):=by
    rw[List.drop_append,e1,Yfi Zo,show m+1+r.length-m=r.length+1 by omega,List.drop_succ_cons,List.drop_drop,Ydp];congr 1
    omega
   rw[t1,t2];simp
section
variable {D:Den} {ρ:Nm} {w:World}
def denParts (D:Den) (ρ:Nm) (w:World):List (Nat×List U)->List (Nat×Value)->Prop
 | [],vs=>vs=[]
 | p::r,vs=>∃v s,vs=(p.1,v)::s∧denL D ρ w p.2 v.cells.toList∧denParts D ρ w r s
theorem Zf8 (place:Nat->Option (Nat×Nat)):∀{ps:List (Nat×List U)} {l m:List U} {cs:List Value} {vs:List (Nat×Value)},fillS place l ps=some m->denL D ρ w l cs->denParts D ρ w ps vs->
  ∃c:Array Value,Instr.fill place cs.toArray vs=some c∧denL D ρ w m c.toList
 | [], l, m, cs, vs, h, hl, hp => by
   obtain rfl:vs=[]:=hp;cases h;exact⟨_,rfl,hl⟩
 | (i, us) :: r, l, m, cs, vs, h, hl, hp => by
   obtain⟨v,s,rfl,hv,hs⟩:=hp;unfold fillS at h;cases hpl:place i with
   | none=>rw[hpl]at h;cases h
   | some os =>
     obtain⟨off,size⟩:=os;rw[hpl]at h;dsimp only at h;split at h
     ·rename_i hw
      obtain⟨m',hm',h2⟩:=Ybg.1 h;obtain⟨k1,k2⟩:=Znw hm' hl hv;have hlen:=hv.len;have hsz:v.cells.size=size:=by rw[<-hw,<-hlen,Yaz]
      have hk:¬(off+v.cells.size>cs.length):=by
       rw[Yaz]at k2;omega
      obtain⟨c,hc1,hc2⟩:=Zf8 place h2 k1 hs;refine⟨c,?_,hc2⟩;show(match place i with
       | none=>none
       | some (off, size) =>
         if v.cells.size≠size || off+v.cells.size>cs.toArray.size then none
         else Instr.fill place (v.cells.zipIdx.foldl (λcs (c,j)=>cs.setIfInBounds (off+j) c) cs.toArray) s)=some c
      rw[hpl];dsimp only;rw[if_neg (by simp[hsz];omega),<-hc1];congr 1
      have:=Zkz off v.cells.toList 0 cs.toArray (by simp;rw[Yaz]at k2;omega);simp only[Yce,Yex]at this;rw[<-this,<-Array.foldl_toList];simp
     ·cases h
end
def zeroU (P:Program) (t:TypeId):Option (List U):=
 match (P.info? t).bind (·.zero) with
 | some z=>if z.cells.toList.all (·.oneCell') then some (z.cells.toList.map .val) else none
 | none=>none
theorem Zny {P:Program} {t:TypeId} {l:List U} (h:zeroU P t=some l) (D:Den) (ρ:Nm) (w:World) :
  ∃i z,P.info? t=some i∧i.zero=some z∧denL D ρ w l z.cells.toList:=by
 unfold zeroU at h;split at h
 ·rename_i z hz
  obtain⟨i,hi,hz'⟩:=Ybg.1 hz;split at h
  ·rename_i ha
   cases h;exact⟨i,z,hi,hz',Zdn _ λv hv=>Ybn.1 ha v hv⟩
  ·cases h
 ·cases h
def getS (tm:List (Nat×SV)):Operand->Option SV
 | .tmp t=>tm.look t
 | .const v=>ofVal v
 | .global g=>some (.a (.one (.val (.pointer (some ⟨g,0,none⟩)))))
 | .func f=>some (.a (.one (.clo f [])))
structure TSat (D:Den) (ρ:Nm) (w:World) (n:Nat) (tm:List (Nat×SV)) (a:Act):Prop where
 size:a.tmps.size=n
 at_:∀t x,tm.look t=some x->∃v,a.tmps[t]? = some v∧denV D ρ w x v
theorem TSat.get {D:Den} {ρ:Nm} {w:World} {n:Nat} {tm:List (Nat×SV)} {a:Act} (h:TSat D ρ w n tm a):∀{x:Operand} {z:SV},getS tm x=some z->denV D ρ w z (a.eval x)
 | .tmp t, z, hz => by
   obtain⟨v,hv,hd⟩:=h.at_ t z hz;have:a.eval (.tmp t)=v:=by
    show a.tmps.getD t undef=v;simp[Yax,hv]
   rw[this];exact hd
 | .const v,z,hz=>Zkx hz
 | .global g,z,hz=>by cases hz;exact⟨rfl,rfl⟩
 | .func f,z,hz=>by cases hz;exact⟨[],rfl,rfl⟩
theorem TSat.mono {D:Den} {ρ ρ':Nm} {w w':World} {n:Nat} {tm:List (Nat×SV)} {a:Act} (h:TSat D ρ w n tm a) (hr:ρ.le ρ') (hx:Ext w w'):TSat D ρ' w' n tm a:=
 ⟨h.size,λt x hl=>let ⟨v,hv,hd⟩:=h.at_ t x hl;⟨v,hv,hd.mono hr hx⟩⟩
def partsS (get:Operand->Option SV):List (Nat×Operand)->Option (List (Nat×List U))
 | []=>some []
 | (i, x) :: r => match get x with
   | some (.a s)=>(partsS get r).map ((i,unitsA s)::·)
   | _=>none
theorem Zgt {D:Den} {ρ:Nm} {w:World} {get:Operand->Option SV} {ev:Operand->Value} (hg:∀x z,get x=some z->denV D ρ w z (ev x)) :
  ∀{l:List (Nat×Operand)} {ps:List (Nat×List U)},partsS get l=some ps->denParts D ρ w ps (l.map λ(i,x)=>(i,ev x))
 | [],ps,h=>by cases h;rfl
 | (i, x) :: r, ps, h => by
   unfold partsS at h;split at h
   ·rename_i s hs
    obtain⟨q,hq,rfl⟩:=Yad.1 h;exact⟨_,_,rfl,Zfd (hg _ _ hs),Zgt hg hq⟩
   ·cases h
def buildS (P:Program) (t:TypeId) (parts:List (Nat×Operand)) (get:Operand->Option SV):Option SV:=
 match zeroU P t,partsS get parts with
 | some z, some ps => match P.underlying t with
   | some (.array _ e) => match szOf P e with
     | some s=>(fillS (λi=>some (i*s,s)) z ps).map λm=>.a (.agg m)
     | none=>none
   | some (.struct fields) => match fields.toList.mapM (λf => (P.info? f.type).map λi => (f.offset, i.size)) with
     | some places=>(fillS (places.toArray[·]?) z ps).map λm=>.a (.agg m)
     | none=>none
   | _=>none
 | _,_=>none
theorem Zrc {D:Den} {P:Program} {ρ:Nm} {w:World} {get:Operand->Option SV} {ev:Operand->Value} (hg:∀x z,get x=some z->denV D ρ w z (ev x))
  {t:TypeId} {parts:Array (Nat×Operand)} {x:SV} (h:buildS P t parts.toList get=some x) (W:World) :
  ∃v,(Instr.build t (parts.map λ(i,x)=>(i,ev x))).run P W=.ok v W∧denV D ρ w x v:=by
 unfold buildS at h;split at h
 ·rename_i z ps hz hp
  obtain⟨it,zv,h1,h2,h3⟩:=Zny hz D ρ w;have hps:=Zgt hg hp;split at h
  ·rename_i n e hu
   split at h
   ·rename_i s hs
    obtain⟨m,hm,rfl⟩:=Yad.1 h;obtain⟨c,hc1,hc2⟩:=Zf8 _ hm h3 hps;obtain⟨ie,hie,rfl⟩:=Yad.1 hs;refine⟨.agg c,run_build W t _ c ?_,c.toList,Zs,hc2⟩;unfold Program.built;rw[h1,hu];dsimp only;rw[h2,hie];simpa using hc1
   ·cases h
  ·rename_i fields hu
   split at h
   ·rename_i places hpl
    obtain⟨m,hm,rfl⟩:=Yad.1 h;obtain⟨c,hc1,hc2⟩:=Zf8 _ hm h3 hps;refine⟨.agg c,run_build W t _ c ?_,c.toList,Zs,hc2⟩;unfold Program.built;rw[h1,hu];dsimp only;rw[h2,hpl];simpa using hc1
   ·cases h
  ·cases h
 ·cases h
end
section
def capsOf (get:Operand->Option SV):List Operand->Option (List (Nat×Nat))
 | []=>some []
 | x :: r => match get x with
   | some (.a (.one (.ptr k o)))=>(capsOf get r).map ((k,o)::·)
   | _=>none
def realO (get:Operand->Option SV):Option Operand->Option (Option Value)
 | none=>some none
 | some x=>((get x).bind realV).map some
def cutS (len:Nat) (l h m:Option Value):Option (Nat×Nat):=
 match m,(match l with
  | none=>some 0
  | some (.int .i64 (.ofNat a))=>some a
  | _=>none),(match h with
  | none=>some len
  | some (.int .i64 (.ofNat b))=>some b
  | _=>none) with
 | none,some a,some b=>if a<b∧b<=len then some (a,b) else none
 | _,_,_=>none
def loO:Option Value->Option Nat
 | none=>some 0
 | some (.int .i64 (.ofNat a))=>some a
 | _=>none
def cut3 (len:Nat) (l h m:Option Value):Option (Nat×Nat×Nat):=
 match m,h,loO l with
 | some (.int .i64 (.ofNat c)),some (.int .i64 (.ofNat b)),some a=>if a<=b∧b<=c∧c<=len then some (a,b,c) else none
 | _,_,_=>none
def cut0 (len:Nat) (l h m:Option Value):Option Nat:=
 match m,loO l,(match h with
  | none=>some len
  | h=>loO h) with
 | none,some a,some b=>if a=b∧b<=len then some a else none
 | _,_,_=>none
def cutA (k off len s:Nat) (l h m:Option Value):Option SV:=
 match cutS len l h m with
 | some (a,b)=>some (.a (.one (.sli k (off+a*s) (b-a))))
 | none => match cut3 len l h m with
   | some (a,b,c)=>some (.a (.one (.slc k (if c=a then off else off+a*s) (b-a) (c-a))))
   | none => match cut0 len l h m with
     | some _=>some (.a (.one .emp))
     | none=>none
def sliceS (P:Program) (t:TypeId) (x:Option SV) (get:Operand->Option SV) (lo hi mx:Option Operand):Option SV:=
 match realO get lo,realO get hi,realO get mx with
 | some l, some h, some m => match x, P.underlying t with
   | some (.a (.one (.slc k off len cap))), some (.slice e) => match pureOf P (Instr.sliceBounds true len cap l h m), szOf P e with
     | some (a,b,c),some s=>some (.a (.one (.slc k (if c=a then off else off+a*s) (b-a) (c-a))))
     | _,_=>none
   | some (.a (.one (.ptr k off))), some (.array n e) => match pureOf P (Instr.sliceBounds false n n l h m), szOf P e with
     | some (a,b,c),some s=>some (.a (.one (.slc k (if c=a then off else off+a*s) (b-a) (c-a))))
     | _,_=>none
   | some (.a (.one (.own k len _))), some (.slice e) => match szOf P e with
     | some s=>cutA k 0 len s l h m
     | _=>none
   | some (.a (.one (.sli k off len))), some (.slice e) => match szOf P e with
     | some s=>cutA k off len s l h m
     | _=>none
   | some (.a (.one .emp)), some (.slice e) => match szOf P e, cut0 0 l h m with
     | some _,some _=>some (.a (.one .emp))
     | _,_=>none
   | some (.a (.one (.slx k off len _))), some (.slice e) => match szOf P e, h with
     | some s,some _=>cutA k off len s l h m
     | _,_=>none
   | _,_=>none
 | _,_,_=>none
def lenS (P:Program) (c:Call) (get:Operand->Option SV):Option SV:=
 match c.callee,c.args.toList,c.argTypes.toList with
 | .builtin .len, [x], [t] => match get x, P.underlying t with
   | some (.a (.one (.slc _ _ n _))),some (.slice _)=>some (.a (.one (.val (goInt n))))
   | some (.a (.one (.sli _ _ n))),some (.slice _)=>some (.a (.one (.val (goInt n))))
   | some (.a (.one (.own _ n _))),some (.slice _)=>some (.a (.one (.val (goInt n))))
   | some (.a (.one .emp)),some (.slice _)=>some (.a (.one (.val (goInt (0:Nat)))))
   | some (.a (.one (.slx _ _ _ n))),some (.slice _)=>some (.a (.one (.sym n)))
   | some (.a (.one (.raw 1 [.slice _ n _]))),some (.slice _)=>some (.a (.one (.val (goInt n))))
   | _,_=>none
 | .builtin .cap, [x], [t] => match get x, P.underlying t with
   | some (.a (.one (.slc _ _ _ c))),some (.slice _)=>some (.a (.one (.val (goInt c))))
   | _,_=>none
 | _,_,_=>none
def loadS (P:Program) (t:TypeId) (x:Option SV) (bk:List (Nat×Blk)):Option SV:=
 match x with
 | some (.a (.one (.ptr k off))) => match bk.look k with
   | some b=>if b.dead then none else partS P t b.cells off
   | none=>none
 | _=>none
def isSelect:Op->Bool
 | .select ..=>true
 | _=>false
def realOp (P:Program) (o:Oper) (get:Operand->Option SV):Option SV:=
 if !isSelect o.op&&o.op.operands.toList.all (λx=>((get x).bind realV).isSome) then
  match pureOf P (execOp (λx=>((get x).bind realV).getD undef) o) with
  | some (.value v)=>ofVal v
  | _=>none
 else none
def bndOf (f:FuncId) (s:SA):Option SV:=
 match s.weak with
 | .one u=>some (.a (.one (.bnd f false [u])))
 | .agg l=>some (.a (.one (.bnd f true l)))
theorem Zux {D:Den} {ρ:Nm} {w:World} {f:FuncId} {s:SA} {r:SV} {v:Value} (h:bndOf f s=some r) (hv:denA D ρ w s v):denV D ρ w r (.func (.func f) #[v] #[]):=by
 unfold bndOf at h;have:=hv.weak;split at h
 ·rename_i u e
  cases h;rw[e]at this;exact⟨v,rfl,this⟩
 ·rename_i l e
  cases h;rw[e]at this;exact⟨v,rfl,this⟩
def evPure (P:Program) (o:Oper) (get:Operand->Option SV) (bk:List (Nat×Blk)):Option SV:=
 match o.op with
 | .move x=>get x
 | .assign x=>get x
 | .makeFunc (.func f) first caps => if first.isEmpty then (capsOf get caps.toList).map λl => .a (.one (.clo f l)) else (match first.toList, caps.toList with
   | [x], [] => match get x with
     | some (.a s)=>bndOf f s
     | _=>none
   | _,_=>none)
 | .fieldAddr s x f=>fieldAddrS P s (get x) f
 | .indexAddr t x ix => match indexAddrS P t (get x) (get ix) with
   | some r=>some r
   | none=>realOp P o get
 | .field t x f => match fieldS P t (get x) f with
   | some r=>some r
   | none=>realOp P o get
 | .index t x ix => match indexS P t (get x) (get ix) with
   | some r=>some r
   | none=>realOp P o get
 | .extract x i => match get x with
   | some (.tup l)=>(l[i]?).map .a
   | _=>none
 | .nilCheck x => match get x with
   | some (.a (.one (.ptr k off)))=>some (.a (.one (.ptr k off)))
   | some (.a (.one (.clo f l)))=>some (.a (.one (.clo f l)))
   | some (.a (.one (.bnd f g l)))=>some (.a (.one (.bnd f g l)))
   | _=>realOp P o get
 | .build t parts=>buildS P t parts.toList get
 | .load t x=>loadS P t (get x) bk
 | .slice t x lo hi mx => match sliceS P t (get x) get lo hi mx with
   | some r=>some r
   | none=>realOp P o get
 | .call c => match lenS P c get with
   | some r=>some r
   | none=>realOp P o get
 | _=>realOp P o get
section
variable {D:Den} {P:Program} {ρ:Nm} {wc w:World} {get:Operand->Option SV} {ev:Operand->Value}
theorem Zk0 (hg:∀x z,get x=some z->denV D ρ wc z (ev x)):∀{l:List Operand} {c:List (Nat×Nat)},capsOf get l=some c->adrs ρ c (l.map ev)
 | [],c,h=>by cases h;rfl
 | x :: r, c, h => by
   unfold capsOf at h;split at h
   ·rename_i k o hx
    obtain⟨q,hq,rfl⟩:=Yad.1 h;obtain⟨B,hB,e⟩:=hg _ _ hx;exact⟨B,_,hB,by rw[Ybz,show ev x=_ from by simpa using e],Zk0 hg hq⟩
   ·cases h
theorem Zje (hg:∀x z,get x=some z->denV D ρ wc z (ev x)) {x:Option Operand} {l:Option Value} (h:realO get x=some l):l=x.map ev:=by
 cases x with
 | none=>cases h;rfl
 | some x =>
   unfold realO at h;obtain⟨v,hv,rfl⟩:=Yad.1 h;obtain⟨z,hz,hr⟩:=Ybg.1 hv;rw[Yfx,Zgs hr (hg _ _ hz)]
theorem Zy3 (B off a c s:Nat):(if c=a then(⟨B,off,none⟩:Addr) else(⟨B,off,none⟩:Addr).add (a*s))=⟨B,if c=a then off else off+a*s,none⟩:=by
 split
 ·rfl
 ·rw[Yem]
theorem Zw3 {len cap:Nat} {l h m:Option Value} {a b:Nat} (e:cutS len l h m=some (a,b)) (hc:len<=cap) :
  (Instr.sliceBounds true len cap l h m).run P w=.ok (a,b,cap) w∧a<b∧b<=len:=by
 unfold cutS at e;split at e
 ·rename_i a' b' hl hh
  split at e
  ·rename_i hab
   obtain⟨rfl,rfl⟩:a'=a∧b'=b:=by simpa using e
   refine⟨?_,hab⟩;have hl0:(l=none∧a'=0)∨l=some (.int .i64 (Int.ofNat a')):=by
    split at hl
    ·cases hl;simp
    ·cases hl;simp
    ·cases hl
   have hhigh:(h=none∧b'=len)∨h=some (.int .i64 (Int.ofNat b')):=by
    split at hh
    ·cases hh;simp
    ·cases hh;simp
    ·cases hh
   have n1:a'<=b':=Zo;have n2:b'<=cap:=Zo;unfold Instr.sliceBounds;rcases hl0 with ⟨rfl,rfl⟩|rfl<;>rcases hhigh with ⟨rfl,rfl⟩|rfl<;>simp[Instr.sliceBound,asIntOf,n1,n2]
  ·cases e
 ·cases e
theorem Zrd {l:Option Value} {a:Nat} (h:loO l=some a):(l=none∧a=0)∨l=some (.int .i64 (Int.ofNat a)):=by
 unfold loO at h;split at h
 ·cases h;simp
 ·cases h;simp
 ·cases h
theorem Zw4 {len cap:Nat} {l h m:Option Value} {a b c:Nat} (e:cut3 len l h m=some (a,b,c)) (hc:len<=cap) :
  (Instr.sliceBounds true len cap l h m).run P w=.ok (a,b,c) w:=by
 unfold cut3 at e;split at e
 ·rename_i c' b' a' hl
  split at e
  ·rename_i hab
   obtain⟨rfl,rfl,rfl⟩:a'=a∧b'=b∧c'=c:=by simpa using e
   obtain⟨n1,n2,n3⟩:=hab;have n4:c'<=cap:=Zo;unfold Instr.sliceBounds;rcases Zrd hl with ⟨rfl,rfl⟩|rfl<;>simp[Instr.sliceBound,asIntOf,n1,n2,n4]
  ·cases e
 ·cases e
theorem Zre {len cap:Nat} {l h m:Option Value} {a:Nat} (e:cut0 len l h m=some a) (hc:len<=cap) :
  (Instr.sliceBounds true len cap l h m).run P w=.ok (a,a,cap) w:=by
 unfold cut0 at e;split at e
 ·rename_i a' b' hl hh
  split at e
  ·rename_i hab
   obtain rfl:a'=a:=by simpa using e
   obtain⟨rfl,n2⟩:=hab;have n4:a'<=cap:=Zo;have hhigh:(h=none∧a'=len)∨h=some (.int .i64 (Int.ofNat a')):=by
    split at hh
    ·cases hh;simp
    ·rename_i hne
     rcases Zrd hh with ⟨h1,h2⟩|h1
     ·exact absurd h1 (by simpa using hne)
     ·exact .inr h1
   unfold Instr.sliceBounds;rcases Zrd hl with ⟨rfl,rfl⟩|rfl<;>rcases hhigh with ⟨rfl,rfl⟩|rfl<;>simp[Instr.sliceBound,asIntOf,n4]
  ·cases e
 ·cases e
theorem Zmp {k off len s cp:Nat} {l h' m:Option Value} {r:SV} (h:cutA k off len s l h' m=some r) {B:Pl} (hB:ρ k=some B) (h1:len<=cp) {t e:TypeId} (hu:P.underlying t=some (.slice e)) (hs:szOf P e=some s) :
  ∃v,(Instr.sliceAt t (.slice (some ⟨B.blk,B.base+off,none⟩) len cp) l h' m).run P w=.ok v w∧denV D ρ wc r v:=by
 have go:∀{a b c:Nat},(Instr.sliceBounds true len cp l h' m).run P w=.ok (a,b,c) w->(Instr.sliceAt t (.slice (some ⟨B.blk,B.base+off,none⟩) len cp) l h' m).run P w=.ok (.slice (some ⟨B.blk,B.base+(if c=a then off else off+a*s),none⟩) (b-a) (c-a)) w:=by
  intro a b c g1;unfold Instr.sliceAt;simp only[Yar,run_underlying hu,Yag];unfold Instr.slice;simp only[Yar,run_underlying hu,Yag,g1,Zck hs,Yau];congr 2
  split<;>simp[Yem,Ybj]
 unfold cutA at h;split at h
 ·rename_i a b hb
  cases h;obtain⟨g1,g2,g3⟩:=Zw3 (P:=P) (w:=w) hb h1;refine⟨_,go g1,B,cp-a,hB,Zo,?_⟩;rw[if_neg Zo]
 ·split at h
  ·rename_i a b c hb
   cases h;exact⟨_,go (Zw4 hb h1),B,hB,rfl⟩
  ·split at h
   ·rename_i a hb
    cases h;exact⟨_,go (Zre hb h1),some ⟨B.blk,B.base+(if cp=a then off else off+a*s),none⟩,cp-a,λhh=>(by cases hh),by rw[Ydt]⟩
   ·cases h
theorem Zrf (hg:∀x z,get x=some z->denV D ρ wc z (ev x)) {t:TypeId} {x:Operand} {lo hi mx:Option Operand} {r:SV} (h:sliceS P t (get x) get lo hi mx=some r) :
  ∃v,(Instr.sliceAt t (ev x) (lo.map ev) (hi.map ev) (mx.map ev)).run P w=.ok v w∧denV D ρ wc r v:=by
 unfold sliceS at h;split at h
 ·rename_i l h' m hl hh hm
  rw[<-Zje hg hl,<-Zje hg hh,<-Zje hg hm];split at h
  ·rename_i k off len cap e hx hu
   split at h
   ·rename_i a b c s hb hs
    cases h;obtain⟨B,hB,e1⟩:=hg _ _ hx;rw[show ev x=_ from by simpa using e1];refine⟨.slice (some ⟨B.blk,B.base+(if c=a then off else off+a*s),none⟩) (b-a) (c-a),?_,B,hB,rfl⟩;unfold Instr.sliceAt;simp only[Yar,run_underlying hu,Yag];unfold Instr.slice;simp only[Yar,run_underlying hu,Yag,Zc7 hb,Zck hs,Yau];congr 2
    split<;>simp[Yem,Ybj]
   ·cases h
  ·rename_i k off n e hx hu
   split at h
   ·rename_i a b c s hb hs
    cases h;obtain⟨B,hB,e1⟩:=hg _ _ hx;rw[show ev x=_ from by simpa using e1];refine⟨.slice (some ⟨B.blk,B.base+(if c=a then off else off+a*s),none⟩) (b-a) (c-a),?_,B,hB,rfl⟩;unfold Instr.sliceAt;simp only[Yar,run_underlying hu,Yag,Instr.sureAddr,Zc7 hb,Zck hs,Yau];rw[Zy3];congr 2
    split<;>simp[Ybj]
   ·cases h
  ·rename_i k len sz e hx hu
   split at h
   ·rename_i s hs
    obtain⟨B,hB,h1,h2,h3,e1⟩:=hg _ _ hx;rw[show ev x=_ from by simpa using e1];have:=Zmp (D:=D) (P:=P) (w:=w) (wc:=wc) (ρ:=ρ) h hB h1 hu hs;rwa [h3,Yba]at this
   ·cases h
  ·rename_i k off len e hx hu
   split at h
   ·rename_i s hs
    obtain⟨B,cp,hB,h1,e1⟩:=hg _ _ hx;rw[show ev x=_ from by simpa using e1];exact Zmp h hB h1 hu hs
   ·cases h
  ·rename_i e hx hu
   split at h
   ·rename_i s a hs hb
    cases h;obtain⟨p,c,hp,e1⟩:=hg _ _ hx;rw[show ev x=_ from by simpa using e1];refine⟨.slice (if c=a then p else p.map (·.add (a*s))) (a-a) (c-a),?_,(if c=a then p else p.map (·.add (a*s))),c-a,λhh=>?_,by rw[Ydt]⟩
    ·unfold Instr.sliceAt
     simp only[Yar,run_underlying hu,Yag];unfold Instr.slice;simp only[Yar,run_underlying hu,Yag,Zre (P:=P) (w:=w) hb (Yat c),Zck hs,Yau]
    ·split at hh
     ·omega
     ·have:p=none:=by cases p with
       | none=>rfl
       | some q=>cases hh
      rw[hp this];omega
   ·cases h
  ·rename_i k off len n e hx hu
   split at h
   ·rename_i s b hs
    obtain⟨B,cp,hB,h0,h1,e1⟩:=hg _ _ hx;rw[show ev x=_ from by simpa using e1];have hh:∀{l m:Option Value} {r:SV},cutA k off len s l (some b) m=some r->(Instr.sliceAt t (.slice (some ⟨B.blk,B.base+off,none⟩) n cp) l (some b) m).run P w=(Instr.sliceAt t (.slice (some ⟨B.blk,B.base+off,none⟩) len cp) l (some b) m).run P w:=by
     intro l m r _;unfold Instr.sliceAt;simp only[Yar,run_underlying hu,Yag];unfold Instr.slice;simp only[Yar,run_underlying hu,Yag];cases m<;>rfl
    rw[hh h];exact Zmp h hB Zo hu hs
   ·cases h
  ·cases h
 ·cases h
theorem Zcq (hg:∀x z,get x=some z->denV D ρ wc z (ev x)) {o:Oper} {r:SV} (h:realOp P o get=some r) :
  ∃v,(execOp ev o).run P w=.ok (.value v) w∧denV D ρ wc r v:=by
 unfold realOp at h;split at h
 ·rename_i hc
  rw[Yam]at hc;split at h
  ·rename_i v hv
   refine⟨v,?_,Zkx h⟩;rw[execOp_congr (ρ:=ev) (ρ':=λx=>((get x).bind realV).getD undef) o (λcs b he=>by rw[he]at hc;simp[isSelect]at hc) (λx hx=>by
    have:=Ybn.1 hc.2 x (by simpa using hx);obtain⟨y,hy⟩:=Yct.1 this;obtain⟨z,hz,hr⟩:=Ybg.1 hy;rw[hy,Option.getD_some,Zgs hr (hg _ _ hz)])]
   exact Zc7 hv w
  ·cases h
 ·cases h
theorem Zjf (hg:∀x z,get x=some z->denV D ρ wc z (ev x)) {s f:Nat} {x:Operand} {r:SV} (h:fieldAddrS P s (get x) f=some r) :
  ∃v,(Instr.fieldAt s (ev x) f).run P w=.ok v w∧denV D ρ wc r v:=by
 unfold fieldAddrS at h;split at h
 ·rename_i k off hx
  split at h
  ·rename_i fs hu
   split at h
   ·rename_i fl hf
    split at h
    ·rename_i n hz
     cases h;obtain⟨B,hB,e1⟩:=hg _ _ hx;rw[show ev x=_ from by simpa using e1];exact⟨.pointer (some ⟨B.blk,B.base+(off+fl.offset),none⟩),by rw[<-Ybj];exact Zky hu hf hz,B,hB,rfl⟩
    ·cases h
   ·cases h
  ·cases h
 ·cases h
theorem Zd3 {X I:Option SV} {vx vi:Value} (hX:∀s,X=some s->denV D ρ wc s vx) (hI:∀s,I=some s->denV D ρ wc s vi) {t:Nat} {r:SV} (h:indexAddrS P t X I=some r) :
  ∃v,(Instr.indexAt t vx vi).run P w=.ok v w∧denV D ρ wc r v:=by
 unfold indexAddrS at h;split at h
 ·rename_i k off kd i
  split at h
  ·rename_i n e hu
   split at h
   ·rename_i s hz
    split at h
    ·rename_i hb
     cases h;obtain⟨B,hB,e1⟩:=hX _ rfl;rw[show vx=_ from by simpa using e1,show vi=_ from by simpa using(hI _ rfl).1];exact⟨.pointer (some ⟨B.blk,B.base+(off+i.toNat*s),none⟩),by rw[<-Ybj];exact Zjd hu hz hb,B,hB,rfl⟩
    ·cases h
   ·cases h
  ·cases h
 ·rename_i k off len cap kd i
  split at h
  ·rename_i e hu
   split at h
   ·rename_i s hz
    split at h
    ·rename_i hb
     cases h;obtain⟨B,hB,e1⟩:=hX _ rfl;rw[show vx=_ from by simpa using e1,show vi=_ from by simpa using(hI _ rfl).1];exact⟨.pointer (some ⟨B.blk,B.base+(off+i.toNat*s),none⟩),by rw[<-Ybj];exact Zcl hu hz hb,B,hB,rfl⟩
    ·cases h
   ·cases h
  ·cases h
 ·rename_i k off len kd i
  split at h
  ·rename_i e hu
   split at h
   ·rename_i s hz
    split at h
    ·rename_i hb
     cases h;obtain⟨B,c,hB,hc,e1⟩:=hX _ rfl;rw[show vx=_ from by simpa using e1,show vi=_ from by simpa using(hI _ rfl).1];exact⟨.pointer (some ⟨B.blk,B.base+(off+i.toNat*s),none⟩),by rw[<-Ybj];exact Zcl hu hz hb,B,hB,rfl⟩
    ·cases h
   ·cases h
  ·cases h
 ·rename_i k len sz kd i
  split at h
  ·rename_i e hu
   split at h
   ·rename_i s hz
    split at h
    ·rename_i hb
     cases h;obtain⟨B,hB,h1,h2,h3,e1⟩:=hX _ rfl;rw[show vx=_ from by simpa using e1,show vi=_ from by simpa using(hI _ rfl).1];refine⟨.pointer (some ⟨B.blk,B.base+i.toNat*s,none⟩),?_,B,hB,rfl⟩;rw[h3,Zcl hu hz hb]
    ·cases h
   ·cases h
  ·cases h
 ·rename_i k off m n kd i
  split at h
  ·rename_i e hu
   split at h
   ·rename_i s hz
    split at h
    ·rename_i hb
     cases h;obtain⟨B,c,hB,hm,hc,e1⟩:=hX _ rfl;rw[show vx=_ from by simpa using e1,show vi=_ from by simpa using(hI _ rfl).1];exact⟨.pointer (some ⟨B.blk,B.base+(off+i.toNat*s),none⟩),by rw[<-Ybj];exact Zcl hu hz ⟨hb.1,Zo⟩,B,hB,rfl⟩
    ·cases h
   ·cases h
  ·cases h
 ·cases h
theorem Zjg (hg:∀x z,get x=some z->denV D ρ wc z (ev x)) {t:Nat} {x ix:Operand} {r:SV} (h:indexAddrS P t (get x) (get ix)=some r) :
  ∃v,(Instr.indexAt t (ev x) (ev ix)).run P w=.ok v w∧denV D ρ wc r v:=Zd3 (hg x) (hg ix) h
theorem Zrg (hg:∀x z,get x=some z->denV D ρ wc z (ev x)) {s f:Nat} {x:Operand} {r:SV} (h:fieldS P s (get x) f=some r) :
  ∃v,(Instr.field s (ev x) f).run P w=.ok v w∧denV D ρ wc r v:=by
 unfold fieldS at h;split at h
 ·rename_i l hx
  split at h
  ·rename_i fs hu
   split at h
   ·rename_i fl hf
    obtain⟨cs,e,hl⟩:=hg _ _ hx;obtain⟨v,h1,h2⟩:=Znx (P:=P) (w:=w) h hl;refine⟨v,?_,h2⟩;rw[e];unfold Instr.field;simp only[Yar,run_underlying hu,Yag,hf,asAgg,Yau,h1]
   ·cases h
  ·cases h
 ·cases h
theorem Zil {X I:Option SV} {vx vi:Value} (hX:∀s,X=some s->denV D ρ wc s vx) (hI:∀s,I=some s->denV D ρ wc s vi) {t:Nat} {r:SV} (h:indexS P t X I=some r) :
  ∃v,(Instr.index t vx vi).run P w=.ok v w∧denV D ρ wc r v:=by
 unfold indexS at h;split at h
 ·rename_i l kd i
  split at h
  ·rename_i n e hu
   split at h
   ·rename_i s hz
    split at h
    ·rename_i hb
     obtain⟨cs,e1,hl⟩:=hX _ rfl;obtain⟨v,h1,h2⟩:=Znx (P:=P) (w:=w) h hl;refine⟨v,?_,h2⟩;rw[e1,show vi=_ from by simpa using(hI _ rfl).1];unfold Instr.index;simp only[Yar,asIntOf,run_underlying hu,Yag,Yau,if_pos hb,Zck hz,h1]
    ·cases h
   ·cases h
  ·cases h
 ·cases h
theorem Zrh (hg:∀x z,get x=some z->denV D ρ wc z (ev x)) {t:Nat} {x ix:Operand} {r:SV} (h:indexS P t (get x) (get ix)=some r) :
  ∃v,(Instr.index t (ev x) (ev ix)).run P w=.ok v w∧denV D ρ wc r v:=Zil (hg x) (hg ix) h
theorem Zk1:∀{l:List SA} {vs:List Value} {i:Nat} {x:SA},denAs D ρ w l vs->l[i]? = some x->∃v,vs[i]? = some v∧denA D ρ w x v
 | [],vs,i,x,h,hx=>by simp at hx
 | y :: l, vs, i, x, ⟨v, r, e, hv, hr⟩, hx => by
   subst e;cases i with
   | zero=>simp at hx;subst hx;exact⟨v,Zs,hv⟩
   | succ i=>simp at hx;simpa using Zk1 hr hx
end
end
end Go.Ex
namespace Go.Mono
def isLetter (z:Int):Prop:=(65<=z∧z<=90)∨(97<=z∧z<=122)∨(48<=z∧z<=57)∨z=45∨z=95
end Go.Mono
namespace Go.Proofs.W
open Go.RowKit Go.Mono
theorem Zrz (z:Int) (h:isLetter z) (w:World) :
  Calls Tryz.prog 236 #[.int .u8 z] w λe w'=>e=.returned (.bool true)∧w'=w:=by
 rcases h with ⟨h1,h2⟩|⟨h1,h2⟩|⟨h1,h2⟩|rfl|rfl
 ·go_enter Tryz.func236,Tryz.ntmps236
  go_wp2
  go_ret
  exact⟨rfl,rfl⟩
 ·have h3:65<=z:=by omega
  have h4:¬(z<=90):=Zo;go_enter Tryz.func236,Tryz.ntmps236
  go_wp2
  go_ret
  exact⟨rfl,rfl⟩
 ·have h3:¬(65<=z):=by omega
  have h4:¬(97<=z):=Zo;go_enter Tryz.func236,Tryz.ntmps236
  go_wp2
  go_ret
  exact⟨rfl,rfl⟩
 ·go_enter Tryz.func236,Tryz.ntmps236
  go_wp2
  go_ret
  exact⟨rfl,rfl⟩
 ·go_enter Tryz.func236,Tryz.ntmps236
  go_wp2
  go_ret
  exact⟨rfl,rfl⟩
theorem Zr0 (s:ByteArray) (h0:1<=s.size) (h1:s.size<=16) (hl:∀i (hi:i<s.size),isLetter (s[i].toNat:Int)) (w:World) :
  Calls Tryz.prog 212 #[.string s] w λe w'=>e=.returned (.bool true)∧w'=w:=by
 go_enter Tryz.func212,Tryz.ntmps212
 go_wp2
 go_loopw [6] (λa wr=>∃k:Nat,k<=s.size∧a=.int .i64 (k:Int)∧wr=w) (λa _=>(s.size-intOf a).toNat)
 case atStart=>exact⟨0,Yat _,rfl,rfl⟩
 case round=>
  obtain⟨k,hk,rfl,rfl⟩:=hrel;by_cases hks:k<s.size
  ·have hlk:=Zrz _ (hl k hks) wr
   have h0':(k:Int)<s.size:=Zo;have hg:s.data[k]? = some s[k]:=by
    rw[Yby (by exact hks)];rfl
   clear hl;go_wp2_with (go_at_call 236;refine hlk.mono ?_;rintro e w' ⟨rfl,rfl⟩)
   go_roundw
   case rel=>refine⟨k+1,Zo,?_⟩;simp
   case measure=>simp[intOf];omega
  ·obtain rfl:k=s.size:=by omega
   have h0':(1:Int)<=s.size:=Zo;have h1':(s.size:Int)<=16:=Zo;go_wp2
   go_ret
   exact⟨rfl,rfl⟩
end Go.Proofs.W
namespace Go.Ex
open Go.RowKit Go.Mono
section
section
variable {D:Den} {P:Program} {ρ:Nm} {wc w:World} {get:Operand->Option SV} {ev:Operand->Value}
theorem Zri {t:TypeId} {l:List U} {off:Nat} {x:SV} {cs:List Value} (h:partS P t l off=some x) (hl:denL D ρ wc l cs) :
  (∃n m,rowT P t=some true∧szOf P t=some n∧x=.a (.agg m)∧denL D ρ wc m ((cs.drop off).take n)∧((cs.drop off).take n).length=n)∨
  (∃u v,rowT P t=some false∧x=.a (.one u)∧cs[off]? = some v∧denU D ρ wc u [v]):=by
 unfold partS at h;split at h
 ·rename_i n hr hz
  obtain⟨m,hm,rfl⟩:=Yad.1 h;obtain⟨h1,h2⟩:=Zf6 hm hl;exact .inl ⟨n,m,hr,hz,rfl,h1,h2⟩
 ·rename_i n hr hz
  split at h
  ·rename_i u hu
   cases h;obtain⟨h1,h2⟩:=Zf6 hu hl;obtain⟨c,d,e,hc,hd⟩:=h1;obtain rfl:d=[]:=hd;rw[Ydg]at e;rw[e]at h2;obtain⟨v,rfl⟩:∃v,c=[v]:=Ydr.1 h2;refine .inr ⟨u,v,hr,rfl,?_,hc⟩;have:=congrArg (·[0]?) e;simpa using this
  ·cases h
 ·cases h
def Holds (w:World) (p:Pl) (T:TypeId) (sp:Bool) (cs:List Value):Prop:=
 (p.ro=true∧w.rangeAt p.blk p.base cs)∨(p.ro=false∧p.base=0∧∃rest,(sp=false->rest=[])∧(sp=true->(cs++rest).length=p.tot)∧Box w p.blk T (cs++rest).toArray)
theorem Holds.cell {w:World} {p:Pl} {T:TypeId} {sp:Bool} {cs:List Value} (h:Holds w p T sp cs) {i:Nat} {v:Value} (hi:cs[i]? = some v):w.cell? ⟨p.blk,p.base+i,none⟩=some v:=by
 rcases h with ⟨_,h⟩|⟨_,h0,rest,_,_,h⟩
 ·exact h i v hi
 ·rw[h0,Yba,h.cell]
  have:=(Yan.1 hi).1;simpa[Ybb this]using hi
theorem Zep {w w':World} {B:Nat} (h:w'.heap[B]? = w.heap[B]?) (o:Nat):w'.cell? ⟨B,o,none⟩=w.cell? ⟨B,o,none⟩:=by
 simp only[World.cell?,h]
theorem Holds.of_block {w w':World} {p:Pl} {T:TypeId} {sp:Bool} {cs:List Value} (h:Holds w p T sp cs) (hb:w'.heap[p.blk]? = w.heap[p.blk]?):Holds w' p T sp cs:=by
 rcases h with ⟨h1,h⟩|⟨h1,h0,rest,h2,h3,h⟩
 ·exact .inl ⟨h1,λj v hj=>(Zep hb _).trans (h j v hj)⟩
 ·exact .inr ⟨h1,h0,rest,h2,h3,⟨hb.trans h.blk⟩⟩
def BkOk (D:Den) (ρ:Nm) (wc w:World) (bk:List (Nat×Blk)):Prop:=
 ∀k b,bk.look k=some b->b.dead=false->∃B cs,ρ k=some B∧Holds w B b.T b.sp cs∧denL D ρ wc b.cells cs∧B.ro=b.ro
theorem Znz (hg:∀x z,get x=some z->denV D ρ wc z (ev x)) {bk:List (Nat×Blk)} (hb:BkOk D ρ wc w bk) {t:TypeId} {x:Operand} {r:SV} (h:loadS P t (get x) bk=some r) :
  ∃v,(Instr.loadAt t (ev x)).run P w=.ok v w∧denV D ρ wc r v:=by
 unfold loadS at h;split at h
 ·rename_i k off hx
  split at h
  ·rename_i b hk
   split at h
   ·cases h
   rename_i hdd;obtain⟨B,cs,hB,bx,hl,_⟩:=hb k b hk (by simpa using hdd);obtain⟨B',hB',e⟩:=hg _ _ hx;cases hB.symm.trans hB';rw[show ev x=_ from by simpa using e];rcases Zri h hl with ⟨n,m,hr,hz,rfl,h1,h2⟩|⟨u,v,hr,rfl,hv,hu⟩
   ·refine⟨.agg ((cs.drop off).take n).toArray,?_,_,rfl,h1⟩
    obtain⟨d,hd,hd'⟩:=Yad.1 hr;refine run_loadAt_mid w B.blk (B.base+off) t _ d ?_ hd hd' (by rw[h2];exact hz);intro j v hj;rw[Ybj];refine bx.cell ?_;have hjl:j<n:=by
     have:=(Yan.1 hj).1;omega
    rw[Ycv,if_pos hjl,Yeh]at hj;simpa using hj
   ·refine⟨v,?_,hu⟩
    unfold Instr.loadAt loadVar;simp only[Yar,Instr.sureAddr,Yau,Yag,Zf7 hr,Ybq,if_false];rw[run_load,bx.cell hv]
  ·cases h
 ·cases h
theorem Zw5 (hg:∀x z,get x=some z->denV D ρ wc z (ev x)) {o:Oper} {c:Call} (ho:o.op=.call c) {r:SV} (h:lenS P c get=some r) :
  ∃v,(execOp ev o).run P w=.ok (.value v) w∧denV D ρ wc r v:=by
 obtain⟨cal,⟨args⟩,⟨ts⟩⟩:=c;unfold lenS at h;dsimp only at h;split at h
 ·rename_i x t
  split at h
  ·rename_i k off n cp e hx hu
   cases h;obtain⟨B,hB,e1⟩:=hg _ _ hx;have e2:ev x=.slice (some ⟨B.blk,B.base+off,none⟩) n cp:=by simpa using e1
   refine⟨goInt n,?_,rfl,rfl⟩;unfold execOp;simp only[ho,resolve,Yar,Yau,Yag,invoke,builtin,Builtin.len_];simp[e2,run_underlying hu]
  ·rename_i k off n e hx hu
   cases h;obtain⟨B,cp,hB,hc,e1⟩:=hg _ _ hx;have e2:ev x=.slice (some ⟨B.blk,B.base+off,none⟩) n cp:=by simpa using e1
   refine⟨goInt n,?_,rfl,rfl⟩;unfold execOp;simp only[ho,resolve,Yar,Yau,Yag,invoke,builtin,Builtin.len_];simp[e2,run_underlying hu]
  ·rename_i k n sz e hx hu
   cases h;obtain⟨B,hB,h1,h2,h3,e1⟩:=hg _ _ hx;have e2:ev x=.slice (some ⟨B.blk,0,none⟩) n B.cap:=by simpa using e1
   refine⟨goInt n,?_,rfl,rfl⟩;unfold execOp;simp only[ho,resolve,Yar,Yau,Yag,invoke,builtin,Builtin.len_];simp[e2,run_underlying hu]
  ·rename_i e hx hu
   cases h;obtain⟨p,cp,hp,e1⟩:=hg _ _ hx;have e2:ev x=.slice p 0 cp:=by simpa using e1
   refine⟨goInt (0:Nat),?_,rfl,rfl⟩;unfold execOp;simp only[ho,resolve,Yar,Yau,Yag,invoke,builtin,Builtin.len_];simp[e2,run_underlying hu]
  ·rename_i k off m n e hx hu
   cases h;obtain⟨B,cp,hB,h0,hc,e1⟩:=hg _ _ hx;have e2:ev x=.slice (some ⟨B.blk,B.base+off,none⟩) n cp:=by simpa using e1
   refine⟨goInt n,?_,rfl⟩;unfold execOp;simp only[ho,resolve,Yar,Yau,Yag,invoke,builtin,Builtin.len_];simp[e2,run_underlying hu]
  ·rename_i p n c e hx hu
   cases h;have e2:ev x=.slice p n c:=by
    have:=hg _ _ hx;simp[denV,denA,denU]at this;exact this.1
   refine⟨goInt n,?_,rfl,rfl⟩;unfold execOp;simp only[ho,resolve,Yar,Yau,Yag,invoke,builtin,Builtin.len_];simp[e2,run_underlying hu]
  ·cases h
 ·rename_i x t
  split at h
  ·rename_i k off n cp e hx hu
   cases h;obtain⟨B,hB,e1⟩:=hg _ _ hx;have e2:ev x=.slice (some ⟨B.blk,B.base+off,none⟩) n cp:=by simpa using e1
   refine⟨goInt cp,?_,rfl,rfl⟩;unfold execOp;simp only[ho,resolve,Yar,Yau,Yag,invoke,builtin,Builtin.cap_];simp[e2,run_underlying hu]
  ·cases h
 ·cases h
theorem Zk2 (hg:∀x z,get x=some z->denV D ρ wc z (ev x)) {bk:List (Nat×Blk)} (hb:BkOk D ρ wc w bk) {o:Oper} {r:SV} (h:evPure P o get bk=some r) :
  ∃v,(execOp ev o).run P w=.ok (.value v) w∧denV D ρ wc r v:=by
 have viaV:∀{s:Sem Value},(∃v,s.run P w=.ok v w∧denV D ρ wc r v)->∃v,(do pure (Next.value (<-s)):Sem Next).run P w=.ok (.value v) w∧denV D ρ wc r v:=by
  rintro s ⟨v,h1,h2⟩;exact⟨v,by simp only[Yar,h1,Yag,Yau],h2⟩
 unfold evPure at h;split at h
 ·rename_i x ho
  exact⟨ev x,by unfold execOp;rw[ho];rfl,hg _ _ h⟩
 ·rename_i x ho
  exact⟨ev x,by unfold execOp;rw[ho];rfl,hg _ _ h⟩
 ·rename_i f first caps ho
  split at h
  ·rename_i hf
   obtain⟨l,hl,rfl⟩:=Yad.1 h;have hc:=Zk0 hg hl;have hfe:first = #[]:=Array.isEmpty_iff.1 hf
   subst hfe;refine⟨.func (.func f) #[] (caps.map ev),by unfold execOp;simp[ho,Instr.makeFunc],_,hc,?_⟩;congr 2
   apply Yee.1;simp
  ·split at h
   ·rename_i x hx hc
    split at h
    ·rename_i s hs
     obtain⟨fl⟩:=first
     obtain⟨cl⟩:=caps;obtain rfl:fl=[x]:=hx;obtain rfl:cl=[]:=hc;exact⟨.func (.func f) #[ev x] #[],by unfold execOp;simp[ho,Instr.makeFunc],Zux h (hg _ _ hs)⟩
    ·cases h
   ·cases h
 ·rename_i s x f ho
  unfold execOp;rw[ho];exact viaV (Zjf hg h)
 ·rename_i t x ix ho
  split at h
  ·rename_i r' hr
   cases h;unfold execOp;rw[ho];exact viaV (Zjg (x:=x) (ix:=ix) hg hr)
  ·exact Zcq hg h
 ·rename_i t x f ho
  split at h
  ·rename_i r' hr
   cases h;unfold execOp;rw[ho];exact viaV (Zrg hg hr)
  ·exact Zcq hg h
 ·rename_i t x ix ho
  split at h
  ·rename_i r' hr
   cases h;unfold execOp;rw[ho];exact viaV (Zrh (x:=x) (ix:=ix) hg hr)
  ·exact Zcq hg h
 ·rename_i x i ho
  split at h
  ·rename_i l hx
   obtain⟨y,hy,rfl⟩:=Yad.1 h;obtain⟨vs,e,hl⟩:=hg _ _ hx;obtain⟨v,hv,hd⟩:=Zk1 hl hy;unfold execOp;rw[ho];refine viaV ⟨v,?_,hd⟩;rw[e];simp[Instr.extract,hv]
  ·cases h
 ·rename_i x ho
  split at h
  ·rename_i k off hx
   cases h;have hd:=hg _ _ hx;obtain⟨B,hB,e1⟩:=hd;have e2:ev x=.pointer (some ⟨B.blk,B.base+off,none⟩):=by simpa using e1
   refine⟨ev x,?_,B,hB,e1⟩;unfold execOp;rw[ho];simp only[e2];rfl
  ·rename_i f l hx
   cases h;have hd:=hg _ _ hx;obtain⟨vs,hv,e1⟩:=hd;have e2:ev x=.func (.func f) #[] vs.toArray:=by simpa using e1
   refine⟨ev x,?_,vs,hv,e1⟩;unfold execOp;rw[ho];simp only[e2];rfl
  ·rename_i f g l hx
   cases h;have hd:=hg _ _ hx;obtain⟨u,e1,hu⟩:=hd;have e2:ev x=.func (.func f) #[u] #[]:=by simpa using e1
   refine⟨ev x,?_,u,e1,hu⟩;unfold execOp;rw[ho];simp only[e2];rfl
  ·exact Zcq hg h
 ·rename_i t parts ho
  unfold execOp;rw[ho];exact viaV (Zrc hg h w)
 ·rename_i t x ho
  unfold execOp;rw[ho];exact viaV (Znz hg hb h)
 ·rename_i t x lo hi mx ho
  split at h
  ·rename_i r' hr
   cases h;unfold execOp;rw[ho];exact viaV (Zrf hg hr)
  ·exact Zcq hg h
 ·rename_i c ho
  split at h
  ·rename_i r' hr
   cases h;exact Zw5 hg ho hr
  ·exact Zcq hg h
 ·exact Zcq hg h
end
end
end Go.Ex
namespace Go.Mono
open Go.RowKit
structure Srf where
 kind:Int
 curv:Int
 conic:Int
 curvx:Int
 conicx:Int
 a0:Int
 a1:Int
 a2:Int
 a3:Int
 p0:Int
 p1:Int
 order:Int
 thick:Int
 glass:ByteArray
 semi:Int
 hole:Int
 dx:Int
 dy:Int
 ax:Int
 ay:Int
 az:Int
 co:List Flm:=[]
def Srf.cs (s:Srf) (p:Option Addr) (c:Nat):Array Value:=
 #[.int .i64 s.kind,.int .i64 s.curv,.int .i64 s.conic,.int .i64 s.curvx,.int .i64 s.conicx,.int .i64 s.a0,.int .i64 s.a1,.int .i64 s.a2,.int .i64 s.a3,.int .i64 s.p0,.int .i64 s.p1,.int .i64 s.order,.int .i64 s.thick,.string s.glass,.int .i64 s.semi,.int .i64 s.hole,.int .i64 s.dx,.int .i64 s.dy,.int .i64 s.ax,.int .i64 s.ay,.int .i64 s.az,.slice p s.co.length c]
def NameOk (s:ByteArray):Prop:=1<=s.size∧s.size<=16∧∀i (hi:i<s.size),isLetter (s[i].toNat:Int)
def mirror:ByteArray:={data:=#[77,73,82,82,79,82]}
def Srf.kept (s:Srf):Srf:=
 let z:Srf:={kind:=s.kind,curv:=0,conic:=0,curvx:=0,conicx:=0,a0:=0,a1:=0,a2:=0,a3:=0,p0:=0,p1:=0,order:=0,thick:=s.thick,glass:={data:=#[]},semi:=0,hole:=0,dx:=0,dy:=0,ax:=0,ay:=0,az:=0,co:=[]}
 let all:Srf->Srf:=λz=>{z with curv:=s.curv,conic:=s.conic,glass:=s.glass,semi:=s.semi,hole:=s.hole,co:=s.co}
 if s.kind=1 then
  let z:={z with a0:=s.a0,a1:=s.a1,a2:=s.a2,a3:=s.a3}
  all (if s.order≠0∧s.glass≠mirror then {z with order:=s.order,p0:=s.p0,p1:=s.p1} else z)
 else if s.kind=2 then all {z with curvx:=s.curvx,conicx:=s.conicx}
 else if s.kind=3 then {z with dx:=s.dx,dy:=s.dy,ax:=s.ax,ay:=s.ay,az:=s.az}
 else if s.kind=4 then {z with curv:=s.curv,semi:=s.semi,hole:=s.hole}
 else all z
def In (m z:Int):Prop:=-m<=z∧z<=m
structure Srf.ok (s:Srf):Prop where
 k1:1<=s.kind
 k2:s.kind<=4
 kept:s.kept=s
 curv:In 1000000000 s.curv
 curvx:In 1000000000 s.curvx
 thick:In 1000000000 s.thick
 dx:In 1000000000 s.dx
 dy:In 1000000000 s.dy
 a0:In 1000000000 s.a0
 a1:In 1000000000 s.a1
 a2:In 1000000000 s.a2
 a3:In 1000000000 s.a3
 p0:In 1000000000 s.p0
 p1:In 1000000000 s.p1
 conic:In 100000000 s.conic
 conicx:In 100000000 s.conicx
 ax:In 90000000 s.ax
 ay:In 90000000 s.ay
 az:In 90000000 s.az
 order:In 3 s.order
 semi0:0<=s.semi
 semi1:s.semi<=1000000000
 hole0:0<=s.hole
 hole1:s.hole<=1000000000
 ring:s.semi=0∨s.hole<s.semi
 glass:s.glass = {data:=#[]}∨NameOk s.glass
 coats:s.co.length<=8
 films:∀f∈s.co,f.ok
theorem Zxg (w:World) (T:TypeId) (cs:Array Value) (n:Nat) (f:Nat->Int) (h:∀i,i<n->cs[i]? = some (.int .i64 (f i))) (hn:n<=1000):RdF (w.alloc (.cells cs T)) (some ⟨w.heap.size,0,none⟩) n n f:=by
 refine⟨Yab _,Zo,λ_=>⟨_,_,rfl,Zs,λi hi=>?_⟩⟩;rw[(Box.new w T cs).cell,Yba];exact h i hi
theorem RdF.box {w:World} {B:Nat} {T:TypeId} {cs:Array Value} (b:Box w B T cs) (off n:Nat) (f:Nat->Int) (h:∀i,i<n->cs[off+i]? = some (.int .i64 (f i))) (hn:n<=1000):RdF w (some ⟨B,off,none⟩) n n f:=by
 refine⟨Yab _,Zo,λ_=>⟨_,_,rfl,b.lt,λi hi=>?_⟩⟩;rw[b.cell];exact h i hi
end Go.Mono
namespace Go.Proofs.W
open Go.RowKit Go.Mono
theorem Zpf (s:Srf) (hs:s.ok) (p:Option Addr) (c B:Nat) (w:World) (b0:Box w B 85 (s.cs p c)) :
  Calls Tryz.prog 271 #[.pointer (some ⟨B,0,none⟩)] w λe w'=>e=.returned (.bool true)∧Below w.heap.size w w':=by
 have cb0:=b0.cell;simp only[Srf.cs]at cb0;have h8:=hs.coats;generalize s.co.length=n at *;have hn8:(n:Int)<=8:=Zo;clear hs b0;go_enter Tryz.func271,Tryz.ntmps271
 go_wp2
 go_ret
 exact⟨rfl,Yae _ _⟩
theorem Zpg (s:Srf) (hs:s.ok) (p:Option Addr) (c B:Nat) (w:World) (b0:Box w B 85 (s.cs p c)) :
  Calls Tryz.prog 270 #[.pointer (some ⟨B,0,none⟩)] w λe w'=>e=.returned (.bool true)∧Below w.heap.size w w':=by
 have cb0:=b0.cell;simp only[Srf.cs]at cb0;rcases hs.glass with h|h
 ·rw[h]at cb0
  go_enter Tryz.func270,Tryz.ntmps270
  go_wp2
  go_ret
  exact⟨rfl,Yae _ _⟩
 ·have hn:=Zr0 s.glass h.1 h.2.1 h.2.2 w
  clear h hs b0;go_enter Tryz.func270,Tryz.ntmps270
  go_wp2_with (go_at_call 212;refine hn.mono ?_;rintro e w' ⟨rfl,rfl⟩)
  all_goals
   go_ret
   exact⟨rfl,Yae _ _⟩
theorem Zph (s:Srf) (hs:s.ok) (p:Option Addr) (c B:Nat) (w:World) (b0:Box w B 85 (s.cs p c)) :
  Calls Tryz.prog 269 #[.pointer (some ⟨B,0,none⟩)] w λe w'=>e=.returned (.bool true)∧Below w.heap.size w w':=by
 have cb0:=b0.cell;simp only[Srf.cs]at cb0;have h:=hs.ring;by_cases h0:s.semi=0
 ·rw[h0]at cb0
  go_enter Tryz.func269,Tryz.ntmps269
  go_wp2
  go_ret
  exact⟨rfl,Yae _ _⟩
 ·have h1:s.hole<s.semi:=by omega
  have h2:(s.semi==0)=false:=by simpa using h0
  clear h h0;go_enter Tryz.func269,Tryz.ntmps269
  go_wp2
  go_ret
  exact⟨rfl,Yae _ _⟩
end Go.Proofs.W
namespace Go.Ex
open Go.RowKit Go.Mono
section
structure Frm (w0:World) (X:Nat->Prop) (w:World):Prop where
 os:w.os=w0.os
 tape:w.tape=w0.tape
 output:w.output=w0.output
 size:w0.heap.size<=w.heap.size
 block:∀i,i<w0.heap.size->¬X i->w.heap[i]? = w0.heap[i]?
theorem Frm.refl (w:World) (X:Nat->Prop):Frm w X w:=⟨rfl,rfl,rfl,Yab _,λ_ _ _=>rfl⟩
theorem Frm.below {w0 w:World} (h:Frm w0 (λ_=>False) w):Below w0.heap.size w0 w:=⟨h.os,h.tape,h.output,h.size,λk hk=>h.block k hk id⟩
theorem Frm.of_below {w0 w:World} (h:Below w0.heap.size w0 w) (X:Nat->Prop):Frm w0 X w:=⟨h.os,h.tape,h.output,h.size,λk hk _=>h.block k hk⟩
abbrev Liv (bk:List (Nat×Blk)) (k:Nat) (b:Blk):Prop:=bk.look k=some b∧b.dead=false
structure Sat (D:Den) (w0:World) (X:Nat->Prop) (th:Nat) (ρ:Nm) (wc w:World) (bk:List (Nat×Blk)):Prop where
 fr:Frm w0 X w
 ext:Ext wc w
 inj:∀k k' b b' B B',Liv bk k b->Liv bk k' b'->ρ k=some B->ρ k'=some B'->B.blk=B'.blk->k=k'∨(B.ro=true∧B'.ro=true)
 lt:∀k B,ρ k=some B->B.blk<w.heap.size
 box:∀k b,Liv bk k b->∃B cs,ρ k=some B∧Holds w B b.T b.sp cs∧denL D ρ wc b.cells cs∧(b.ro=false->w0.heap.size<=B.blk∨X B.blk)∧(b.T=3->th<=k->wc.heap.size<=B.blk)∧B.ro=b.ro
structure Evo (ρ:Nm) (wc w:World) (bk:List (Nat×Blk)) (c c':Nat) (ρ':Nm) (wc' w':World) (bk':List (Nat×Blk)):Prop where
 rho:ρ.le ρ'
 ext:Ext wc wc'
 size:w.heap.size<=w'.heap.size
 os:w'.os=w.os
 tape:w'.tape=w.tape
 output:w'.output=w.output
 loc:∀i,i<w.heap.size->(∀k b B,Liv bk k b->ρ k=some B->B.ro=false->B.blk≠i)->w'.heap[i]? = w.heap[i]?
 ids:∀k b,Liv bk' k b->(∃b0,Liv bk k b0)∨(c<=k∧k<c'∧∃B,ρ' k=some B∧(w.heap.size<=B.blk∨∃k0 b0 B0,Liv bk k0 b0∧ρ k0=some B0∧B0.ro=false∧B0.blk=B.blk))
 cc:c<=c'
 dom:∀k,(k<c∨c'<=k)->ρ' k=ρ k
theorem Evo.refl (ρ:Nm) (wc w:World) (bk:List (Nat×Blk)) (c:Nat):Evo ρ wc w bk c c ρ wc w bk:=
 ⟨Nm.le.refl _,Ext.refl _,Yab _,rfl,rfl,rfl,λ_ _ _=>rfl,λk b h=>.inl ⟨b,h⟩,Yab _,λ_ _=>rfl⟩
theorem Evo.trans {ρ ρ1 ρ2:Nm} {wc w wc1 w1 wc2 w2:World} {bk bk1 bk2:List (Nat×Blk)} {c c1 c2:Nat}
  (h:Evo ρ wc w bk c c1 ρ1 wc1 w1 bk1) (g:Evo ρ1 wc1 w1 bk1 c1 c2 ρ2 wc2 w2 bk2) (hlt:∀k b,Liv bk k b->∃B,ρ k=some B):Evo ρ wc w bk c c2 ρ2 wc2 w2 bk2 where
 rho:=h.rho.trans g.rho
 ext:=h.ext.trans g.ext
 size:=Yak h.size g.size
 os:=g.os.trans h.os
 tape:=g.tape.trans h.tape
 output:=g.output.trans h.output
 loc:=λi hi hn=>by
  rw[g.loc i (Yaf hi h.size) ?_,h.loc i hi hn];intro k b C hk he hro;rcases h.ids k b hk with ⟨b',hb'⟩|⟨_,_,B,hB,hle⟩
  ·obtain⟨B,hB⟩:=hlt k b' hb'
   have:=h.rho k B hB;rw[he]at this;cases this;exact hn k b' C hb' hB hro
  ·rw[he]at hB
   cases hB;rcases hle with hle|⟨k0,b0,B0,h1,h2,h3,h4⟩
   ·omega
   ·rw[<-h4];exact hn k0 b0 B0 h1 h2 h3
 ids:=λk b hk=>by
  have hc1:=h.cc;have hc2:=g.cc;rcases g.ids k b hk with ⟨b',hb'⟩|⟨k1,k2,B,hB,hle⟩
  ·rcases h.ids k b' hb' with h2|⟨k1,k2,B,hB,hle⟩
   ·exact .inl h2
   ·exact .inr ⟨k1,Zo,B,g.rho k B hB,hle⟩
  ·refine .inr ⟨Zo,k2,B,hB,?_⟩
   rcases hle with hle|⟨k0,b0,B0,h1,h2,h3,h4⟩
   ·exact .inl (Yak h.size hle)
   ·rcases h.ids k0 b0 h1 with ⟨b',hb'⟩|⟨_,_,B1,hB1,hle⟩
    ·obtain⟨B1,hB1⟩:=hlt k0 b' hb'
     have:=h.rho k0 B1 hB1;rw[h2]at this;cases this;exact .inr ⟨k0,b',B0,hb',hB1,h3,h4⟩
    ·rw[h2]at hB1
     cases hB1;rw[<-h4];exact hle
 cc:=Yak h.cc g.cc
 dom:=λk hk=>by
  have h1:=h.cc;have h2:=g.cc;rw[g.dom k Zo,h.dom k Zo]
section
variable {D:Den} {w0:World} {X:Nat->Prop} {th:Nat} {ρ:Nm} {wc w:World} {bk:List (Nat×Blk)}
theorem Sat.named (h:Sat D w0 X th ρ wc w bk):∀k b,Liv bk k b->∃B,ρ k=some B:=λk b hk=>let ⟨B,_,hB,_⟩:=h.box k b hk;⟨B,hB⟩
theorem Sat.bkOk (h:Sat D w0 X th ρ wc w bk):BkOk D ρ wc w bk:=λk b hk hd=>let ⟨B,cs,h1,h2,h3,_,_,h6⟩:=h.box k b ⟨hk,hd⟩;⟨B,cs,h1,h2,h3,h6⟩
theorem Sat.mono (h:Sat D w0 X th ρ wc w bk) {th':Nat} (hle:th<=th'):Sat D w0 X th' ρ wc w bk:=
 ⟨h.fr,h.ext,h.inj,h.lt,λk b hk=>let ⟨B,cs,h1,h2,h3,h4,h5,h6⟩:=h.box k b hk;⟨B,cs,h1,h2,h3,h4,λht hh=>h5 ht (Yak hle hh),h6⟩⟩
def addNm (ρ:Nm) (k:Nat) (B:Pl):Nm:=λj=>if j=k then some B else ρ j
theorem Zbf (ρ:Nm) (k:Nat) (B:Pl):addNm ρ k B k=some B:=by simp[addNm]
theorem Zar (ρ:Nm) {k j:Nat} (B:Pl) (h:j≠k):addNm ρ k B j=ρ j:=by simp[addNm,h]
theorem Zdw {ρ:Nm} {k:Nat} {B:Pl} (h:ρ k=none):ρ.le (addNm ρ k B):=λj C hj=>by
 by_cases e:j=k
 ·subst e;rw[h]at hj;cases hj
 ·rw[Zar _ _ e];exact hj
theorem Zbr {k j:Nat} {b x:Blk} {l:List (Nat×Blk)} (h:Liv ((k,x)::l) j b):(j=k∧b=x∧x.dead=false)∨(j≠k∧Liv l j b):=by
 obtain⟨h,hd⟩:=h;rw[Zaq]at h;by_cases e:j=k
 ·rw[if_pos e]at h;cases h;exact .inl ⟨e,rfl,hd⟩
 ·rw[if_neg e]at h;exact .inr ⟨e,h,hd⟩
theorem Sat.alloc (h:Sat D w0 X th ρ wc w bk) {k:Nat} (hk:ρ k=none) (T:TypeId) (sp:Bool) (cap tot:Nat) {l:List U} {cs rest:List Value} (hl:denL D ρ wc l cs) (hsp:sp=false->rest=[]) (htot:sp=true->(cs++rest).length=tot) :
  Sat D w0 X th (addNm ρ k ⟨w.heap.size,0,false,cap,tot⟩) wc (w.alloc (.cells (cs++rest).toArray T)) ((k,⟨T,l,false,sp,false⟩)::bk)∧
  Evo ρ wc w bk k (k+1) (addNm ρ k ⟨w.heap.size,0,false,cap,tot⟩) wc (w.alloc (.cells (cs++rest).toArray T)) ((k,⟨T,l,false,sp,false⟩)::bk):=by
 have hle:=Zdw (B:=⟨w.heap.size,0,false,cap,tot⟩) hk;have hb:Below w.heap.size w (w.alloc (.cells (cs++rest).toArray T)):=Zad (Yae _ _) _;have hnew:=Zbf ρ k ⟨w.heap.size,0,false,cap,tot⟩;refine⟨⟨⟨h.fr.os,h.fr.tape,h.fr.output,Yak h.fr.size hb.size,λi hi hx=>(hb.block i (Yaf hi h.fr.size)).trans (h.fr.block i hi hx)⟩,
  h.ext.alloc _,?_,?_,?_⟩,⟨hle,Ext.refl _,hb.size,rfl,rfl,rfl,λi hi _=>hb.block i hi,?_,Zo,?_⟩⟩
 ·intro j j' b b' B B' hj hj' h1 h2 he
  rcases Zbr hj with ⟨e1,_,_⟩|⟨e1,hj⟩<;>rcases Zbr hj' with ⟨e2,_,_⟩|⟨e2,hj'⟩
  ·exact .inl (by rw[e1,e2])
  ·subst e1
   rw[hnew]at h1;rw[Zar _ _ e2]at h2;cases h1;have:=h.lt j' _ h2;dsimp only at he;omega
  ·subst e2
   rw[Zar _ _ e1]at h1;rw[hnew]at h2;cases h2;have:=h.lt j _ h1;dsimp only at he;omega
  ·rw[Zar _ _ e1]at h1;rw[Zar _ _ e2]at h2
   exact h.inj j j' b b' B B' hj hj' h1 h2 he
 ·intro j B h1
  by_cases e1:j=k
  ·subst e1;rw[hnew]at h1;cases h1;simp
  ·rw[Zar _ _ e1]at h1
   exact Yaf (h.lt j B h1) hb.size
 ·intro j b hj
  rcases Zbr hj with ⟨rfl,rfl,_⟩|⟨e1,hj⟩
  ·exact⟨_,cs,hnew,.inr ⟨rfl,rfl,rest,hsp,htot,Box.new _ _ _⟩,hl.mono hle (Ext.refl _),λ_=>.inl h.fr.size,λ_ _=>h.ext.size,rfl⟩
  ·obtain⟨B,cs',h1,h2,h3,h4,h5,h6⟩:=h.box j b hj
   exact⟨B,cs',hle j B h1,h2.of_block (hb.block _ (h.lt j B h1)),h3.mono hle (Ext.refl _),h4,h5,h6⟩
 ·intro j b hj
  rcases Zbr hj with ⟨rfl,rfl,_⟩|⟨e1,hj⟩
  ·exact .inr ⟨Yab _,Zo,_,hnew,.inl (Yab _)⟩
  ·exact .inl ⟨b,hj⟩
 ·intro j hj
  exact Zar _ _ Zo
theorem Zrj (h:Sat D w0 X th ρ wc w bk) {k:Nat} {b:Blk} (hk:Liv bk k b) {B:Pl} (hB:ρ k=some B) (hro:b.ro=false) (hT:b.T≠3∨th<=k) (off:Nat) (ps:List Value):Ext wc (w.setCells B.blk off ps):=by
 obtain⟨B',cs,h1,h2,h3,h4,h5,h6⟩:=h.box k b hk;cases hB.symm.trans h1;have hks:KeepBut B.blk w.heap.size w (w.setCells B.blk off ps):=(KeepBut.refl _ _).setCells _ _ _;rcases h2 with ⟨g,_⟩|⟨_,hbase,rest,_,_,h2⟩
 ·rw[h6,hro]at g;cases g
 ·by_cases hT3:b.T=3
  ·have h6:=h5 hT3 (hT.resolve_left λhh=>hh hT3)
   refine⟨Yak h.ext.size hks.size,λj ds fr hj=>?_⟩;have h7:=h.ext.kept j ds fr hj;have h8:=Zam hj;rw[hks.block j (Zam h7) Zo];exact h7
  ·exact h.ext.trans (hks.ext h2 hT3)
theorem Sat.store (h:Sat D w0 X th ρ wc w bk) {k:Nat} {b:Blk} (hk:Liv bk k b) (hro:b.ro=false) {off:Nat} {us l:List U} {ps:List Value} (hput:putX b.cells off us=some l) (hp:denL D ρ wc us ps)
  (hT:b.T≠3∨th<=k) {B:Pl} (hB:ρ k=some B) (c:Nat) :
  Sat D w0 X th ρ wc (w.setCells B.blk off ps) ((k,⟨b.T,l,false,b.sp,false⟩)::bk)∧Evo ρ wc w bk c c ρ wc (w.setCells B.blk off ps) ((k,⟨b.T,l,false,b.sp,false⟩)::bk)∧w.there B.blk off ps.length∧B.base=0:=by
 have hext:=Zrj h hk hB hro hT off ps;obtain⟨B',cs,h1,h2,h3,h4,h5,h6⟩:=h.box k b hk;cases hB.symm.trans h1;have hBro:B.ro=false:=h6.trans hro;obtain⟨hbase,rest,hr1,hr2,h2'⟩:B.base=0∧∃rest,(b.sp=false->rest=[])∧(b.sp=true->(cs++rest).length=B.tot)∧Box w B.blk b.T (cs++rest).toArray:=by
  rcases h2 with ⟨g,_⟩|⟨_,g⟩
  ·rw[hBro]at g;cases g
  ·exact g
 obtain⟨q1,q2⟩:=Znw hput h3 hp;have hks:KeepBut B.blk w.heap.size w (w.setCells B.blk off ps):=(KeepBut.refl _ _).setCells _ _ _;have hbx0:=Box.setCells ps off w _ h2' (by simp;omega);have hcut:((cs++rest).toArray.toList.take off++ps++(cs++rest).toArray.toList.drop (off+ps.length))=(cs.take off++ps++cs.drop (off+ps.length))++rest:=by
  simp only[Yex];rw[Yfr Zo,List.drop_append_of_le_length Zo];simp
 have hbx:Box (w.setCells B.blk off ps) B.blk b.T ((cs.take off++ps++cs.drop (off+ps.length))++rest).toArray:=by
  rw[<-hcut];exact hbx0
 have hlen:(cs.take off++ps++cs.drop (off+ps.length)).length=cs.length:=by
  simp only[Yay,Ycq,Yfs];omega
 refine⟨⟨⟨?_,?_,?_,?_,?_⟩,hext,?_,λj C hj=>Yaf (h.lt j C hj) hks.size,?_⟩,⟨Nm.le.refl _,Ext.refl _,hks.size,hks.os,hks.tape,hks.output,?_,?_,Yab _,λ_ _=>rfl⟩,?_,hbase⟩
 ·exact hks.os.trans h.fr.os
 ·exact hks.tape.trans h.fr.tape
 ·exact hks.output.trans h.fr.output
 ·exact Yak h.fr.size hks.size
 ·intro i hi hx
  rw[hks.block i (Yaf hi h.fr.size) (by
   intro e;subst e;rcases h4 hro with h4|h4
   ·omega
   ·exact hx h4)]
  exact h.fr.block i hi hx
 ·intro j j' x x' C C' hj hj' e1 e2 he
  have f:∀{j x},Liv ((k,⟨b.T,l,false,b.sp,false⟩)::bk) j x->∃x,Liv bk j x:=λhj=>by
   rcases Zbr hj with ⟨rfl,_,_⟩|⟨_,hj⟩
   ·exact⟨b,hk⟩
   ·exact⟨_,hj⟩
  obtain⟨y,hy⟩:=f hj;obtain⟨y',hy'⟩:=f hj';exact h.inj j j' y y' C C' hy hy' e1 e2 he
 ·intro j b' hj
  rcases Zbr hj with ⟨rfl,rfl,_⟩|⟨e1,hj⟩
  ·exact⟨B,_,h1,.inr ⟨hBro,hbase,rest,hr1,λhs=>by rw[Yay,hlen,<-Yay];exact hr2 hs,hbx⟩,q1,λ_=>h4 hro,h5,hBro⟩
  ·obtain⟨C,ds,g1,g2,g3,g4,g5,g6⟩:=h.box j b' hj
   refine⟨C,ds,g1,g2.of_block (hks.block _ (h.lt j C g1) λe=>?_),g3,g4,g5,g6⟩;rcases h.inj j k b' b C B hj hk g1 h1 e with h7|h7
   ·exact e1 h7
   ·rw[hBro]at h7;cases h7.2
 ·intro i hi hn
  exact hks.block i hi (λe=>hn k b B hk h1 hBro e.symm)
 ·intro j b' hj
  rcases Zbr hj with ⟨rfl,_,_⟩|⟨_,hj⟩
  ·exact .inl ⟨b,hk⟩
  ·exact .inl ⟨b',hj⟩
 ·exact h2'.there off ps.length (by simp;omega)
theorem Sat.push (h:Sat D w0 X th ρ wc w bk) {k:Nat} {b:Blk} (hk:Liv bk k b) (hro:b.ro=false) (hsp:b.sp=true) {us:List U} {ps:List Value} (hp:denL D ρ wc us ps)
  (hT:b.T≠3∨th<=k) {B:Pl} (hB:ρ k=some B) {c:Nat} (hc:ρ c=none) (hroom:widths b.cells+ps.length<=B.tot) (hck:c≠k) :
  Sat D w0 X th (addNm ρ c B) wc (w.setCells B.blk (widths b.cells) ps) ((k,⟨b.T,[],false,true,true⟩)::(c,⟨b.T,b.cells++us,false,true,false⟩)::bk)∧
  Evo ρ wc w bk c (c+1) (addNm ρ c B) wc (w.setCells B.blk (widths b.cells) ps) ((k,⟨b.T,[],false,true,true⟩)::(c,⟨b.T,b.cells++us,false,true,false⟩)::bk)∧w.there B.blk (widths b.cells) ps.length∧B.base=0:=by
 have hext:=Zrj h hk hB hro hT (widths b.cells) ps;obtain⟨B',cs,h1,h2,h3,h4,h5,h6⟩:=h.box k b hk;cases hB.symm.trans h1;have hBro:B.ro=false:=h6.trans hro;have hle:=Zdw (B:=B) hc;have hnew:=Zbf ρ c B;obtain⟨hbase,rest,hr1,hr2,h2'⟩:B.base=0∧∃rest,(b.sp=false->rest=[])∧(b.sp=true->(cs++rest).length=B.tot)∧Box w B.blk b.T (cs++rest).toArray:=by
  rcases h2 with ⟨g,_⟩|⟨_,g⟩
  ·rw[hBro]at g;cases g
  ·exact g
 have hw:=h3.len;have hlen0:=hr2 hsp;rw[Yay]at hlen0;have hks:KeepBut B.blk w.heap.size w (w.setCells B.blk (widths b.cells) ps):=(KeepBut.refl _ _).setCells _ _ _;have hbx0:=Box.setCells ps (widths b.cells) w _ h2' (by simp;omega);have hcut:((cs++rest).toArray.toList.take (widths b.cells)++ps++(cs++rest).toArray.toList.drop (widths b.cells+ps.length))=(cs++ps)++rest.drop ps.length:=by
  simp only[Yex];rw[Yfr Zo,Ycm Zo,List.drop_append,Yfi Zo,Ydp];congr 2
  omega
 have hbx:Box (w.setCells B.blk (widths b.cells) ps) B.blk b.T ((cs++ps)++rest.drop ps.length).toArray:=by
  rw[<-hcut];exact hbx0
 have livs:∀{j x},Liv ((k,⟨b.T,[],false,true,true⟩)::(c,⟨b.T,b.cells++us,false,true,false⟩)::bk) j x->j≠k∧((j=c∧x=⟨b.T,b.cells++us,false,true,false⟩)∨(j≠c∧Liv bk j x)):=λhj=>by
  rcases Zbr hj with ⟨_,_,hd⟩|⟨e1,hj⟩
  ·cases hd
  ·rcases Zbr hj with ⟨e2,e3,_⟩|⟨e2,hj⟩
   ·exact⟨e1,.inl ⟨e2,e3⟩⟩
   ·exact⟨e1,.inr ⟨e2,hj⟩⟩
 refine⟨⟨⟨?_,?_,?_,?_,?_⟩,hext,?_,?_,?_⟩,⟨hle,Ext.refl _,hks.size,hks.os,hks.tape,hks.output,?_,?_,Zo,?_⟩,?_,hbase⟩
 ·exact hks.os.trans h.fr.os
 ·exact hks.tape.trans h.fr.tape
 ·exact hks.output.trans h.fr.output
 ·exact Yak h.fr.size hks.size
 ·intro i hi hx
  rw[hks.block i (Yaf hi h.fr.size) (by
   intro e;subst e;rcases h4 hro with h4|h4
   ·omega
   ·exact hx h4)]
  exact h.fr.block i hi hx
 ·intro j j' x x' C C' gj gj' e1 e2 he
  obtain⟨nk,hj⟩:=livs gj;obtain⟨nk',hj'⟩:=livs gj';clear gj gj';rcases hj with ⟨a1,_⟩|⟨a1,hj⟩<;>rcases hj' with ⟨a2,_⟩|⟨a2,hj'⟩
  ·exact .inl (a1.trans a2.symm)
  ·subst a1
   rw[hnew]at e1;rw[Zar _ _ a2]at e2;cases e1;rcases h.inj k j' b x' B C' hk hj' h1 e2 he with h7|h7
   ·exact absurd h7.symm nk'
   ·rw[hBro]at h7;cases h7.1
  ·subst a2
   rw[Zar _ _ a1]at e1;rw[hnew]at e2;cases e2;rcases h.inj j k x b C B hj hk e1 h1 he with h7|h7
   ·exact absurd h7 nk
   ·rw[hBro]at h7;cases h7.2
  ·rw[Zar _ _ a1]at e1;rw[Zar _ _ a2]at e2
   exact h.inj j j' x x' C C' hj hj' e1 e2 he
 ·intro j C hj
  by_cases e:j=c
  ·subst e;rw[hnew]at hj;cases hj;exact Yaf (h.lt k _ h1) hks.size
  ·rw[Zar _ _ e]at hj;exact Yaf (h.lt j C hj) hks.size
 ·intro j b' hj
  obtain⟨nk,hj⟩:=livs hj;rcases hj with ⟨rfl,rfl⟩|⟨e2,hj⟩
  ·refine⟨B,cs++ps,hnew,.inr ⟨hBro,hbase,rest.drop ps.length,(λhh=>by cases hh),λ_=>?_,hbx⟩,(h3.append hp).mono hle (Ext.refl _),λ_=>h4 hro,λht hh=>?_,hBro⟩
   ·simp only[Yay,Yfs];omega
   ·exact h5 ht (hT.resolve_left λhh=>hh ht)
  ·obtain⟨C,ds,g1,g2,g3,g4,g5,g6⟩:=h.box j b' hj
   refine⟨C,ds,hle j C g1,g2.of_block (hks.block _ (h.lt j C g1) λe=>?_),g3.mono hle (Ext.refl _),g4,g5,g6⟩;rcases h.inj j k b' b C B hj hk g1 h1 e with h7|h7
   ·exact nk h7
   ·rw[hBro]at h7;cases h7.2
 ·intro i hi hn
  exact hks.block i hi (λe=>hn k b B hk h1 hBro e.symm)
 ·intro j b' hj
  obtain⟨nk,hj⟩:=livs hj;rcases hj with ⟨rfl,_⟩|⟨e2,hj⟩
  ·exact .inr ⟨Yab _,Zo,B,hnew,.inr ⟨k,b,B,hk,h1,hBro,rfl⟩⟩
  ·exact .inl ⟨b',hj⟩
 ·intro j hj
  exact Zar _ _ Zo
 ·exact h2'.there (widths b.cells) ps.length (by simp;omega)
theorem Sat.call (h:Sat D w0 X th ρ wc w bk) {w':World} (hb:Below w.heap.size w w') (c t:Nat) (hf:∀k b,bk.look k=some b->¬t<=k) :
  Sat D w0 X t ρ w' w' bk∧Evo ρ wc w bk c c ρ w' w' bk:=by
 have hx:Ext wc w':=h.ext.trans (.of_below hb);refine⟨⟨⟨hb.os.trans h.fr.os,hb.tape.trans h.fr.tape,hb.output.trans h.fr.output,Yak h.fr.size hb.size,λi hi hX=>(hb.block i (Yaf hi h.fr.size)).trans (h.fr.block i hi hX)⟩,
  Ext.refl _,h.inj,λj C hj=>Yaf (h.lt j C hj) hb.size,?_⟩,⟨Nm.le.refl _,hx,hb.size,hb.os,hb.tape,hb.output,λi hi _=>hb.block i hi,λk b hk=>.inl ⟨b,hk⟩,Yab _,λ_ _=>rfl⟩⟩
 intro j b hj;obtain⟨B,cs,h1,h2,h3,h4,h5,h6⟩:=h.box j b hj;exact⟨B,cs,h1,h2.of_block (hb.block _ (h.lt j B h1)),h3.mono (Nm.le.refl _) hx,h4,λ_ hh=>absurd hh (hf j b hj.1),h6⟩
theorem Sat.drew (h:Sat D w0 X th ρ wc w bk):Sat D w0 X th ρ wc w.drew bk:=
 ⟨⟨h.fr.os,h.fr.tape,h.fr.output,h.fr.size,h.fr.block⟩,h.ext.drew,h.inj,h.lt,λk b hk=>let ⟨B,cs,h1,h2,h3⟩:=h.box k b hk;⟨B,cs,h1,h2.of_block rfl,h3⟩⟩
theorem Evo.drew (ρ:Nm) (wc w:World) (bk:List (Nat×Blk)) (c:Nat):Evo ρ wc w bk c c ρ wc w.drew bk:=
 ⟨Nm.le.refl _,Ext.refl _,Yab _,rfl,rfl,rfl,λ_ _ _=>rfl,λk b h=>.inl ⟨b,h⟩,Yab _,λ_ _=>rfl⟩
end
end
section
theorem Zba {α:Type} (l m:List (Nat×α)) (k:Nat):(l++m).look k=(l.look k).or (m.look k):=by
 induction l with
 | nil=>simp
 | cons p r ih =>
   obtain⟨k',x⟩:=p;rw[Ydi,Zaq,Zaq,ih];split<;>rfl
def Sub {α:Type} (l m:List (Nat×α)):Prop:=∀k x,l.look k=some x->m.look k=some x
theorem Sub.liv {l m:List (Nat×Blk)} (h:Sub l m) {k:Nat} {b:Blk} (hk:Liv l k b):Liv m k b:=⟨h k b hk.1,hk.2⟩
section
variable {D:Den} {w0:World} {X:Nat->Prop} {th t':Nat} {ρ ρ':Nm} {wc w wc' w':World} {bk bkR wr F G:List (Nat×Blk)} {c c':Nat}
theorem Sat.sub (h:Sat D w0 X th ρ wc w bk) (hs:Sub bkR bk):Sat D w0 X th ρ wc w bkR:=
 ⟨h.fr,h.ext,λk k' b b' B B' h1 h2=>h.inj k k' b b' B B' (hs.liv h1) (hs.liv h2),h.lt,λk b hk=>h.box k b (hs.liv hk)⟩
theorem Evo.sub (h:Evo ρ wc w bk c c' ρ' wc' w' F) (hs:Sub G F):Evo ρ wc w bk c c' ρ' wc' w' G:=
 ⟨h.rho,h.ext,h.size,h.os,h.tape,h.output,h.loc,λk b hk=>h.ids k b (hs.liv hk),h.cc,h.dom⟩
abbrev Sub' (l m:List (Nat×Blk)):Prop:=∀k b,Liv l k b->Liv m k b
theorem Sat.sub' (h:Sat D w0 X th ρ wc w bk) (hs:Sub' bkR bk):Sat D w0 X th ρ wc w bkR:=
 ⟨h.fr,h.ext,λk k' b b' B B' h1 h2=>h.inj k k' b b' B B' (hs _ _ h1) (hs _ _ h2),h.lt,λk b hk=>h.box k b (hs _ _ hk)⟩
theorem Evo.sub' (h:Evo ρ wc w bk c c' ρ' wc' w' F) (hs:Sub' G F):Evo ρ wc w bk c c' ρ' wc' w' G:=
 ⟨h.rho,h.ext,h.size,h.os,h.tape,h.output,h.loc,λk b hk=>h.ids k b (hs _ _ hk),h.cc,h.dom⟩
theorem Sat.frame (h:Sat D w0 X th ρ wc w bk) (hs:Sub bkR bk) (hf:∀k b,bk.look k=some b->k<th) (g:Sat D w0 X t' ρ' wc' w' F) (e:Evo ρ wc w bkR c c' ρ' wc' w' F) (hc:c'<=th)
  (hG:∀k b,Liv G k b->Liv F k b∨(Liv bk k b∧bkR.look k=none)) :
  Sat D w0 X th ρ' wc' w' G∧Evo ρ wc w bk c c' ρ' wc' w' G:=by
 have mix:∀k k' b b' B B',Liv F k b->Liv bk k' b'->bkR.look k'=none->ρ' k=some B->ρ' k'=some B'->B.blk=B'.blk->B.ro=true∧B'.ro=true:=by
  intro k k' b b' B B' hk hk' hn h1 h2 he;obtain⟨C',hC'⟩:=h.named k' b' hk';have e2:=e.rho k' C' hC';rw[h2]at e2;cases e2;rcases e.ids k b hk with ⟨b0,hb0⟩|⟨_,_,C,hC,hle⟩
  ·obtain⟨C,hC⟩:=h.named k b0 (hs.liv hb0)
   have e1:=e.rho k C hC;rw[h1]at e1;cases e1;rcases h.inj k k' b0 b' B B' (hs.liv hb0) hk' hC hC' he with h7|h7
   ·subst h7
    rw[hb0.1]at hn;cases hn
   ·exact h7
  ·rw[h1]at hC
   cases hC;rcases hle with hle|⟨k0,b0,B0,g1,g2,g3,g4⟩
   ·have:=h.lt k' B' hC'
    omega
   ·rcases h.inj k0 k' b0 b' B0 B' (hs.liv g1) hk' g2 hC' (g4.trans he) with h7|h7
    ·subst h7
     rw[g1.1]at hn;cases hn
    ·rw[g3]at h7;cases h7.1
 refine⟨⟨g.fr,g.ext,?_,g.lt,?_⟩,⟨e.rho,e.ext,e.size,e.os,e.tape,e.output,?_,?_,e.cc,e.dom⟩⟩
 ·intro k k' b b' B B' hk hk' h1 h2 he
  rcases hG k b hk with hk|⟨hk,hn⟩<;>rcases hG k' b' hk' with hk'|⟨hk',hn'⟩
  ·exact g.inj k k' b b' B B' hk hk' h1 h2 he
  ·exact .inr (mix k k' b b' B B' hk hk' hn' h1 h2 he)
  ·exact .inr (mix k' k b' b B' B hk' hk hn h2 h1 he.symm).symm
  ·obtain⟨C,hC⟩:=h.named k b hk
   obtain⟨C',hC'⟩:=h.named k' b' hk';have e1:=e.rho k C hC;have e2:=e.rho k' C' hC';rw[h1]at e1;rw[h2]at e2;cases e1;cases e2;exact h.inj k k' b b' B B' hk hk' hC hC' he
 ·intro k b hk
  rcases hG k b hk with hk|⟨hk,hn⟩
  ·have hkt:k<th:=by
    rcases e.ids k b hk with ⟨b0,hb0⟩|⟨_,h2,_⟩
    ·exact hf k b0 (hs k b0 hb0.1)
    ·omega
   obtain⟨B,cs,h1,h2,h3,h4,h5,h6⟩:=g.box k b hk;exact⟨B,cs,h1,h2,h3,h4,λ_ hx=>absurd hx Zo,h6⟩
  ·obtain⟨B,cs,h1,h2,h3,h4,h5,h6⟩:=h.box k b hk
   have hkt:=hf k b hk.1;refine⟨B,cs,e.rho k B h1,h2.of_block (e.loc B.blk (h.lt k B h1) λk2 b2 B2 hk2 hB hro he=>?_),h3.mono e.rho e.ext,h4,λ_ hx=>absurd hx Zo,h6⟩;rcases h.inj k2 k b2 b B2 B (hs.liv hk2) hk hB h1 he with h7|h7
   ·subst h7
    rw[hk2.1]at hn;cases hn
   ·rw[hro]at h7;cases h7.1
 ·intro i hi hn
  exact e.loc i hi λk b B hk=>hn k b B (hs.liv hk)
 ·intro k b hk
  rcases hG k b hk with hk|⟨hk,hn⟩
  ·rcases e.ids k b hk with ⟨b0,hb0⟩|⟨h1,h2,B,hB,hle⟩
   ·exact .inl ⟨b0,hs.liv hb0⟩
   ·refine .inr ⟨h1,h2,B,hB,hle.imp id λ⟨k0,b0,B0,g1,g2⟩=>⟨k0,b0,B0,hs.liv g1,g2⟩⟩
  ·exact .inl ⟨b,hk⟩
end
structure OpR where
 v:SV
 wr:List (Nat×Blk)
 obl:List Prop
 orc:List (Option Bool)
 c:Nat
 th:Nat
 pan:Option Value:=none
def OpR.fin (r:OpR) (bk:List (Nat×Blk)):List (Nat×Blk):=
 match r.pan with
 | none=>r.wr++bk
 | some _=>r.wr
def OpR.ends (r:OpR) (e:Ending) (v:Value):Prop:=
 match r.pan with
 | none=>e=.returned v
 | some p=>e=.panicked [{v:=p,recovered:=false}]
abbrev YS:=List SA->List (Nat×Blk)->Nat->Nat->List (Option Bool)->Option OpR
abbrev YEnv:=List (Nat×YS)
abbrev CallF:=YEnv->FuncId->List SA->List (Nat×Blk)->Nat->Nat->List (Option Bool)->Option OpR
structure CallS where
 call:CallF
 op:Oper->(Operand->Option SV)->Option SV
def WF (ro:Option Nat):Fence:={fn:=λ_=>True,depth:=none,alive:=false,round:=ro}
theorem callsIn_WF {ro:Option Nat} {n:Nat} {P:Program} {f:FuncId} {args:Array Value} {w:World} {R:Ending->World->Prop}:CallsIn (WF ro) n P f args w R↔Calls P f args w R:=
 callsIn_wide (n:=n)
def Post (D:Den) (w0:World) (X:Nat->Prop) (ρ:Nm) (wc w:World) (bk:List (Nat×Blk)) (c:Nat) (r:OpR) (e:Ending) (w':World):Prop:=
 ∃v ρ' wc',r.ends e v∧denV D ρ' wc' r.v v∧Sat D w0 X r.th ρ' wc' w' (r.fin bk)∧Evo ρ wc w bk c r.c ρ' wc' w' (r.fin bk)
def YOk (D:Den) (P:Program) (w0:World) (X:Nat->Prop):Nat->YEnv->Nm->World->World->Prop
 | _,[],_,_,_=>True
 | bd, (k, h) :: ys, ρ, wc, w => ∃ B lp, ρ k = some B ∧ w.heap[B.blk]? = some (.loop lp) ∧ w0.heap.size <= B.blk ∧ B.blk < bd ∧ YOk D P w0 X B.blk ys ρ wc w ∧
   ∀args bk c th orc r,h args bk c th orc=some r->(∀p∈r.obl,p)->∀ρ' wc' w' vals,ρ.le ρ'->Ext wc wc'->Sat D w0 X th ρ' wc' w' bk->YOk D P w0 X B.blk ys ρ' wc' w'->(∀j x,bk.look j=some x->j<c)->th<=c->
     (∀j,c<=j->j<r.c->ρ' j=none)->denAs D ρ' wc' args vals->w'.heap[B.blk]? = some (.loop lp)->
     ∃fn tmps assign body,(Instr.yield B.blk vals.toArray).run P w'=.ok (.round B.blk fn tmps assign body) w'∧
       RoundIn (WF none) 0 P B.blk fn tmps assign body w' λe w''=>Post D w0 X ρ' wc' w' bk c r e w''∧w''.heap[B.blk]? = some (.loop lp)
def CallFOk (D:Den) (P:Program) (w0:World) (X:Nat->Prop) (cs:CallF):Prop:=
 ∀ys f args bk c th orc r,cs ys f args bk c th orc=some r->(∀p∈r.obl,p)->∀bd ρ wc w vals,Sat D w0 X th ρ wc w bk->YOk D P w0 X bd ys ρ wc w->(∀k b,bk.look k=some b->k<c)->th<=c->(∀k,c<=k->k<r.c->ρ k=none)->denAs D ρ wc args vals->
   Calls P f vals.toArray w (Post D w0 X ρ wc w bk c r)
structure CallOk (D:Den) (P:Program) (w0:World) (X:Nat->Prop) (cs:CallS):Prop where
 call:CallFOk D P w0 X cs.call
 op:∀o get x,cs.op o get=some x->∀ρ wc w ev,Frm w0 X w->(∀y z,get y=some z->denV D ρ wc z (ev y))->∃v,(execOp ev o).run P w=.ok (.value v) w∧denV D ρ wc x v
section
variable {D:Den} {P:Program} {w0:World} {X:Nat->Prop} {th:Nat} {ρ ρ':Nm} {wc w wc' w':World} {bk bk':List (Nat×Blk)} {c c':Nat}
theorem Sat.cells (h:Sat D w0 X th ρ wc w bk) {k:Nat} {b:Blk} {B:Pl} (hk:Liv bk k b) (hB:ρ k=some B) (hro:B.ro=false):∃cs T f,w.heap[B.blk]? = some (.cells cs T f):=by
 obtain⟨B',cs,h1,h2,h3,h4,h5,h6⟩:=h.box k b hk;cases hB.symm.trans h1;rcases h2 with ⟨g,_⟩|⟨_,_,rest,_,_,hb⟩
 ·rw[hro]at g;cases g
 ·exact⟨_,_,_,hb.blk⟩
theorem Sat.stays (h:Sat D w0 X th ρ wc w bk) (e:Evo ρ wc w bk c c' ρ' wc' w' bk') {l:Nat} {o:Obj} (hl:w.heap[l]? = some o) (ho:o.isCells=false):w'.heap[l]? = some o:=by
 rw[e.loc l (Zam hl) ?_]
 ·exact hl
 ·intro k b B hk hB hro he
  obtain⟨cs,T,f,hc⟩:=h.cells hk hB hro;rw[he,hl]at hc;cases hc;cases ho
theorem YOk.step:∀{bd:Nat} {ys:YEnv} {ρ ρ':Nm} {wc w wc' w':World},YOk D P w0 X bd ys ρ wc w->ρ.le ρ'->Ext wc wc'->(∀(l:Nat) (lp:Loop),l<bd->w.heap[l]? = some (Obj.loop lp)->w'.heap[l]? = some (Obj.loop lp))->YOk D P w0 X bd ys ρ' wc' w'
 | _,[],ρ,ρ',wc,w,wc',w',_,_,_,_=>trivial
 | bd, (k, h) :: ys, ρ, ρ', wc, w, wc', w', ⟨B, lp, h2, h3, hsz, hbd, h1, h4⟩, hr, hx, hl =>
   ⟨B,lp,hr k B h2,hl _ _ hbd h3,hsz,hbd,h1.step hr hx (λl lp hlt=>hl l lp (Nat.lt_trans hlt hbd)),λargs bk c th orc r hh ho ρ2 wc2 w2 vals g1 g2=>h4 args bk c th orc r hh ho ρ2 wc2 w2 vals (hr.trans g1) (hx.trans g2)⟩
theorem YOk.bound:∀{bd b:Nat} {ys:YEnv} {ρ:Nm} {wc w:World},YOk D P w0 X bd ys ρ wc w->(∀k B,ρ k=some B->B.blk<b)->YOk D P w0 X b ys ρ wc w
 | _,_,[],_,_,_,_,_=>trivial
 | _,_,(k,h)::ys,ρ,wc,w,⟨B,lp,h2,h3,hsz,hbd,h1,h4⟩,hb=>⟨B,lp,h2,h3,hsz,hb k B h2,h1,h4⟩
theorem YOk.evo {bd:Nat} {ys:YEnv} (h:YOk D P w0 X bd ys ρ wc w) (hS:Sat D w0 X th ρ wc w bk) (e:Evo ρ wc w bk c c' ρ' wc' w' bk'):YOk D P w0 X bd ys ρ' wc' w':=
 h.step e.rho e.ext λl lp _ hl=>hS.stays e hl rfl
end
end
end Go.Ex
namespace Go.Mono
open Go.RowKit
theorem Zeu (w:World) (T:TypeId) (l:List Int) (hn:l.length<=1000):RdF (w.alloc (.cells (l.map (Value.int .i64)).toArray T)) (some ⟨w.heap.size,0,none⟩) l.length l.length (λi=>l.getD i 0):=by
 refine Zxg w T _ _ _ (λi hi=>?_) hn;simp[hi]
theorem Zfj {m:Int} {l:List Int} (h:∀x∈l,In m x):∀i,i<l.length->-m<=l.getD i 0∧l.getD i 0<=m:=by
 intro i hi;have:=h l[i] (Ybw hi);simpa[hi,In]using this
end Go.Mono
namespace Go.Proofs.W
open Go.RowKit Go.Mono
theorem Zpi (s:Srf) (hs:s.ok) (p:Option Addr) (c B:Nat) (w:World) (b0:Box w B 85 (s.cs p c)) :
  Calls Tryz.prog 265 #[.pointer (some ⟨B,0,none⟩)] w λe w'=>e=.returned (.bool true)∧Below w.heap.size w w':=by
 have cb0:=b0.cell;have bx:=λW (h:Below w.heap.size w W)=>(b0.below h).cell;simp only[Srf.cs]at cb0 bx;have h5:∀x∈[s.curv,s.curvx,s.thick,s.dx,s.dy],In 1000000000 x:=by
  intro x hx;have:=hs.curv;have:=hs.curvx;have:=hs.thick;have:=hs.dx;have:=hs.dy;simp at hx;rcases hx with rfl|rfl|rfl|rfl|rfl<;>assumption
 have h4:∀x∈[s.a0,s.a1,s.a2,s.a3],In 1000000000 x:=by
  intro x hx;have:=hs.a0;have:=hs.a1;have:=hs.a2;have:=hs.a3;simp at hx;rcases hx with rfl|rfl|rfl|rfl<;>assumption
 have h2:∀x∈[s.p0,s.p1],In 1000000000 x:=by
  intro x hx;have:=hs.p0;have:=hs.p1;simp at hx;rcases hx with rfl|rfl<;>assumption
 go_enter Tryz.func265,Tryz.ntmps265
 go_wp2_with fail
 refine(Zdy 1000000000 5 _ 5 (λi=>[s.curv,s.curvx,s.thick,s.dx,s.dy].getD i 0) _ (Zeu w 3 [s.curv,s.curvx,s.thick,s.dx,s.dy] Zs) Zo Zo (Zfj h5)).mono ?_;rintro e W1 ⟨rfl,hb1⟩;have hB1:=Zaa (Zad (Yae _ _) _) hb1;have b1:=b0.below hB1;have cb1:=bx W1 hB1;go_wp2_with fail
 refine(Zdy 1000000000 4 _ 4 (λi=>[s.a0,s.a1,s.a2,s.a3].getD i 0) _ (RdF.box b1 5 4 _ ?_ Zd) Zo Zo (Zfj h4)).mono ?_
 ·intro i hi
  rcases(by omega:i=0∨i=1∨i=2∨i=3) with rfl|rfl|rfl|rfl<;>rfl
 rintro e W2 ⟨rfl,hb2⟩;have hB2:=Zaa hB1 hb2;have b2:=b0.below hB2;have cb2:=bx W2 hB2;go_wp2_with fail
 refine(Zdy 1000000000 2 _ 2 (λi=>[s.p0,s.p1].getD i 0) _ (RdF.box b2 9 2 _ ?_ Zd) Zo Zo (Zfj h2)).mono ?_
 ·intro i hi
  rcases(by omega:i=0∨i=1) with rfl|rfl<;>rfl
 rintro e W3 ⟨rfl,hb3⟩;go_wp2
 go_ret
 exact⟨rfl,Zaa hB2 hb3⟩
theorem Zpj (s:Srf) (hs:s.ok) (p:Option Addr) (c B:Nat) (w:World) (b0:Box w B 85 (s.cs p c)) :
  Calls Tryz.prog 267 #[.pointer (some ⟨B,0,none⟩)] w λe w'=>e=.returned (.bool true)∧Below w.heap.size w w':=by
 have cb0:=b0.cell;have bx:=λW (h:Below w.heap.size w W)=>(b0.below h).cell;simp only[Srf.cs]at cb0 bx;have h2:∀x∈[s.conic,s.conicx],In 100000000 x:=by
  intro x hx;have:=hs.conic;have:=hs.conicx;simp at hx;rcases hx with rfl|rfl<;>assumption
 have h3:∀x∈[s.ax,s.ay,s.az],In 90000000 x:=by
  intro x hx;have:=hs.ax;have:=hs.ay;have:=hs.az;simp at hx;rcases hx with rfl|rfl|rfl<;>assumption
 go_enter Tryz.func267,Tryz.ntmps267
 go_wp2_with fail
 refine(Zdy 100000000 2 _ 2 (λi=>[s.conic,s.conicx].getD i 0) _ (Zeu w 3 [s.conic,s.conicx] Zs) Zo Zo (Zfj h2)).mono ?_;rintro e W1 ⟨rfl,hb1⟩;have hB1:=Zaa (Zad (Yae _ _) _) hb1;have cb1:=bx W1 hB1;go_wp2_with fail
 refine(Zdy 90000000 3 _ 3 (λi=>[s.ax,s.ay,s.az].getD i 0) _ (Zeu W1 3 [s.ax,s.ay,s.az] Zs) Zo Zo (Zfj h3)).mono ?_;rintro e W2 ⟨rfl,hb2⟩;go_wp2
 go_ret
 exact⟨rfl,Zaa (Zad hB1 _) hb2⟩
theorem Zpk (s:Srf) (hs:s.ok) (p:Option Addr) (c B:Nat) (w:World) (b0:Box w B 85 (s.cs p c)) :
  Calls Tryz.prog 268 #[.pointer (some ⟨B,0,none⟩)] w λe w'=>e=.returned (.bool true)∧Below w.heap.size w w':=by
 have cb0:=b0.cell;have bx:=λW (h:Below w.heap.size w W)=>(b0.below h).cell;simp only[Srf.cs]at cb0 bx;have h1:∀x∈[s.order],In 3 x:=by
  intro x hx;have:=hs.order;simp at hx;subst hx;assumption
 have h2:∀i,i<2->0<=[s.semi,s.hole].getD i 0∧[s.semi,s.hole].getD i 0<=1000000000:=by
  intro i hi;have:=hs.semi0;have:=hs.semi1;have:=hs.hole0;have:=hs.hole1;rcases(by omega:i=0∨i=1) with rfl|rfl<;>constructor<;>assumption
 go_enter Tryz.func268,Tryz.ntmps268
 go_wp2_with fail
 refine(Zdy 3 1 _ 1 (λi=>[s.order].getD i 0) _ (Zeu w 3 [s.order] Zs) Zo Zo (Zfj h1)).mono ?_;rintro e W1 ⟨rfl,hb1⟩;have hB1:=Zaa (Zad (Yae _ _) _) hb1;have cb1:=bx W1 hB1;go_wp2_with fail
 refine(Zfi 0 1000000000 2 _ 2 (λi=>[s.semi,s.hole].getD i 0) _ (Zeu W1 3 [s.semi,s.hole] Zs) h2).mono ?_;rintro e W2 ⟨rfl,hb2⟩;go_wp2
 go_ret
 exact⟨rfl,Zaa (Zad hB1 _) hb2⟩
end Go.Proofs.W
namespace Go.Ex
open Go.RowKit Go.Mono
section
def newsS (bk:List (Nat×Blk)) (size:Nat) (x:Option SV):Option (Nat×List U):=
 match x with
 | some (.a (.one (.slc k off n _))) => match bk.look k with
   | some b=>if b.dead then none else(subU b.cells off (n*size)).map (n,·)
   | none=>none
 | some (.a (.one (.sli k off n))) => match bk.look k with
   | some b=>if b.dead then none else(subU b.cells off (n*size)).map (n,·)
   | none=>none
 | some (.a (.one (.own k n _))) => match bk.look k with
   | some b=>if b.dead then none else(subU b.cells 0 (n*size)).map (n,·)
   | none=>none
 | some (.a (.one .emp))=>some (0,[])
 | some (.a (.one (.val (.slice none 0 _))))=>some (0,[])
 | _=>none
section
variable {D:Den} {P:Program} {w0:World} {X:Nat->Prop} {th:Nat} {ρ:Nm} {wc w:World} {bk:List (Nat×Blk)} {c:Nat} {get:Operand->Option SV} {ev:Operand->Value}
theorem Src.of_sub {B:Pl} {T:TypeId} {sp:Bool} {cs:List Value} (hh:Holds w B T sp cs) {l us:List U} (hl:denL D ρ wc l cs) {off n size:Nat} (hs:subU l off (n*size)=some us) {tx e':TypeId} (hk:P.underlying tx=some (.slice e')) (cap:Nat) :
  ∃news,Src P size tx (.slice (some ⟨B.blk,B.base+off,none⟩) n cap) n news w∧denL D ρ wc us news∧news.length=n*size∧(∀m,m<=n->(Builtin.firstCells size m (.slice (some ⟨B.blk,B.base+off,none⟩) n cap)).run P w=.ok (news.take (m*size)).toArray w)∧
    ∀j u,news[j]? = some u->w.cell? ((⟨B.blk,B.base+off,none⟩:Addr).add j)=some u:=by
 obtain⟨h1,h2⟩:=Zf5 hs hl;have key:∀j u,((cs.drop off).take (n*size))[j]? = some u->w.cell? ((⟨B.blk,B.base+off,none⟩:Addr).add j)=some u:=?_
 ·refine⟨_,Src.ofSlice w hk ⟨B.blk,B.base+off,none⟩ n cap _ h2 key h1.ones,h1,h2,λm hm=>?_,key⟩
  have hle:=Ybd size hm;refine run_firstCells_some w size m _ n cap _ (by rw[Ycq,h2];omega) λj u hj=>key j u ?_;rw[Ycv]at hj;split at hj
  ·exact hj
  ·cases hj
 intro j u hj;rw[Yem,Ybj];refine hh.cell ?_;have hjl:j<n*size:=by
  have:=(Yan.1 hj).1;omega
 rw[Ycv,if_pos hjl,Yeh]at hj;simpa using hj
theorem Zn0 (hB:BkOk D ρ wc w bk) {x:SV} {v:Value} (hv:denV D ρ wc x v) {size n:Nat} {us:List U} (h:newsS bk size (some x)=some (n,us)) {tx e':TypeId} (hk:P.underlying tx=some (.slice e')) :
  ∃news,Src P size tx v n news w∧denL D ρ wc us news∧news.length=n*size∧∀m,m<=n->(Builtin.firstCells size m v).run P w=.ok (news.take (m*size)).toArray w:=by
 unfold newsS at h;split at h
 ·rename_i k off n' cap e
  cases e;split at h
  ·rename_i b hb
   split at h
   ·cases h
   ·rename_i hd
    obtain⟨m,hm,e2⟩:=Yad.1 h;cases e2;obtain⟨B,cs,h1,h2,h3,h4⟩:=hB k b hb (by simpa using hd);obtain⟨B',hB',e1⟩:=hv;cases h1.symm.trans hB';rw[show v=_ from by simpa using e1];obtain⟨news,q1,q2,q3,q4,_⟩:=Src.of_sub (P:=P) h2 h3 hm hk cap;exact⟨news,q1,q2,q3,q4⟩
  ·cases h
 ·rename_i k off n' e
  cases e;split at h
  ·rename_i b hb
   split at h
   ·cases h
   ·rename_i hd
    obtain⟨m,hm,e2⟩:=Yad.1 h;cases e2;obtain⟨B,cs,h1,h2,h3,h4⟩:=hB k b hb (by simpa using hd);obtain⟨B',cap,hB',hc,e1⟩:=hv;cases h1.symm.trans hB';rw[show v=_ from by simpa using e1];obtain⟨news,q1,q2,q3,q4,_⟩:=Src.of_sub (P:=P) h2 h3 hm hk cap;exact⟨news,q1,q2,q3,q4⟩
  ·cases h
 ·rename_i k n' s e
  cases e;split at h
  ·rename_i b hb
   split at h
   ·cases h
   ·rename_i hd
    obtain⟨m,hm,e2⟩:=Yad.1 h;cases e2;obtain⟨B,cs,h1,h2,h3,h4⟩:=hB k b hb (by simpa using hd);obtain⟨B',hB',_,_,hb0,e1⟩:=hv;cases h1.symm.trans hB';rw[show v=_ from by simpa using e1];obtain⟨news,q1,q2,q3,q4,_⟩:=Src.of_sub (P:=P) h2 h3 hm hk B.cap;rw[hb0]at q1 q4;exact⟨news,q1,q2,q3,q4⟩
  ·cases h
 ·rename_i e
  cases e;cases h;obtain⟨p,cp,hp,e1⟩:=hv;rw[show v=_ from by simpa using e1];refine⟨[],?_,rfl,Zs,λm hm=>?_⟩
  ·cases p with
   | none=>rw[hp rfl];exact Src.ofNil w hk 0
   | some a=>exact Src.ofSlice w hk a 0 cp [] Zs (λj u hj=>by simp at hj) Zs
  ·obtain rfl:m=0:=by omega
   cases p with
   | none=>simpa using run_firstCells_none w size 0 0 cp
   | some a=>simpa using run_firstCells_some w size 0 a 0 cp [] Zs (λj u hj=>by simp at hj)
 ·rename_i cp e
  cases e;cases h;rw[show v=_ from by simpa using hv.1];exact⟨[],Src.ofNil w hk _,rfl,Zs,λm hm=>by simpa using run_firstCells_none w size m 0 _⟩
 ·cases h
def EffOk (D:Den) (P:Program) (w0:World) (X:Nat->Prop) (th:Nat) (ρ:Nm) (wc w:World) (bk:List (Nat×Blk)) (c:Nat) (s:Sem Next) (x:SV) (wr:List (Nat×Blk)) (c':Nat):Prop:=
 ∃nx v w' ρ',s.run P w=.ok nx w'∧(nx=.value v∨(nx=.skip∧v=undef))∧denV D ρ' wc x v∧Sat D w0 X th ρ' wc w' (wr++bk)∧Evo ρ wc w bk c c' ρ' wc w' (wr++bk)
theorem Zmq (h:Sat D w0 X th ρ wc w bk) (hc:ρ c=none) {t tx ty e:TypeId} {i:TypeInfo} {z:Value} (ht:P.underlying t=some (.slice e)) (hi:P.info? e=some i) (hz:i.zero=some z) (hzs:z.cells.size=i.size)
  {base:Option Addr} {sLen sCap:Nat} {olds news:List Value} {lo ln:List U} (hlo:denL D ρ wc lo olds) (hln:denL D ρ wc ln news) (hol:olds.length=sLen*i.size)
  (hold:∀w':World,w'.heap=w.heap->(Builtin.firstCells i.size sLen (.slice base sLen sCap)).run P w'=.ok olds.toArray w') {x:Value} {n:Nat} (hs:Src P i.size tx x n news w) (hnl:news.length=n*i.size)
  (hg:sCap<sLen+n) (h40:sLen+n<=2 ^ 40) (hby:(sLen+n)*i.bytes<=140737488355328) :
  ∃v w' ρ',(Builtin.append_ #[t,tx] ty #[.slice base sLen sCap,x]).run P w=.ok v w'∧denV D ρ' wc (.a (.one (.own c (sLen+n) i.size))) v∧
    Sat D w0 X th ρ' wc w' ((c,⟨e,lo++ln,false,true,false⟩)::bk)∧Evo ρ wc w bk c (c+1) ρ' wc w' ((c,⟨e,lo++ln,false,true,false⟩)::bk):=by
 have hrun:=run_append_grow_src (P:=P) w t tx ty e i z ht hi hz base sLen sCap olds (hold _ rfl) x n news hs hg Zo (growslice_fits hg hby);have hge:=grownCap_ge w (sLen+n) sCap e;generalize grownCap w (sLen+n) sCap e=cap at hrun hge;have hsz:(Builtin.zeroCells z.cells (cap-(sLen+n))).size=(cap-(sLen+n))*i.size:=by rw[size_zeroCells,hzs]
 obtain⟨k1,k2⟩:=(h.drew).alloc hc e true cap (cap*i.size) (l:=lo++ln) (cs:=olds++news) (rest:=(Builtin.zeroCells z.cells (cap-(sLen+n))).toList) (hlo.append hln) (λhh=>by cases hh) (λ_=>by
  simp only[Yay,Yaz,hsz,hol,hnl];rw[<-Nat.add_mul,<-Nat.add_mul];congr 1
  omega)
 have earr:(((olds++news)++(Builtin.zeroCells z.cells (cap-(sLen+n))).toList).toArray:Array Value)=(olds++news).toArray++Builtin.zeroCells z.cells (cap-(sLen+n)):=by
  apply Yee.1;simp
 rw[earr]at k1 k2;exact⟨_,_,_,hrun,⟨_,Zbf _ _ _,hge,rfl,rfl,rfl⟩,k1,(Evo.drew ρ wc w bk c).trans k2 h.named⟩
def infoZ (P:Program) (e:TypeId):Option (Nat×Nat):=
 match P.info? e with
 | some i => match i.zero with
   | some z=>if Nat.beq z.cells.size i.size then some (i.size,i.bytes) else none
   | none=>none
 | none=>none
theorem Zn1 {e:TypeId} {s b:Nat} (h:infoZ P e=some (s,b)):∃i z,P.info? e=some i∧i.zero=some z∧z.cells.size=i.size∧i.size=s∧i.bytes=b:=by
 unfold infoZ at h;split at h
 ·rename_i i hi
  split at h
  ·rename_i z hz
   split at h
   ·rename_i hs
    cases h;exact⟨i,z,hi,hz,Ybe hs,rfl,rfl⟩
   ·cases h
  ·cases h
 ·cases h
def small (n bytes:Nat):Bool:=Nat.ble n (2 ^ 40)&&Nat.ble (n*bytes) 140737488355328
end
def Zm2 (s:Option SV):Option SV:=
 match s with
 | some (.a (.one (.slc k off len cap)))=>if Nat.ble len cap then some (.a (.one (.slc k off len cap))) else none
 | some (.a (.one (.sli k off len)))=>some (.a (.one (.sli k off len)))
 | some (.a (.one (.own k len sz)))=>some (.a (.one (.own k len sz)))
 | some (.a (.one .emp))=>some (.a (.one .emp))
 | some (.a (.one (.val (.slice none 0 0))))=>some (.a (.one (.val (.slice none 0 0))))
 | _=>none
def appendS (P:Program) (t tx:TypeId) (s x:Option SV) (bk:List (Nat×Blk)) (th c:Nat):Option (SV×List (Nat×Blk)×Nat):=
 match P.underlying t,P.underlying tx with
 | some (.slice e), some (.slice _) => match infoZ P e with
   | some (size, bytes) => match newsS bk size x with
     | some (n, us) => if Nat.beq n 0 then (Zm2 s).map λr => (r, [], c) else match s with
       | some (.a (.one (.slc k off len cap))) => match bk.look k with
         | some b => if b.dead then none else
           if Nat.ble (len+n) cap then(if b.ro || !(b.T != 3 || Nat.ble th k) then none else
            (putX b.cells (off+len*size) us).map λl=>(.a (.one (.slc k off (len+n) cap)),[(k,⟨b.T,l,false,b.sp,false⟩)],c))
           else if small (len+n) bytes then(subU b.cells off (len*size)).map λlo=>(.a (.one (.own c (len+n) size)),[(c,⟨e,lo++us,false,true,false⟩)],c+1) else none
         | none=>none
       | some (.a (.one (.val (.slice none 0 0))))=>if small n bytes then some (.a (.one (.own c n size)),[(c,⟨e,us,false,true,false⟩)],c+1) else none
       | some (.a (.one (.own k len sz))) => match bk.look k with
         | some b => if b.dead || b.ro || !b.sp || !(b.T != 3 || Nat.ble th k) || !Nat.beq b.T e || !Nat.beq sz size || !Nat.beq (widths b.cells) (len * size) || !bk.all (λp => Nat.blt p.1 c) || !small (len + n) bytes then none else
           some (.a (.one (.own c (len+n) size)),[(k,⟨b.T,[],false,true,true⟩),(c,⟨e,b.cells++us,false,true,false⟩)],c+1)
         | none=>none
       | _=>none
     | none=>none
   | none=>none
 | _,_=>none
section
variable {D:Den} {P:Program} {w0:World} {X:Nat->Prop} {th:Nat} {ρ:Nm} {wc w:World} {bk:List (Nat×Blk)} {c:Nat}
theorem Zf9 {n b:Nat} (h:small n b=true):n<=2 ^ 40∧n*b<=140737488355328:=by
 unfold small at h;rw[Yam]at h;exact⟨Yaa h.1,Yaa h.2⟩
theorem Zuy {s:SV} {r:SV} {v:Value} (h:Zm2 (some s)=some r) (hv:denV D ρ wc s v):r=s∧∃p n cap,v=.slice p n cap∧n<=cap:=by
 unfold Zm2 at h;split at h
 ·rename_i e
  cases e;split at h
  ·rename_i hb
   cases h;obtain⟨B,hB,e1⟩:=hv;exact⟨rfl,_,_,_,by simpa using e1,Yaa hb⟩
  ·cases h
 ·rename_i e
  cases e;cases h;obtain⟨B,cp,hB,hc,e1⟩:=hv;exact⟨rfl,_,_,_,by simpa using e1,hc⟩
 ·rename_i e
  cases e;cases h;obtain⟨B,hB,hc,_,_,e1⟩:=hv;exact⟨rfl,_,_,_,by simpa using e1,hc⟩
 ·rename_i e
  cases e;cases h;obtain⟨p,cp,hp,e1⟩:=hv;exact⟨rfl,_,_,_,by simpa using e1,Yat _⟩
 ·rename_i e
  cases e;cases h;exact⟨rfl,_,_,_,by simpa using hv.1,Yab _⟩
 ·cases h
theorem Zn2 {k:Nat} {x:Blk} {l:List (Nat×Blk)} (hd:x.dead=true):Sub' ((k,x)::l) l:=λj y hj=>by
 rcases Zbr hj with ⟨_,e,hd'⟩|⟨_,hj⟩
 ·rw[hd]at hd';cases hd'
 ·exact hj
theorem Zpa (h:Sat D w0 X th ρ wc w bk) {bkR:List (Nat×Blk)} (hs:Sub bkR bk) {s x:SV} {vs vx:Value} (hvs:denV D ρ wc s vs) (hvx:denV D ρ wc x vx) {t tx ty:TypeId} {r:SV} {wr:List (Nat×Blk)} {c':Nat}
  (ha:appendS P t tx (some s) (some x) bkR th c=some (r,wr,c')) (hn:∀k,c<=k->k<c'->ρ k=none) :
  ∃v w' ρ',(Builtin.append_ #[t,tx] ty #[vs,vx]).run P w=.ok v w'∧denV D ρ' wc r v∧Sat D w0 X th ρ' wc w' (wr++bk)∧Evo ρ wc w bk c c' ρ' wc w' (wr++bk):=by
 have hBk:BkOk D ρ wc w bkR:=λk b hk=>h.bkOk k b (hs k b hk);unfold appendS at ha;split at ha
 ·rename_i e e' ht htx
  split at ha
  ·rename_i size bytes hinf
   obtain⟨i,z,hi,hz,hzs,rfl,rfl⟩:=Zn1 hinf;split at ha
   ·rename_i n us hnews
    obtain⟨news,hsrc,hln,hnl,_⟩:=Zn0 (P:=P) hBk hvx hnews htx;split at ha
    ·rename_i hn0
     have hn0:=Ybe hn0;subst hn0;obtain⟨r',hr,e1⟩:=Yad.1 ha;cases e1;obtain⟨rfl,p,m,cap,rfl,hle⟩:=Zuy hr hvs;obtain rfl:news=[]:=List.eq_nil_of_length_eq_zero (by simpa using hnl);exact⟨_,_,ρ,run_append_nothing w t tx ty e i ht hi p m cap hle vx hsrc,hvs,h,Evo.refl _ _ _ _ _⟩
    ·rename_i hn0
     have hnp:0<n:=by
      rcases Yff n with h0|h0
      ·subst h0;simp at hn0
      ·exact h0
     split at ha
     ·rename_i k off len cap e1
      cases e1;obtain⟨B,hB,e2⟩:=hvs;obtain rfl:vs=.slice (some ⟨B.blk,B.base+off,none⟩) len cap:=by simpa using e2
      split at ha
      ·rename_i b hb
       split at ha
       ·cases ha
       ·rename_i hd
        have hliv:Liv bk k b:=⟨hs k b hb,by simpa using hd⟩
        obtain⟨B',cs,h1,h2,h3,h4,h5,h6⟩:=h.box k b hliv;cases hB.symm.trans h1;split at ha
        ·rename_i hroom
         have hroom:=Yaa hroom;split at ha
         ·cases ha
         ·rename_i hT
          simp only[Ybo,Ydz,not_or,Bool.not_eq_true,Bool.or_eq_false_iff,bne_eq_false_iff_eq,Nat.ble_eq,not_and]at hT;obtain⟨hro,hT⟩:=hT;have hro:b.ro=false:=by simpa using hro
          have hT:b.T≠3∨th<=k:=by
           by_cases h3:b.T=3
           ·right
            have:=hT;simp[h3]at this;exact this
           ·exact .inl h3
          obtain⟨l,hl,e3⟩:=Yad.1 ha;cases e3;obtain⟨k1,k2,k3,k4⟩:=h.store hliv hro hl hln hT hB c;refine⟨.slice (some ⟨B.blk,B.base+off,none⟩) (len+n) cap,_,ρ,?_,⟨B,hB,rfl⟩,k1,k2⟩;rw[k4,Yba];refine run_append_room_src w t tx ty e i ht hi B.blk off len cap vx n news hsrc hroom (λj hj=>?_) (λj hj=>?_)
          ·exact(k3 j hj).1
          ·exact(k3 j hj).2
        ·rename_i hroom
         have hroom:cap<len+n:=by
          rcases Ydu cap (len+n) with h|h
          ·exact h
          ·rw[Nat.ble_eq_true_of_le h]at hroom;simp at hroom
         split at ha
         ·rename_i hsm
          obtain⟨g1,g2⟩:=Zf9 hsm;obtain⟨lo,hl,e3⟩:=Yad.1 ha;cases e3;obtain⟨olds,q1,q2,q3,_,q4⟩:=Src.of_sub (P:=P) h2 h3 hl htx cap;refine Zmq h (hn c (Yab _) (Yca _)) ht hi hz hzs q2 hln q3 (λw' hw'=>?_) hsrc hnl hroom g1 g2;refine run_firstCells_some w' _ _ _ _ _ _ q3 λj u hj=>?_;rw[<-q4 j u hj];simp only[World.cell?,hw']
         ·cases ha
      ·cases ha
     ·rename_i e1
      cases e1;obtain rfl:vs=.slice none 0 0:=by simpa using hvs.1
      split at ha
      ·rename_i hsm
       obtain⟨g1,g2⟩:=Zf9 hsm;cases ha;have:=Zmq (sLen:=0) (sCap:=0) (base:=none) (olds:=[]) (lo:=[]) (ty:=ty) h (hn c (Yab _) (Yca _)) ht hi hz hzs rfl hln Zs (λw' _=>run_firstCells_none w' _ _ _ _) hsrc hnl Zo Zo (by rw[Yba];exact g2);simpa using this
      ·cases ha
     ·rename_i k len sz e1
      cases e1;obtain⟨B,hB,hlc,htot,hb0,e2⟩:=hvs;obtain rfl:vs=.slice (some ⟨B.blk,0,none⟩) len B.cap:=by simpa using e2
      split at ha
      ·rename_i b hb
       split at ha
       ·cases ha
       ·rename_i hc
        simp only[Ybo,Ydz,not_or,Bool.not_eq_true,Bool.not_eq_false]at hc;obtain⟨⟨⟨⟨⟨⟨⟨⟨c1,c2⟩,c3⟩,c4⟩,c5⟩,c6⟩,c7⟩,c8⟩,c9⟩:=hc;cases ha;have c5:=Ybe c5;have c6:=Ybe c6;have c7:=Ybe c7;obtain⟨g1,g2⟩:=Zf9 c9;have hT:b.T≠3∨th<=k:=by
         rcases c4 with h|h
         ·exact .inl (by simpa using h)
         ·exact .inr (Yaa h)
        have hliv:Liv bk k b:=⟨hs k b hb,c1⟩
        have hkc:c≠k:=λe=>by
         have:=hn c (Yab _) (Yca _);rw[e,hB]at this;cases this
        obtain⟨B',cs,h1,h2,h3,h4,h5,h6⟩:=h.box k b hliv;cases hB.symm.trans h1;have hcn:=hn c (Yab _) (Yca _);subst c5;subst c6;by_cases hroom:len+n<=B.cap
        ·have hrm:widths b.cells+news.length<=B.tot:=by
          rw[c7,hnl,htot,<-Nat.add_mul];exact Ybd _ hroom
         obtain⟨k1,k2,k3,k4⟩:=h.push hliv c2 c3 hln hT hB hcn hrm hkc;refine⟨.slice (some ⟨B.blk,0,none⟩) (len+n) B.cap,_,_,?_,⟨B,Zbf _ _ _,hroom,htot,hb0,rfl⟩,k1,k2⟩;rw[c7]at k3 ⊢;have:=run_append_room_src w t tx ty b.T i ht hi B.blk 0 len B.cap vx n news hsrc hroom (λj hj=>by rw[Yba];exact(k3 j hj).1) (λj hj=>by rw[Yba];exact(k3 j hj).2);rw[Yba]at this;exact this
        ·have hcs:=h3.len
         obtain⟨v,w',ρ',q1,q2,q3,q4⟩:=Zmq (ty:=ty) (olds:=cs) (base:=some ⟨B.blk,0,none⟩) (sLen:=len) (sCap:=B.cap) h hcn ht hi hz hzs h3 hln (by rw[hcs,c7]) (λw' hw'=>run_firstCells_some w' _ _ _ _ _ _ (by rw[hcs,c7]) λj u hj=>by
          have:=h2.cell hj;rw[hb0,Yba]at this;rw[Yem,Yba,<-this];simp only[World.cell?,hw']) hsrc hnl Zo g1 g2
         exact⟨v,w',ρ',q1,q2,q3.sub' (Zn2 rfl),q4.sub' (Zn2 rfl)⟩
      ·cases ha
     ·cases ha
   ·cases ha
  ·cases ha
 ·cases ha
end
end
section
def zerosU (P:Program) (e:TypeId) (n:Nat):Option (List U):=
 match (P.info? e).bind (·.zero) with
 | some z=>(λl:List Value=>if l.all (·.oneCell') then some (l.map .val) else none) ((Array.range n).map (z.cells[· % z.cells.size]!)).toList
 | none=>none
theorem Zpb {D:Den} {ρ:Nm} {w:World} {x:SA} {v:Value} (h:denA D ρ w x v):(∃cs:Array Value,v=.agg cs)∨v.oneCell'=true:=by
 cases x with
 | one u=>exact .inr (denU.ones h v Zs)
 | agg l=>obtain⟨cs,e,_⟩:=h;exact .inl ⟨_,e⟩
theorem Zgu {P:Program} (w:World) (b o:Nat) (ty:TypeId) (v:Value) (hv:(∃cs:Array Value,v=.agg cs)∨v.oneCell'=true) (ht:w.there b o v.cells.size) (hi:(P.info? ty).map (·.size)=some v.cells.size)
  (h1:∀u∈v.cells.toList,u.oneCell'=true):(Instr.storeAt ty (.pointer (some ⟨b,o,none⟩)) v).run P w=.ok () (w.setCells b o v.cells.toList):=by
 rcases hv with ⟨cs,rfl⟩|hv
 ·exact run_storeAt_mid w b o ty cs ht hi (by rw[Array.all_eq_true_iff_forall_mem];intro u hu;exact h1 u (by simpa[Value.cells]using hu))
 ·rw[Zdb hv]at ht hi ⊢
  have:=run_storeAt_mid (P:=P) w b o ty #[v] ht hi (by simpa using hv);rw[<-this];unfold Instr.storeAt storeVar;rw[Zdb hv];rfl
def makeS (P:Program) (t:TypeId) (l x:Option SV) (c:Nat):Option (SV×List (Nat×Blk)×Nat):=
 match l,x with
 | some (.a (.one (.val (.int _ (.ofNat n))))), some (.a (.one (.val (.int _ (.ofNat m))))) => match P.underlying t with
   | some (.slice e) => match infoZ P e with
     | some (size, bytes) => if Nat.ble n m && small m bytes then match (P.info? e).bind (·.zero) with
       | some z=>if z.cells.toList.all (·.oneCell') then some (.a (.one (.slc c 0 n m)),[(c,⟨e,(madeCells z.cells (m*size)).toList.map .val,false,false,false⟩)],c+1) else none
       | none=>none
       else none
     | none=>none
   | _=>none
 | _,_=>none
def copyS (P:Program) (t:TypeId) (d x:Option SV) (bk:List (Nat×Blk)) (th c:Nat):Option (SV×List (Nat×Blk)×Nat):=
 match P.underlying t with
 | some (.slice e) => match szOf P e with
   | some size => match d, newsS bk size x with
     | some (.a (.one (.slc k off len cap))), some (n, us) => match bk.look k, takeU us (Nat.min n len * size) with
       | some b, some vs => if b.dead || b.ro || !(b.T != 3 || Nat.ble th k) then none else
         (putX b.cells (off+0) vs).map λl=>(.a (.one (.val (goInt (Nat.min n len)))),[(k,⟨b.T,l,false,b.sp,false⟩)],c)
       | _,_=>none
     | _,_=>none
   | none=>none
 | _=>none
def effS (P:Program) (o:Oper) (get:Operand->Option SV) (bk:List (Nat×Blk)) (th c:Nat):Option (SV×List (Nat×Blk)×Nat):=
 match o.op with
 | .alloc T=>(zeroU P T).map λl=>(.a (.one (.ptr c 0)),[(c,⟨T,l,false,false,false⟩)],c+1)
 | .box T x => match get x with
   | some (.a s)=>some (.a (.one (.ptr c 0)),[(c,⟨T,unitsA s,false,false,false⟩)],c+1)
   | _=>none
 | .buildSlice t len parts => match P.underlying t with
   | some (.slice e) => match szOf P e, partsS get parts.toList with
     | some s, some ps => if len * s <= 2 ^ 24 && len * s != 0 then
       match zerosU P e (len*s) with
       | some z=>(fillS (λi=>some (i*s,s)) z ps).map λm=>(.a (.one (.slc c 0 len len)),[(c,⟨e,m,false,false,false⟩)],c+1)
       | none=>none
       else none
     | _,_=>none
   | _=>none
 | .store t x y => match get x, get y with
   | some (.a (.one (.ptr k off))), some (.a s) => match bk.look k with
     | some b=>if(szOf P t).any (·==widths (unitsA s))&&(b.T != 3 || Nat.ble th k)&&!b.ro&&!b.dead then(putX b.cells off (unitsA s)).map λl=>(.tup [],[(k,⟨b.T,l,false,b.sp,false⟩)],c) else none
     | none=>none
   | _,_=>none
 | .makeSlice t l x=>makeS P t (get l) (get x) c
 | .call ⟨.builtin .append,⟨[s,x]⟩,⟨[t,tx]⟩⟩=>appendS P t tx (get s) (get x) bk th c
 | .call ⟨.builtin .copy, ⟨[d, x]⟩, ⟨[t, tx]⟩⟩ => match P.underlying tx with
   | some (.slice _)=>copyS P t (get d) (get x) bk th c
   | _=>none
 | _=>(evPure P o get bk).map λx=>(x,[],c)
section
variable {D:Den} {P:Program} {w0:World} {X:Nat->Prop} {th:Nat} {ρ:Nm} {wc w:World} {bk bkR:List (Nat×Blk)} {c:Nat} {get:Operand->Option SV} {ev:Operand->Value}
theorem Zga (h:Sat D w0 X th ρ wc w bk) (hk:ρ c=none) {T:TypeId} {l:List U} {cells:Array Value} {s:Sem Value} (mk:Addr->Value) (x:SV) (hx:∀B,denV D (addNm ρ c ⟨B,0,false,0,0⟩) wc x (mk ⟨B,0,none⟩))
  (hrun:s.run P w=.ok (mk ⟨w.heap.size,0,none⟩) (w.alloc (.cells cells T))) (hl:denL D ρ wc l cells.toList) {S:Sem Next} (hex:S=do pure (Next.value (<-s))) :
  EffOk D P w0 X th ρ wc w bk c S x [(c,⟨T,l,false,false,false⟩)] (c+1):=by
 obtain⟨k1,k2⟩:=h.alloc hk T false 0 0 (rest:=[]) hl (λ_=>rfl) (λhh=>by cases hh);rw[Ydg,Array.toArray_toList]at k1 k2;refine⟨_,_,_,_,?_,.inl rfl,hx _,k1,k2⟩;rw[hex];simp only[Yar,hrun,Yag,Yau]
theorem Zrk {z:Value} (hz:z.cells.toList.all (·.oneCell')=true) (n:Nat) (hn:z.cells.size=0->n=0):denL D ρ wc ((madeCells z.cells n).toList.map .val) (madeCells z.cells n).toList:=by
 refine Zdn _ λv hv=>?_;unfold madeCells at hv;simp only[Array.toList_map,Ydl]at hv;obtain⟨i,hi,rfl⟩:=hv;have hi:i<n:=by simpa using hi
 have h0:0<z.cells.size:=by
  rcases Yff z.cells.size with h|h
  ·have:=hn h;omega
  ·exact h
 have hm:=Nat.mod_lt i h0;rw[getElem!_pos z.cells (i%z.cells.size) hm];exact Ybn.1 hz _ Zs
theorem Zuz (h:Sat D w0 X th ρ wc w bk) (hn:∀k,c<=k->k<c+1->ρ k=none) {t:TypeId} {sl sx x:SV} {vl vx:Value} (hl:denV D ρ wc sl vl) (hx:denV D ρ wc sx vx) {wr:List (Nat×Blk)} {c':Nat}
  (he:makeS P t (some sl) (some sx) c=some (x,wr,c')) {S:Sem Next} (hex:S=do pure (Next.value (<-Instr.makeSlice t vl vx))):EffOk D P w0 X th ρ wc w bk c S x wr c':=by
 unfold makeS at he;split at he
 ·rename_i kl n km m e1 e2
  cases e1;cases e2;obtain rfl:vl=_:=by simpa using hl.1
  obtain rfl:vx=_:=by simpa using hx.1
  split at he
  ·rename_i e hu
   split at he
   ·rename_i size bytes hinf
    obtain⟨i,z,hi,hz,hzs,rfl,rfl⟩:=Zn1 hinf;split at he
    ·rename_i hc
     rw[Yam]at hc;obtain⟨g1,g2⟩:=Zf9 hc.2;have g0:=Yaa hc.1;split at he
     ·rename_i z' hz'
      rw[hi]at hz';have hz2:z'=z:=by
       have:i.zero=some z':=hz';rw[hz]at this;cases this;rfl
      subst hz2;split at he
      ·rename_i hall
       cases he;have g3:(i.bytes:Int)*(m:Int)<=281474976710656:=by
        have g4:i.bytes*m<=140737488355328:=by rw[Ycu];exact g2
        have:((i.bytes*m:Nat):Int)<=140737488355328:=Zo;rw[Ycw]at this;omega
       have hrun:=run_make (P:=P) w t e i z' hu hi hz kl km (n:Int) (m:Int) (Int.natCast_nonneg _) Zo g3 Zo;rw[Ycb,Ycb]at hrun;exact Zga h (hn c (Yab _) (Yca _)) (λp=>.slice (some p) n m) (.a (.one (.slc c 0 n m))) (λB=>⟨_,Zbf _ _ _,rfl⟩) hrun (Zrk hall _ (λh0=>by rw[<-hzs,h0];simp)) hex
      ·cases he
     ·cases he
    ·cases he
   ·cases he
  ·cases he
 ·cases he
theorem Zu0 (h:Sat D w0 X th ρ wc w bk) (hs:Sub bkR bk) {t tx ty e':TypeId} (htx:P.underlying tx=some (.slice e')) {sd sx x:SV} {vd vx:Value} (hd:denV D ρ wc sd vd) (hx:denV D ρ wc sx vx) {wr:List (Nat×Blk)} {c':Nat}
  (he:copyS P t (some sd) (some sx) bkR th c=some (x,wr,c')) {S:Sem Next} (hex:S=do pure (Next.value (<-Builtin.copy_ #[t,tx] ty #[vd,vx]))):EffOk D P w0 X th ρ wc w bk c S x wr c':=by
 have hBk:BkOk D ρ wc w bkR:=λk b hk=>h.bkOk k b (hs k b hk);unfold copyS at he;split at he
 ·rename_i e hu
  split at he
  ·rename_i size hz
   split at he
   ·rename_i k off len cap n us e1 hnews
    cases e1;obtain⟨news,hsrc,hln,hnl,hfc⟩:=Zn0 (P:=P) hBk hx hnews htx;split at he
    ·rename_i b vs hb htk
     split at he
     ·cases he
     ·rename_i hc
      simp only[Ybo,Ydz,not_or,Bool.not_eq_true,Bool.not_eq_false]at hc;obtain⟨⟨c1,c2⟩,c3⟩:=hc;obtain⟨l,hl,e3⟩:=Yad.1 he;cases e3;obtain⟨B,hB,e2⟩:=hd;obtain rfl:vd=.slice (some ⟨B.blk,B.base+off,none⟩) len cap:=by simpa using e2
      have hT:b.T≠3∨th<=k:=by
       rcases c3 with h|h
       ·exact .inl (by simpa using h)
       ·exact .inr (Yaa h)
      obtain⟨q1,q2⟩:=Zen htk hln;obtain⟨k1,k2,k3,k4⟩:=h.store ⟨hs k b hb,c1⟩ c2 hl q1 hT hB c;obtain⟨i,hi,rfl⟩:=Yad.1 hz;have hcp:=hfc (Nat.min n len) (Nat.min_le_left _ _);have hst:=run_storeCells_cells (P:=P) B.blk off (news.take (Nat.min n len*i.size)) 0 w (by simpa using λj hj=>(k3 j (by simpa using hj)).1) (by simpa using λj hj=>(k3 j (by simpa using hj)).2) q1.ones;rw[Yce]at k1 k2 hst;refine⟨_,goInt (Nat.min n len),_,ρ,?_,.inl rfl,⟨rfl,rfl⟩,k1,k2⟩;rw[hex];have hrun:(Builtin.copy_ #[t,tx] ty #[.slice (some ⟨B.blk,B.base+off,none⟩) len cap,vx]).run P w=.ok (goInt (Nat.min n len)) (w.setCells B.blk off (news.take (Nat.min n len*i.size))):=by
       rw[k4,Yba];simp[Builtin.copy_,run_underlying hu,sizeOf,typeInfo,hi,hsrc.len,hcp,hst]
      simp only[Yar,hrun,Yag,Yau]
    ·cases he
   ·cases he
  ·cases he
 ·cases he
theorem Zw6 (h : Sat D w0 X th ρ wc w bk) (hs : Sub bkR bk) (hg : ∀ x z, get x = some z -> denV D ρ wc z (ev x)) {o : Oper} {x : SV} {wr : List (Nat × Blk)} {c' : Nat}
  (he:effS P o get bkR th c=some (x,wr,c')) (hn:∀k,c<=k->k<c'->ρ k=none):EffOk D P w0 X th ρ wc w bk c (execOp ev o) x wr c':=by
 unfold effS at he;split at he
 ·rename_i T ho
  obtain⟨l,hl,e⟩:=Yad.1 he;cases e;obtain⟨i,z,h1,h2,h3⟩:=Zny hl D ρ wc;exact Zga h (hn c (Yab _) (Yca _)) (λp=>.pointer (some p)) (.a (.one (.ptr c 0))) (λB=>⟨_,Zbf _ _ _,rfl⟩) (s:=Instr.alloc T true (.tuple #[])) (by simp[Instr.alloc,zeroValue,typeInfo,h1,h2,newVar,newRow]) h3 (by unfold execOp;rw[ho])
 ·rename_i T y ho
  split at he
  ·rename_i s hy
   cases he;have hd:=hg _ _ hy;exact Zga h (hn c (Yab _) (Yca _)) (λp=>.pointer (some p)) (.a (.one (.ptr c 0))) (λB=>⟨_,Zbf _ _ _,rfl⟩) (s:=Instr.box T (ev y)) (by simp[Instr.box,newVar,newRow]) (Zfd hd) (by unfold execOp;rw[ho])
  ·cases he
 ·rename_i t len parts ho
  split at he
  ·rename_i e hu
   split at he
   ·rename_i s ps hz hp
    split at he
    ·rename_i hlen
     rw[Yam]at hlen;split at he
     ·rename_i z hzs
      obtain⟨m,hm,e1⟩:=Yad.1 he;cases e1;unfold zerosU at hzs;split at hzs
      ·rename_i zv hzv
       obtain⟨ie,hie,hze⟩:=Ybg.1 hzv;dsimp only at hzs;split at hzs
       ·rename_i hall
        cases hzs;have hps:=Zgt (D:=D) (ρ:=ρ) (w:=wc) hg hp;obtain⟨cells,hf1,hf2⟩:=Zf8 _ hm (Zdn _ λv hv=>Ybn.1 hall v hv) hps;obtain⟨ie',hie',rfl⟩:=Yad.1 hz;cases hie.symm.trans hie';refine Zga h (hn c (Yab _) (Yca _)) (λp=>.slice (some p) len len) (.a (.one (.slc c 0 len len))) (λB=>⟨_,Zbf _ _ _,rfl⟩) (s:=Instr.buildSlice t len (parts.map λ(i,x)=>(i,ev x))) ?_ hf2 (by unfold execOp;rw[ho]);refine run_buildSlice w t e len _ cells ie zv hu hie hze (by have:=hlen.1;simp only[decide_eq_true_eq]at this;omega) (by simpa using hlen.2) ?_;rw[<-hf1];congr 1
        simp
       ·cases hzs
      ·cases hzs
     ·cases he
    ·cases he
   ·cases he
  ·cases he
 ·rename_i t y z ho
  split at he
  ·rename_i k off s hy hz
   split at he
   ·rename_i b hb
    split at he
    ·rename_i hc
     rw[Yam,Yam,Yam]at hc;obtain⟨⟨⟨hc1,hc2⟩,hro⟩,hdd⟩:=hc;obtain⟨l,hl,e⟩:=Yad.1 he;cases e;obtain⟨B,hB,e1⟩:=hg _ _ hy;have e2:ev y=.pointer (some ⟨B.blk,B.base+off,none⟩):=by simpa using e1
     have hd:=hg _ _ hz;have hcs:=Zfd hd;obtain⟨sz,hsz,hw⟩:=Option.any_eq_true_iff_get .. |>.1 hc1 |> λ⟨h1,h2⟩=>(⟨_,Option.some_get h1 |>.symm,by simpa using h2⟩:∃sz,szOf P t=some sz∧sz=widths (unitsA s))
     obtain⟨k1,k2,k3,hbase⟩:=h.store ⟨hs k b hb,by simpa using hdd⟩ (by simpa using hro) hl hcs (by
      rw[Ybo]at hc2;rcases hc2 with h|h
      ·exact .inl (by simpa using h)
      ·exact .inr (Yaa h)) hB c
     rw[hbase,Yba]at e2;have hrun:=Zgu (P:=P) w B.blk off t (ev z) (Zpb hd) (by rw[<-Yaz];exact k3) (by rw[<-Yaz,hcs.len,<-hw];exact hsz) hcs.ones;refine⟨.skip,undef,_,ρ,?_,.inr ⟨rfl,rfl⟩,⟨[],rfl,rfl⟩,k1,k2⟩;unfold execOp;rw[ho];simp only[e2,Yar,hrun,Yag,Yau]
    ·cases he
   ·cases he
  ·cases he
 ·rename_i t l y ho
  cases hl:get l with
  | none=>rw[hl]at he;simp[makeS]at he
  | some sl =>
    cases hy:get y with
    | none=>rw[hl,hy]at he;unfold makeS at he;split at he<;>first|cases he|(rename_i e;cases e)
    | some sy =>
      rw[hl,hy]at he;have hc':c'=c+1:=by
       unfold makeS at he;repeat' (split at he<;>try cases he)
       rfl
      subst hc';exact Zuz h hn (hg _ _ hl) (hg _ _ hy) he (by unfold execOp;rw[ho])
 ·rename_i s y t tx ho
  cases hl:get s with
  | none =>
    rw[hl]at he;unfold appendS at he;repeat' (split at he)
    all_goals first|contradiction|(simp[Zm2]at he;done)
  | some sl =>
    cases hy:get y with
    | none =>
      rw[hl,hy]at he;unfold appendS at he;have:∀n us size,newsS bkR size none≠some (n,us):=λn us size hh=>by simp[newsS]at hh
      repeat' (split at he)
      all_goals first|contradiction|(exfalso;apply this;assumption)
    | some sy =>
      rw[hl,hy]at he;obtain⟨v,w',ρ',q1,q2,q3,q4⟩:=Zpa (ty:=o.type) h hs (hg _ _ hl) (hg _ _ hy) he hn;refine⟨_,v,w',ρ',?_,.inl rfl,q2,q3,q4⟩;unfold execOp;simp only[ho,resolve,Yar,Yau,Yag,invoke,builtin];simp only[Yev,Ybz,Yfp,Yar,q1,Yag,Yau]
 ·rename_i s y t tx ho
  split at he
  ·rename_i e' htx
   cases hl:get s with
   | none =>
     rw[hl]at he;unfold copyS at he;repeat' (split at he)
     all_goals contradiction
   | some sl =>
     cases hy:get y with
     | none =>
       rw[hl,hy]at he;unfold copyS at he;have:∀n us size,newsS bkR size none≠some (n,us):=λn us size hh=>by simp[newsS]at hh
       repeat' (split at he)
       all_goals first|contradiction|(exfalso;apply this;assumption)
     | some sy =>
       rw[hl,hy]at he;have hc':c'=c:=by
        unfold copyS at he;split at he
        ·split at he
         ·split at he
          ·split at he
           ·split at he
            ·cases he
            ·obtain⟨l,hl,e⟩:=Yad.1 he
             cases e;rfl
           ·cases he
          ·cases he
         ·cases he
        ·cases he
       refine Zu0 (ty:=o.type) h hs htx (hg _ _ hl) (hg _ _ hy) he ?_;unfold execOp;simp only[ho,resolve,invoke,builtin,Yev,Ybz,Yfp];rfl
  ·cases he
 ·obtain⟨y,hy,e⟩:=Yad.1 he
  cases e;obtain⟨v,h1,h2⟩:=Zk2 (P:=P) hg (λk b hk=>h.bkOk k b (hs k b hk)) hy;exact⟨_,v,w,ρ,h1,.inl rfl,h2,h,Evo.refl _ _ _ _ _⟩
end
end
end Go.Ex
