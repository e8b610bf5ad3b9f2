/- Contracts of package paraxial,and a verified evaluator. Part 19 of 28. No condition beside the row. -/
import Derived.Test.YtfgmlkjibdegfaaGreatDoorA05
import Derived.Test.YtfgmlkjibdegfaaGreatDoorA13
import Derived.Test.YtfgmlkjibdegfaaGreatDoorA17
set_option linter.unusedVariables false
set_option linter.unusedSimpArgs false
set_option maxRecDepth 100000
set_option maxHeartbeats 4000000
namespace Go.Proofs.W
open Go.RowKit Go.Mono
theorem Zj6:(∀args w,(callFunc 203 args).run Tryz.prog w=.ok (.enter 203 args) w)∧(∀args w,(callFunc 205 args).run Tryz.prog w=.ok (.enter 205 args) w)∧(∀args w,(callFunc 207 args).run Tryz.prog w=.ok (.enter 207 args) w)∧(∀args w,(callFunc 208 args).run Tryz.prog w=.ok (.enter 208 args) w)∧(∀args w,(callFunc 209 args).run Tryz.prog w=.ok (.enter 209 args) w)∧(∀args w,(callFunc 210 args).run Tryz.prog w=.ok (.enter 210 args) w):=
 ⟨Go.Proofs.enters_of Tryz.func203 Zk rfl,Go.Proofs.enters_of Tryz.func205 Zk rfl,Go.Proofs.enters_of Tryz.func207 Zk rfl,Go.Proofs.enters_of Tryz.func208 Zk rfl,Go.Proofs.enters_of Tryz.func209 Zk rfl,Go.Proofs.enters_of Tryz.func210 Zk rfl⟩
def vG:Nat->Nat:=λi=>if i=0 then 203 else if i=1 then 205 else if i=2 then 207 else if i=3 then 208 else if i=4 then 209 else 210
def vF (B:Nat):Nat->Array Value:=λi=>if i<2 then #[] else #[.pointer (some ⟨B,0,none⟩)]
def vC (A:Nat):Nat->Array Value:=λi=>if i<2 then #[.pointer (some ⟨A,0,none⟩)] else #[]
theorem Ztf (B:Nat) (w:World)
  (h1:∀A W,Below w.heap.size w W->Box W A 265 #[.pointer (some ⟨B,0,none⟩)]->Calls Tryz.prog 203 #[.pointer (some ⟨A,0,none⟩)] W λe w'=>e=.returned (.bool true)∧Below W.heap.size W w')
  (h2:∀A W,Below w.heap.size w W->Box W A 265 #[.pointer (some ⟨B,0,none⟩)]->Calls Tryz.prog 205 #[.pointer (some ⟨A,0,none⟩)] W λe w'=>e=.returned (.bool true)∧Below W.heap.size W w')
  (h3:∀W,Below w.heap.size w W->Calls Tryz.prog 207 #[.pointer (some ⟨B,0,none⟩)] W λe w'=>e=.returned (.bool true)∧Below W.heap.size W w')
  (h4:∀W,Below w.heap.size w W->Calls Tryz.prog 208 #[.pointer (some ⟨B,0,none⟩)] W λe w'=>e=.returned (.bool true)∧Below W.heap.size W w')
  (h5:∀W,Below w.heap.size w W->Calls Tryz.prog 209 #[.pointer (some ⟨B,0,none⟩)] W λe w'=>e=.returned (.bool true)∧Below W.heap.size W w')
  (h6:∀W,Below w.heap.size w W->Calls Tryz.prog 210 #[.pointer (some ⟨B,0,none⟩)] W λe w'=>e=.returned (.bool true)∧Below W.heap.size W w') :
  Calls Tryz.prog 181 #[.pointer (some ⟨B,0,none⟩)] w λe w'=>e=.returned (.bool true)∧Below w.heap.size w w':=by
 have hmf:∀(fn:Fn) (first cap:Array Value) (w:World),(Instr.makeFunc fn first cap).run Tryz.prog w=.ok (.func fn first cap) w:=λ_ _ _ _=>rfl;go_enter Tryz.func181,Tryz.ntmps181
 go_wp2_with fail
 refine Zbi λW hB hs b0 b1=>?_;obtain⟨e1,e2,e3,e4,e5,e6⟩:=Zj6;refine(Zvm 6 6 _ vG (vF B) (vC w.heap.size) W ⟨Zo,Zo,λ_=>⟨_,_,rfl,b1.lt,λi j hi hj=>?_⟩⟩ (λi hi=>?_) (λi hi W' hW=>?_)).mono ?_
 ·obtain rfl:j=0:=by omega
  rw[b1.cell];rcases(by omega:i=0∨i=1∨i=2∨i=3∨i=4∨i=5) with rfl|rfl|rfl|rfl|rfl|rfl<;>rfl
 ·rcases(by omega:i=0∨i=1∨i=2∨i=3∨i=4∨i=5) with rfl|rfl|rfl|rfl|rfl|rfl
  ·exact e1
  ·exact e2
  ·exact e3
  ·exact e4
  ·exact e5
  ·exact e6
 ·have hBW:=Zaa hB hW
  rcases(by omega:i=0∨i=1∨i=2∨i=3∨i=4∨i=5) with rfl|rfl|rfl|rfl|rfl|rfl
  ·exact h1 _ W' hBW (b0.below hW)
  ·exact h2 _ W' hBW (b0.below hW)
  ·exact h3 W' hBW
  ·exact h4 W' hBW
  ·exact h5 W' hBW
  ·exact h6 W' hBW
 rintro e w' ⟨rfl,hb⟩;go_wp2
 go_ret
 exact⟨rfl,Zaa hB hb⟩
theorem Zj7 (nm:ByteArray) (di pu st pr:Int) (pf pw' ps pc:Option Addr) (nf cf n cw ns cs nc cc:Nat) (w:World)
  (hv:∀B W,Below w.heap.size w W->Box W B 249 #[.string nm,.int .i64 di,.int .i64 pu,.int .i64 st,.int .i64 pr,.slice pf nf cf,.slice pw' n cw,.slice ps ns cs,.slice pc nc cc]->Calls Tryz.prog 181 #[.pointer (some ⟨B,0,none⟩)] W λe w'=>e=.returned (.bool true)∧Below W.heap.size W w') :
  Calls Tryz.prog 139 #[.agg #[.string nm,.int .i64 di,.int .i64 pu,.int .i64 st,.int .i64 pr,.slice pf nf cf,.slice pw' n cw,.slice ps ns cs,.slice pc nc cc]] w λe w'=>e=.returned (.int .i64 0)∧Below w.heap.size w w':=by
 have hmf:∀(fn:Fn) (first cap:Array Value) (w:World),(Instr.makeFunc fn first cap).run Tryz.prog w=.ok (.func fn first cap) w:=λ_ _ _ _=>rfl;go_enter Tryz.func139,Tryz.ntmps139
 go_wp2_with fail
 refine Zbi λW hB hs b0 b1=>?_;refine(hv _ W hB b1).mono ?_;rintro e w' ⟨rfl,hb⟩;go_wp2
 go_ret
 exact⟨rfl,Zaa hB hb⟩
theorem Zln (z:Int) (h1:10000000<=z) (h2:z<=40000000) (w:World) :
  Calls Tryz.prog 141 #[.int .i64 z] w λe w'=>e=.returned (.bool true)∧w'=w:=by
 go_enter Tryz.func141,Tryz.ntmps141
 go_wp2
 go_ret
 exact⟨rfl,rfl⟩
theorem Ztg (n:Nat) (p:Option Addr) (c:Nat) (f:Nat->Int) (w:World) (h:RdF w p n c f) (hf:∀i,i<n->10000000<=f i∧f i<=40000000) :
  Calls Tryz.prog 143 #[.slice p n c,.func (.func 141) #[] #[]] w λe w'=>e=.returned (.bool true)∧w'=w:=by
 obtain⟨hc1,hn1,hx1⟩:=h;go_enter Tryz.func143,Tryz.ntmps143
 go_wp2
 go_loopw [9] (λa wr=>∃k:Nat,k<=n∧a=.int .i64 (k:Int)∧wr=w) (λa _=>(n-intOf a).toNat)
 case atStart=>exact⟨0,Yat _,rfl,rfl⟩
 case round=>
  obtain⟨k,hk,rfl,rfl⟩:=hrel;by_cases h0:k<n
  ·obtain⟨b,off,rfl,hb,hcell⟩:=hx1 Zo
   have a1:=hcell k Zo;obtain⟨f1,f2⟩:=hf k h0;clear hcell hx1 hf;have h0':(k:Int)<n:=Zo;go_wp2_with (go_at_call 141;refine(Zln _ f1 f2 _).mono ?_;rintro e w' ⟨rfl,rfl⟩)
   go_roundw
   case rel=>refine⟨k+1,Zo,?_⟩;simp
   case measure=>simp[intOf];omega
  ·obtain rfl:k=n:=by omega
   go_wp2
   go_ret
   exact⟨rfl,rfl⟩
end Go.Proofs.W
namespace Go.Mono
open Go.RowKit
instance (m z:Int):Decidable (In m z):=inferInstanceAs (Decidable (_∧_))
instance (z:Int):Decidable (isLetter z):=inferInstanceAs (Decidable (_∨_))
instance (s:ByteArray):Decidable (NameOk s):=inferInstanceAs (Decidable (_∧_∧_))
structure Lns where
 nm:ByteArray
 di:Int
 pu:Int
 st:Int
 pr:Int
 nf:Nat
 X:Nat->Int
 Y:Nat->Int
 nw:Nat
 L:Nat->Int
 W:Nat->Int
 ns:Nat
 S:Nat->Srf
 ix:Nat->Nat->Int
structure Plc where
 pf:Option Addr
 cf:Nat
 pw:Option Addr
 cw:Nat
 ps:Option Addr
 cs:Nat
 pc:Option Addr
 cc:Nat
 cp:Nat->Option Addr
 cl:Nat->Nat
 pi:Option Addr
 ci:Nat
 pI:Nat->Option Addr
 cI:Nat->Nat
def Lns.lvals (a:Lns) (q:Plc):Array Value:=
 #[.string a.nm,.int .i64 a.di,.int .i64 a.pu,.int .i64 a.st,.int .i64 a.pr,.slice q.pf a.nf q.cf,.slice q.pw a.nw q.cw,.slice q.ps a.ns q.cs,.slice q.pc 0 q.cc]
def Lns.ovals (a:Lns) (q:Plc):Array Value:=
 #[.string a.nm,.int .i64 a.di,.int .i64 a.pu,.int .i64 a.st,.int .i64 a.pr,.slice q.pf a.nf q.cf,.slice q.pw a.nw q.cw,.slice q.ps a.ns q.cs,.slice q.pc 0 q.cc,.slice q.pi a.ns q.ci]
structure LnsAt (w:World) (a:Lns) (q:Plc):Prop where
 fields:RdC w q.pf a.nf q.cf 2 (λi j=>if j=0 then .int .i64 (a.X i) else .int .i64 (a.Y i))
 waves:RdC w q.pw a.nw q.cw 2 (λi j=>if j=0 then .int .i64 (a.L i) else .int .i64 (a.W i))
 surfs:RdC w q.ps a.ns q.cs 22 (λi j=>((a.S i).cs (q.cp i) (q.cl i)).getD j undef)
 coat:∀i,i<a.ns->CoatAt w (q.cp i) (q.cl i) (a.S i).co
theorem LnsAt.below {w w':World} {a:Lns} {q:Plc} (h:LnsAt w a q) (hB:Below w.heap.size w w'):LnsAt w' a q:=⟨h.fields.below hB,h.waves.below hB,h.surfs.below hB,λi hi=>(h.coat i hi).below hB⟩
structure OptAt (w:World) (a:Lns) (q:Plc):Prop extends LnsAt w a q where
 index:RdC w q.pi a.ns q.ci 1 (λi _=>.slice (q.pI i) a.nw (q.cI i))
 row:∀i,i<a.ns->RdF w (q.pI i) a.nw (q.cI i) (a.ix i)
theorem OptAt.below {w w':World} {a:Lns} {q:Plc} (h:OptAt w a q) (hB:Below w.heap.size w w'):OptAt w' a q:=⟨h.toLnsAt.below hB,h.index.below hB,λi hi=>(h.row i hi).below hB⟩
structure Lns.ok (a:Lns):Prop where
 name:NameOk a.nm
 di:0<=a.di∧a.di<=1000000000
 pu:1<=a.pu∧a.pu<=1000000000
 nf:1<=a.nf∧a.nf<=5
 fr:∀i,i<a.nf->In (if a.di=0 then 1000000 else 1000000000) (a.X i)∧In (if a.di=0 then 1000000 else 1000000000) (a.Y i)
 fd:∀i k,k<i->i<a.nf->¬(a.X i=a.X k∧a.Y i=a.Y k)
 nw:1<=a.nw∧a.nw<=5
 pr:0<=a.pr∧a.pr<=a.nw-1
 wl:∀i,i<a.nw->300000<=a.L i∧a.L i<=2500000
 wm:∀i,i+1<a.nw->a.L i<a.L (i+1)
 ww:∀i,i<a.nw->1<=a.W i∧a.W i<=100
 ns:2<=a.ns∧a.ns<=16
 st:0<=a.st∧a.st<=a.ns-2
 sok:∀i,i<a.ns->(a.S i).ok
 image:(a.S (a.ns-1)).kind=1∧(a.S (a.ns-1)).glass = {data:=#[]}∧(a.S (a.ns-1)).thick=0∧(a.S (a.ns-1)).order=0∧(a.S (a.ns-1)).co=[]
 stop:(a.S a.st.toNat).kind≠3
def Lns.through (a:Lns) (i:Nat):Prop:=(a.S i).glass=mirror∨(a.S i).kind=3∨(a.S i).kind=4∨i+1=a.ns
def Lns.ahead (a:Lns) (i j:Nat):Int:=if i=0 then 10000000 else a.ix (i-1) j
structure Lns.opt (a:Lns):Prop where
 base:Lns.ok a
 ir:∀i j,i<a.ns->j<a.nw->10000000<=a.ix i j∧a.ix i j<=40000000
 it:∀i j,i<a.ns->a.through i->j<a.nw->a.ix i j=a.ahead i j
 ia:∀i j,i<a.ns->¬a.through i->(a.S i).glass = {data:=#[]}->j<a.nw->a.ix i j=10000000
section
section
variable {P:Program} {ops:Array Oper} {rest:List Oper} {o:Oper} {a:Act} {Q:Exit->Act->World->Prop}
end
end
end Go.Mono
namespace Go.Proofs.W
open Go.RowKit Go.Mono

theorem Zgx (B:Nat) (nm:ByteArray) (di pu pr:Int) (st:Nat) (pf pw' pc:Option Addr) (nf cf nw cw m cs cc b off:Nat) (A:Nat->Array Value) (hA:∀i,(A i).size=22) (w:World)
  (b0:Box w B 249 #[.string nm,.int .i64 di,.int .i64 pu,.int .i64 (st:Int),.int .i64 pr,.slice pf nf cf,.slice pw' nw cw,.slice (some ⟨b,off,none⟩) (m+1) cs,.slice pc 0 cc])
  (hr:RdC w (some ⟨b,off,none⟩) (m+1) cs 22 (λi j=>(A i).getD j undef)) (m1:1<=m) (m2:m+1<=16) (s1:st+1<=m)
  (hc:∀i,i<m+1->∀W,Below w.heap.size w W->Calls Tryz.prog 222 #[.agg (A i)] W λe w'=>e=.returned (.int .i64 0)∧Below W.heap.size W w')
  (him:∀W,Calls Tryz.prog 224 #[.agg (A m)] W λe w'=>e=.returned (.bool true)∧Below W.heap.size W w')
  (kd:Int) (hkd:(A st)[0]? = some (.int .i64 kd)) (hk3:(kd != 3)=true) :
  Calls Tryz.prog 209 #[.pointer (some ⟨B,0,none⟩)] w λe w'=>e=.returned (.bool true)∧Below w.heap.size w w':=by
 have cb0:=b0.cell;have lb0:=b0.lt;have hsz:(Tryz.prog.info? 117).map (·.size)=some 22:=Zk;have e1:(2:Int)<=(m:Int)+1:=Zo;have e2:(m:Int)+1<=16:=Zo;have e3:IntKind.i64.wrap ((m:Int)+1-2)=(m:Int)-1:=by rw[Ybi];omega
 have e4:(0:Int)<=(st:Int):=Zo;have e5:(st:Int)<=(m:Int)-1:=Zo;go_enter Tryz.func209,Tryz.ntmps209
 go_wp2_with first|(go_at_call 206;(with_reducible refine(Zbg _ _ _ e1 e2 _).mono ?_);rintro e w' ⟨rfl,rfl⟩)|(go_at_call 206;(with_reducible refine(Zbg _ _ _ e4 e5 _).mono ?_);rintro e w' ⟨rfl,rfl⟩)
 have h5:=hr;obtain⟨_,_,hx⟩:=h5;obtain⟨b',off',hp,hbl,hcell⟩:=hx Zo;obtain⟨rfl,rfl⟩:b=b'∧off=off':=by simpa using hp
 clear hx hp;dsimp only at hcell;have hcs:=Zob (m+1) cs (some ⟨b,off,none⟩) A hA 221 Zfx;have hsA:∀i,(Tryz.prog.info? 117).map (·.size)=some (A i).size:=λi=>by rw[hsz,hA]
 have fk:w'.cell? ⟨b,off+st*22,none⟩=some (.int .i64 kd):=by
  have:=hcell st 0 Zo Zo;rw[Yax,hkd]at this;simpa using this
 have hrange:∀w2,Below w'.heap.size w' w2->w2.rangeAt b (off+m*22) (A m).toList:=λw2 hw2 j v hv=>by
  have hj:j<22:=by
   have:=(Yan.1 hv).1;simpa[hA]using this
  refine((hw2.cell (p:=⟨b,off+m*22+j,none⟩) hbl).trans (hcell m j Zo hj)).trans ?_;rw[Yaq]at hv;rw[Yax,hv];rfl
 have m3:(m:Int)<=15:=Zo;have m4:(0:Int)<=m:=Zo;have m6:(m:Int)<(m:Int)+1:=Zo;have m5:IntKind.i64.wrap (m:Int)=m:=by rw[Ybi];omega
 have s3:(st:Int)<(m:Int)+1:=Zo;clear hcell hsz hkd e1 e2 e3;refine wp_region_held_drew (S:=λw2=>(∀b o,b<w'.heap.size->w2.cell? ⟨b,o,none⟩=w'.cell? ⟨b,o,none⟩)∧Below w'.heap.size w' w2) Zk (Za3 (Yae _ _).drew) (λhHeld=>?_);refine tk 0 (some 25) ?_;refine tk 1 (some 26) ?_;refine tk 2 (some 27) ?_;refine tk 3 (some 28) ?_;refine tk 4 (some 29) ?_;refine tk 5 (some 30) ?_;refine Mono.st 6 ?_;intro K hK;go_simp
 (refine(hcs _ (hr.below hHeld.2) (λi hi W hW=>Zj5 (A i) (hA i) W (λW2 h2=>hc i hi W2 (Zaa (Zaa hHeld.2 hW) h2)))).mono ?_;rintro e W1 ⟨rfl,hb⟩)
 refine kp hK (Za3 (Zaa hHeld.2 hb)) (λhHeld=>?_);clear hK K;clear hb;refine tk 7 (some 32) ?_;refine tk 8 (some 33) ?_;refine tk 9 (some 34) ?_;refine tk 10 (some 35) ?_;refine tk 11 (some 36) ?_;refine tk 12 (some 37) ?_;refine tk 13 (some 38) ?_;refine tk 14 (some 39) ?_;refine tk 15 (some 40) ?_;refine tk 16 (some 41) ?_;refine tl 17 (some 42) rfl (.agg (A m)) (Zaj 117 _ rfl b (off+m*22) rfl (A m) (λw h=>hrange w h.2) _ Tryz.underlying117 rfl (hsA m)) ?_;refine Mono.st 18 ?_;intro K hK;go_simp
 (refine(him _).mono ?_;rintro e W2 ⟨rfl,hb⟩)
 refine kp hK (Za3 (Zaa hHeld.2 hb)) (λhHeld=>?_);clear hK K;clear hb;refine tk 19 (some 44) ?_;refine tk 20 (some 45) ?_;refine tk 21 (some 46) ?_;refine tk 22 (some 47) ?_;refine tk 23 (some 48) ?_;refine tk 24 (some 49) ?_;refine tk 25 (some 50) ?_;refine tk 26 (some 51) ?_;refine tk 27 (some 52) ?_;refine tk 28 (some 53) ?_;refine tk 29 (some 54) ?_;refine tk 30 (some 55) ?_;refine tk 31 (some 56) ?_;refine tk 32 (some 57) ?_;refine tk 33 (some 58) ?_;refine tk 34 (some 59) ?_;refine tk 35 (some 60) ?_;refine tk 36 (some 2) ?_;refine wpAnyH_done Zk ?_ _;go_wp2
 go_ret
 exact⟨rfl,hHeld.2⟩
end Go.Proofs.W
namespace Go.Mono
open Go.RowKit

end Go.Mono
namespace Go.Proofs.W
open Go.RowKit Go.Mono
theorem Ztk (p q:Option Addr) (n m c1 c2:Nat) (f g:Nat->Int) (w:World) (h1:RdF w p n c1 f) (h2:RdF w q m c2 g) :
  Calls Tryz.prog 112 #[.slice p n c1,.slice q m c2] w λe w'=>∃r:Bool,e=.returned (.bool r)∧(r=true↔n=m∧∀i,i<n->f i=g i)∧∃k,w'=w.drewN k:=by
 obtain⟨hc1,hn1,hx1⟩:=h1;obtain⟨hc2,hn2,hx2⟩:=h2;by_cases hnm:n=m
 ·subst hnm
  go_enter Tryz.func112,Tryz.ntmps112
  go_wp2
  go_loopw [13] (λa wr=>∃k:Nat,k<=n∧a=.int .i64 (k:Int)∧(∀i,i<k->f i=g i)∧∃j,wr=w.drewN j) (λa _=>(n-intOf a).toNat)
  case atStart=>exact⟨0,Yat _,rfl,λi hi=>Zo,0,rfl⟩
  case round=>
   obtain⟨k,hk,rfl,ht,j,rfl⟩:=hrel;have HT:=Yah ht;clear ht;by_cases h0:k<n
   ·obtain⟨b,off,rfl,hb,hcell⟩:=hx1 Zo
    obtain⟨b2,off2,rfl,hb2,hcell2⟩:=hx2 Zo;have a1:=hcell k Zo;have a2:=hcell2 k Zo;clear hcell hcell2 hx1 hx2;have h0':(k:Int)<n:=Zo;by_cases hfg:f k=g k
    ·have hq:(f k != g k)=false:=by simpa using hfg
     have HF:=Yah hfg;clear hfg;go_wp2
     go_quiet (fail)
     go_wp2
     go_roundw
     case rel=>
      refine⟨k+1,Zo,Zs,λi hi=>?_,_,rfl⟩;by_cases h:i<k
      ·exact HT.out i h
      ·obtain rfl:i=k:=by omega
       exact HF.out
     case measure=>simp[intOf];omega
    ·have hq:(f k != g k)=true:=by simpa using hfg
     have HF:=Yah hfg;clear hfg;go_wp2
     go_quiet (fail)
     go_wp2
     go_ret
     exact⟨false,rfl,⟨Zs,λh=>absurd (h.2 k h0) HF.out⟩,_,by rw[Ydc]⟩
   ·obtain rfl:k=n:=by omega
    go_wp2
    go_ret
    refine⟨true,rfl,?_,_,rfl⟩;simp only[true_and];first|exact HT.out|exact⟨trivial,HT.out⟩|(simp;exact HT.out)
 ·have hq:((n:Int) != m)=true:=by simp;omega
  have HN:=Yah hnm;clear hnm;go_enter Tryz.func112,Tryz.ntmps112
  go_wp2
  go_ret
  exact⟨false,rfl,⟨Zs,λh=>absurd h.1 HN.out⟩,0,rfl⟩
end Go.Proofs.W
