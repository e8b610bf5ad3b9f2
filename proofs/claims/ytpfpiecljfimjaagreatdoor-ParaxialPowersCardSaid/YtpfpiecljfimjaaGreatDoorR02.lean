/- The references of chapters 13 and 17 over any valid optics. Part 2 of 5. No condition beside the row. -/
import Derived.Test.YtpfpiecljfimjaaGreatDoorA09
import Derived.Test.YtpfpiecljfimjaaGreatDoorA11
import Derived.Test.YtpfpiecljfimjaaGreatDoorA13
import Derived.Test.YtpfpiecljfimjaaGreatDoorA14
import Derived.Test.YtpfpiecljfimjaaGreatDoorA17
import Derived.Test.YtpfpiecljfimjaaGreatDoorA20
import Derived.Test.YtpfpiecljfimjaaGreatDoorA21
import Derived.Test.YtpfpiecljfimjaaGreatDoorA23
import Derived.Test.YtpfpiecljfimjaaGreatDoorA26
import Derived.Test.YtpfpiecljfimjaaGreatDoorD01
import Derived.Test.YtpfpiecljfimjaaGreatDoorR01
set_option linter.unusedVariables false
set_option linter.unusedSimpArgs false
set_option maxRecDepth 100000
set_option maxHeartbeats 4000000
namespace Go.Ex
open Go.RowKit Go.Mono
def lz (c:Bool) (k:Nat):Int:=bif c then -(k:Int) else k
end Go.Ex
namespace Go.Proofs.W
open Go.RowKit Go.Mono
section
open Go.Ex
section
variable {m:Nat} (hm:m<=100000) (w0:World) (X:Nat->Prop)
end
section
variable (n d:Int)
end
end
theorem Zvc {v1 v2:Value} {a b:Rat} (w:World) (h1:QtV 600 w v1 a) (h2:QtV 600 w v2 b) (hf:Fits (a-b)) :
  Calls Tryz.prog 98 #[v1,v2] w λe w'=>∃C,e=.returned (.tuple #[.agg C,.int .i64 0])∧QtV 600 w' (.agg C) (a-b)∧Below w.heap.size w w':=by
 have hr1:=λ(X:World) (hX:Ext w X)=>Zbq X (h1.ext hX);have hr2:=λ(X:World) (hX:Ext w X)=>Zbq X (h2.ext hX);have hm:=λ(X:World) (hX:Ext w X)=>Zp0 X (h2.ext hX) Zd;have ha:=λ(X:World) (hX:Ext w X)=>h1.ext hX;rw[show a-b=a + -b from Ygd ..]at hf ⊢;obtain⟨s1,p1,n1,c1,t1,q1,m1,d1,rfl,x1,x2⟩:=h1;obtain⟨s2,p2,n2,c2,t2,q2,m2,d2,rfl,y1,y2⟩:=h2;clear x1 x2 y1 y2;go_enter Tryz.func98,Tryz.ntmps98
 go_wp2_with fail
 refine Zbk λW hB hs b0 b1 bO=>?_;refine(hr1 W (.of_below hB)).mono ?_;rintro e W2 ⟨rfl,hb⟩;replace b0:=b0.below hb;replace b1:=b1.below hb;replace bO:=bO.below hb;replace hB:=Zaa hB hb;have cb0:=b0.cell;have lb0:=b0.lt;have fb0:=b0.frozen;have cb1:=b1.cell;have lb1:=b1.lt;have fb1:=b1.frozen;clear hb hr1 hs;go_wp2_with fail
 refine(hr2 W2 (.of_below hB)).mono ?_;rintro e W3 ⟨rfl,hb⟩;replace b0:=b0.below hb;replace b1:=b1.below hb;replace bO:=bO.below hb;replace hB:=Zaa hB hb;clear cb0 lb0 fb0 cb1 lb1 fb1;have cb0:=b0.cell;have lb0:=b0.lt;have fb0:=b0.frozen;have cb1:=b1.cell;have lb1:=b1.lt;have fb1:=b1.frozen;clear hb hr2;go_wp2_with fail
 refine wp_region_held_drew (S:=λw'=>(∀b o,b<W3.heap.size->b≠(w.heap.size+1+1)->w'.cell? ⟨b,o,none⟩=W3.cell? ⟨b,o,none⟩)∧KeepBut (w.heap.size+1+1) W3.heap.size W3 w') Zx (KeepBut.S (KeepBut.refl _ _).drew) (λhHeld=>?_);have hBel:Below W3.heap.size W3 W3.drew:=(Yae _ _).drew;refine tl 0 (some 15) rfl (.agg #[.bool s1,.slice p1 n1 c1,.bool t1,.slice q1 m1 d1]) (Zai 51 _ rfl w.heap.size 0 rfl  #[.bool s1,.slice p1 n1 c1,.bool t1,.slice q1 m1 d1] (λw h=>(h.2.box b0 b0.lt Zo).range) _ Tryz.underlying51 rfl Zah) ?_;refine tl 1 (some 16) rfl (.agg #[.bool s2,.slice p2 n2 c2,.bool t2,.slice q2 m2 d2]) (Zai 51 _ rfl (w.heap.size+1) 0 rfl  #[.bool s2,.slice p2 n2 c2,.bool t2,.slice q2 m2 d2] (λw h=>(h.2.box b1 b1.lt Zo).range) _ Tryz.underlying51 rfl Zah) ?_;refine Mono.stc 2 (some 17) (hm _ ((Ext.of_below hB).trans (.of_below hBel))) (λe Wn2 hR=>?_);obtain⟨V2,rfl,R2,hb2⟩:=hR;replace hBel:=Zaa hBel hb2;refine⟨(KeepBut.S (hHeld.2.call hb2)),λhHeld=>Mono.pt ?_⟩;refine Mono.stc 3 (some 18) (Zn2 _ (ha _ ((Ext.of_below hB).trans (.of_below hBel))) R2 Zd) (λe Wn3 hR=>?_);obtain⟨V3,rfl,R3,hb3⟩:=hR;replace hBel:=Zaa hBel hb3;replace R2:=R2.ext (.of_below hb3);refine⟨(KeepBut.S (hHeld.2.call hb3)),λhHeld=>Mono.pt ?_⟩;refine Mono.stc 4 (some 19) (Ze5 _ (R3.tight hf.1 hf.2)) (λe Wn4 hR=>?_);obtain⟨rfl,hb9⟩:=hR;have h9:=(R3.tight hf.1 hf.2).below hb9;obtain⟨C,rfl,zC,oC⟩:=h9.cells;replace hBel:=Zaa hBel hb9;replace R2:=R2.ext (.of_below hb9);replace R3:=R3.ext (.of_below hb9);refine⟨(KeepBut.S (hHeld.2.call hb9)),λhHeld=>Mono.pt ?_⟩;refine tk 5 (some 20) ?_;refine tk 6 (some 21) ?_;refine Zb5 (w.heap.size+1+1) 51 7 rfl rfl rfl rfl 0 C _ C Zx (λw' i u hS=>KeepBut.S (hS.2.set i u)) rfl rfl (bO.below hBel) hHeld (by rw[zC];exact Zah) (Ybl (by rw[zC];rfl)) oC (Zaf (by rw[zC];rfl)) (λWs hks bs hHeld=>?_);refine tk 8 (some 5) ?_;refine wpAnyH_done Zx ?_ _;have xS:=hks.ext (bO.below hBel) Zd;go_wp2
 refine bodyPost_ret (bs.resultsT rfl _ _ rfl Tryz.underlying51 rfl (by rw[zC];exact Zah)) rfl ?_;exact⟨_,rfl,h9.ext xS,hHeld.2.below hB Zo hB.size⟩
end Go.Proofs.W
namespace Go.Ex
open Go.RowKit Go.Mono
def Ctr.yes {D:Den} {P:Program} {w0:World} {X:Nat->Prop} (C:Ctr D P w0 X):Ctr D P w0 X where
 f:=C.f
 run:=λargs bk c orc=>match orc with
  | some true::r=>C.run args bk c r
  | _=>none
 cc:=λargs bk c orc r h=>by
  split at h
  ·exact C.cc _ _ _ _ _ h
  ·cases h
 sound:=λargs bk c orc r h hobl th ρ wc w vals hS hlt hn hargs=>by
  split at h
  ·exact C.sound _ _ _ _ _ h hobl th ρ wc w vals hS hlt hn hargs
  ·cases h
end Go.Ex
namespace Go.Proofs.W
open Go.RowKit Go.Mono
section
open Go.Ex
theorem Zm2 {x:Option OpR} {r:OpR} (h:x=some r) (hp:r.pan=none):x.map (λr=>(r.v,r.obl,r.wr,r.pan))=some (r.v,r.obl,r.wr,none):=by
 rw[h,<-hp];rfl
theorem Zp2 {a:Lns} (ha:a.opt) {ns:Nat} (hns:a.ns=ns) {w:World} {q:Plc} (ho:OptAt w a q) {sp:List (Ctr DO Tryz.prog w (λ_=>False))} {g:FuncId} {d:Nat} {rest:List SA} {orc:List (Option Bool)} {V:SV} {L:List Prop} (hr:(evF Tryz.prog sp [] d [] g (.agg (optU a q ns 0)::rest) [(0,srfB a q ns)] 1 1 orc).map (λr=>(r.v,r.obl,r.pan))=some (V,L,none)) (hL:AllP L) (hV:closedV V=true) {vals:List Value} (hd:∀ρ,denAs DO ρ w rest vals) :
  Calls Tryz.prog g (.agg (a.ovals q)::vals).toArray w λe w'=>∃v,e=.returned v∧(∀ρ,denV DO ρ w' V v)∧Below w.heap.size w w':=by
 obtain⟨b,off,hps,hv⟩:=Zmm ha hns ho;obtain⟨r,hr1,he⟩:=Yad.1 hr;simp only[Yco]at he;obtain⟨rfl,rfl,hpan⟩:=he;refine(Zet (D:=DO) Zd2 sp [] (vs:=[⟨115,srfsU a q 0 ns,b,off,srfsC a q 0 ns⟩]) [(0,srfB a q ns)] rfl rfl r.v r.obl r.wr (Zm2 hr1 hpan) hL (λv hm=>by rw[Ycd.1 hm];exact hv _ _) (vals:=.agg (a.ovals q)::vals) ?_).mono ?_
 ·refine⟨_,_,rfl,⟨(a.ovals q).toList,rfl,(Zex hns).2 ⟨⟨b,off,true,0,0⟩,rfl,?_⟩⟩,hd _⟩
  obtain⟨pf,cf,pw,cw,ps,cs,pc,cc,cp,cl,pi,ci,pI,cI⟩:=q;subst hps;rfl
 ·rintro e w' ⟨v,ρ',rfl,hden,hb,_⟩
  exact⟨v,rfl,λρ=>Zcd hV hden,hb⟩
theorem Zik {a:Lns} (ha:a.opt) {ns:Nat} (hns:a.ns=ns) {w:World} {q:Plc} (ho:OptAt w a q) {sp:List (Ctr DO Tryz.prog w (λ_=>False))} {g:FuncId} {d:Nat} {rest:List SA} {orc:List (Option Bool)} {V:SV} {L:List Prop} (hr:(evF Tryz.prog sp [] d [] g (.agg (optU a q ns 0)::rest) [(0,srfB a q ns)] 1 1 orc).map (λr=>(r.v,r.obl,r.pan))=some (V,L,none)) (hL:AllP L) (hV:closedV V=true) {vals:List Value} {ρ0:Nm} (hc:closedAs rest=true) (hd:denAs DO ρ0 w rest vals) :
  Calls Tryz.prog g (.agg (a.ovals q)::vals).toArray w λe w'=>∃v,e=.returned v∧(∀ρ,denV DO ρ w' V v)∧Below w.heap.size w w':=
 Zp2 ha hns ho hr hL hV λ_=>Zdu hc hd
def errQ (e:Int):SV:=.tup [.agg [.val (.bool false),.val (.slice none 0 0),.val (.bool false),.val (.slice none 0 0)],.one (.val (.int .i64 e))]
def inRng (a:Lns) (ns:Nat) (k s:Int):Prop:=(0<=k∧k<a.nw)∧0<=s∧s<(ns:Int)
instance (a:Lns) (ns:Nat) (k s:Int):Decidable (inRng a ns k s):=inferInstanceAs (Decidable (_∧_∧_))
section
variable {a:Lns} (ha:a.opt) {ns:Nat} (hns:a.ns=ns) {w0:World} {q:Plc} (ho:OptAt w0 a q)
noncomputable def runE (g:FuncId) (args:List SA) (orc:List (Option Bool)):Option (SV×List Prop×Option Value):=
 (evF Tryz.prog [cChkN ha hns ho] [] 24 [] g (.agg (optU a q ns 0)::args) [(0,srfB a q ns)] 1 1 orc).map λr=>(r.v,r.obl,r.pan)
def obE0 (a:Lns) (q:Plc) (ns:Nat) (L:List Prop):List Prop:=(optU a q ns 0=optU a q ns 0)::(srfB a q ns=srfB a q ns)::L
def lessE (x:Int) (b:Bool) (L:List Prop):List Prop:=(decide (x<0)=b)::L
def overE (x n:Int) (b:Bool) (L:List Prop):List Prop:=(decide (x>=n)=b)::L
def atErr (g:FuncId) (k s:Int):Prop:=
 runE ha hns ho g [.one (.sym k),.one (.sym s)] [some true]=some (errQ 2,obE0 a q ns (lessE k true []),none)∧
 runE ha hns ho g [.one (.sym k),.one (.sym s)] [some false,some true]=some (errQ 2,obE0 a q ns (lessE k false (overE k a.nw true [])),none)∧
 runE ha hns ho g [.one (.sym k),.one (.sym s)] [some false,some false,some true]=some (errQ 2,obE0 a q ns (lessE k false (overE k a.nw false (lessE s true []))),none)∧
 runE ha hns ho g [.one (.sym k),.one (.sym s)] [some false,some false,some false,some true]=some (errQ 2,obE0 a q ns (lessE k false (overE k a.nw false (lessE s false (overE s ns true [])))),none)
theorem Zy7 {a:Lns} (ha:a.opt) {w0:World} {q:Plc} (ho:OptAt w0 a q) (k s:Int) {ns:Nat} (hns:a.ns=ns) (h6:2<=ns∧ns<=6):atErr ha hns ho 11 k s:=by
 rcases Zwu h6 with rfl|rfl|rfl|rfl|rfl<;>exact⟨Zk,Zk,Zk,Zk⟩
theorem Zy8 {a:Lns} (ha:a.opt) {w0:World} {q:Plc} (ho:OptAt w0 a q) (k s:Int) {ns:Nat} (hns:a.ns=ns) (h6:2<=ns∧ns<=6):atErr ha hns ho 13 k s:=by
 rcases Zwu h6 with rfl|rfl|rfl|rfl|rfl<;>exact⟨Zk,Zk,Zk,Zk⟩
include ha hns ho in
theorem Zp3 {g:FuncId} {rest:List SA} {orc:List (Option Bool)} {V:SV} {L:List Prop} (hr:runE ha hns ho g rest orc=some (V,L,none)) (hL:AllP L) (hV:closedV V=true) {vals:List Value} {ρ0:Nm} (hc:closedAs rest=true) (hd:denAs DO ρ0 w0 rest vals) :
  Calls Tryz.prog g (.agg (a.ovals q)::vals).toArray w0 λe w'=>∃v,e=.returned v∧(∀ρ,denV DO ρ w' V v)∧Below w0.heap.size w0 w':=
 Zik ha hns ho hr hL hV hc hd
def cAtE (g:FuncId) (hg:∀{w:World} {q:Plc} (ho:OptAt w a q) (k s:Int),atErr ha hns ho g k s):Ctr DO Tryz.prog w0 (λ_=>False):=.plain g (λargs bk orc=>match args,orc with
    | [.agg l, x, y], some false :: r => match seesO a q ns l bk, Ex.intOf (some (.a x)), Ex.intOf (some (.a y)) with
      | some L,some (.i64,k,_),some (.i64,s,_)=>some (errQ 2,L++[decide (inRng a ns k s)=false],r)
      | _,_,_=>none
    | _,_=>none)<|by
 intro args bk orc v obl orc' hr hobl ρ w vals hfr hb hargs;split at hr
 ·rename_i l x y r
  split at hr
  ·rename_i L k s1 s s2 h1 h2 h3
   cases hr;obtain⟨v1,r1,rfl,⟨cs1,rfl,d1⟩,v2,r2,rfl,d2,v3,r3,rfl,d3,h5⟩:=hargs;obtain rfl:r3=[]:=h5;obtain rfl:=Za6 (D:=DO) (ρ:=ρ) (w:=w) h2 d2;obtain rfl:=Za6 (D:=DO) (ρ:=ρ) (w:=w) h3 d3;obtain⟨q',rfl,ho',_⟩:=Zb4 hns (by have:=ha.base.ns.1;omega) (ho.below hfr.below) h1 (λp hp=>hobl p (Ycy _ hp)) hb d1;have hn:¬inRng a ns k s:=of_decide_eq_false (hobl (decide (inRng a ns k s)=false) Zs);unfold inRng at hn;obtain⟨r1,r2,r3,r4⟩:=hg ho' k s;have key:∃orc L,runE ha hns ho' g [.one (.sym k),.one (.sym s)] orc=some (errQ 2,L,none)∧AllP L:=by
    by_cases k0:k<0
    ·exact⟨_,_,r1,rfl,rfl,decide_eq_true k0,trivial⟩
    ·by_cases k1:k>=a.nw
     ·exact⟨_,_,r2,rfl,rfl,decide_eq_false k0,decide_eq_true k1,trivial⟩
     ·by_cases s0:s<0
      ·exact⟨_,_,r3,rfl,rfl,decide_eq_false k0,decide_eq_false k1,decide_eq_true s0,trivial⟩
      ·exact⟨_,_,r4,rfl,rfl,decide_eq_false k0,decide_eq_false k1,decide_eq_false s0,decide_eq_true Zo,trivial⟩
   obtain⟨orc2,L2,hrun,hL⟩:=key;refine(Zp3 ha hns ho' hrun hL rfl (vals:=[.int .i64 k,.int .i64 s]) (ρ0:=λ_=>none) rfl ⟨_,_,rfl,rfl,_,_,rfl,rfl,rfl⟩).mono ?_;rintro e w' ⟨v,e1,hv,hbl⟩;exact⟨v,e1,hv ρ,hbl⟩
  ·cases hr
 ·cases hr
variable (h6:2<=ns∧ns<=6) {m:Nat} (hp:PowsAt w0 m)
def cIndexA:Ctr DO Tryz.prog w0 (λ_=>False):=Ctr.or (Ctr.yes (cIndexX ha hns h6 ho hp)) (cAtE ha hns ho 11 λho k s=>Zy7 ha ho k s hns h6) rfl
def cPowerA:Ctr DO Tryz.prog w0 (λ_=>False):=Ctr.or (Ctr.yes (cPowerX ha hns h6 ho hp)) (cAtE ha hns ho 13 λho k s=>Zy8 ha ho k s hns h6) rfl
end
end
end Go.Proofs.W
namespace Go.Ex
open Go.RowKit Go.Mono
def isInt:U->Bool
 | .sym _=>true
 | .val (.int .i64 _)=>true
 | _=>false
def isSl:U->Bool
 | .val (.slice _ _ _)=>true
 | .raw 1 [.slice _ _ _]=>true
 | .slc _ _ _ _=>true
 | _=>false
theorem Zvd {D:Den} {ρ:Nm} {w:World} {u:U} (h:isInt u=true) {c:List Value} (hd:denU D ρ w u c):∃z,c=[.int .i64 z]:=by
 unfold isInt at h;split at h
 ·exact⟨_,hd⟩
 ·exact⟨_,hd.1⟩
 ·cases h
theorem Zm3 {D:Den} {ρ:Nm} {w:World} {u:U} (h:isSl u=true) {c:List Value} (hd:denU D ρ w u c):∃p n k,c=[.slice p n k]:=by
 unfold isSl at h;split at h
 ·exact⟨_,_,_,hd.1⟩
 ·exact⟨_,_,_,hd.1⟩
 ·obtain⟨B,_,e⟩:=hd
  exact⟨_,_,_,e⟩
 ·cases h
def nilU:U:=.val (.slice none 0 0)
def fU (a:Lns) (q:Plc):U:=.raw 1 [.slice q.pf a.nf q.cf]
def wU (a:Lns) (q:Plc):U:=.raw 1 [.slice q.pw a.nw q.cw]
def lensU (a:Lns) (q:Plc) (pu F W S:U):List U:=[.val (.string a.nm),.sym a.di,pu,.sym a.st,.sym a.pr,F,W,S,.val (.slice q.pc 0 q.cc)]
def bntU (a:Lns) (q:Plc) (ns k:Nat):Nat->List U
 | 0=>lensU a q (.sym a.pu) (fU a q) (wU a q) (.slc k 0 ns q.cs)++[nilU]
 | 1=>lensU a q (.sym a.pu) (fU a q) nilU (.slc k 0 ns q.cs)++[.val (.slice q.pi a.ns q.ci)]
 | 2=>lensU a q (.sym a.pu) (fU a q) (wU a q) (.slc k 0 1 q.cs)++[.val (.slice q.pi a.ns q.ci)]
 | 3=>lensU a q (.val (.int .i64 0)) (fU a q) (wU a q) (.slc k 0 ns q.cs)++[.val (.slice q.pi a.ns q.ci)]
 | _=>lensU a q (.sym a.pu) nilU (wU a q) (.slc k 0 ns q.cs)++[.val (.slice q.pi a.ns q.ci)]
theorem Zls {D:Den} {ρ:Nm} {w:World} {a:Lns} {q:Plc} {pu F W S:U} (h1:isInt pu=true) (h2:isSl F=true) (h3:isSl W=true) (h4:isSl S=true) {cs:List Value} (hd:denL D ρ w (lensU a q pu F W S) cs) :
  ∃z pf nf cf pw nw cw ps ns cc,denU D ρ w pu [.int .i64 z]∧denU D ρ w F [.slice pf nf cf]∧denU D ρ w W [.slice pw nw cw]∧denU D ρ w S [.slice ps ns cc]∧cs=[.string a.nm,.int .i64 a.di,.int .i64 z,.int .i64 a.st,.int .i64 a.pr,.slice pf nf cf,.slice pw nw cw,.slice ps ns cc,.slice q.pc 0 q.cc]:=by
 obtain⟨_,d0,rfl,⟨rfl,_⟩,_,d1,rfl,rfl,_,d2,rfl,k2,_,d3,rfl,rfl,_,d4,rfl,rfl,_,d5,rfl,k5,_,d6,rfl,k6,_,d7,rfl,k7,_,d8,rfl,⟨rfl,_⟩,h⟩:=hd;obtain rfl:d8=[]:=h;obtain⟨z,rfl⟩:=Zvd h1 k2;obtain⟨pf,nf,cf,rfl⟩:=Zm3 h2 k5;obtain⟨pw,nw,cw,rfl⟩:=Zm3 h3 k6;obtain⟨ps,ns,cc,rfl⟩:=Zm3 h4 k7;exact⟨z,pf,nf,cf,pw,nw,cw,ps,ns,cc,k2,k5,k6,k7,rfl⟩
end Go.Ex
namespace Go.Proofs.W
open Go.RowKit Go.Mono
section
open Go.Ex
def cName (w0:World):Ctr DO Tryz.prog w0 (λ_=>False):=.plain 191 (λargs _ orc=>match args with
    | [.one (.val (.string s))]=>some (.a (.one (.val (.bool true))),[NameOk s],orc)
    | _=>none)<|by
 intro args bk orc v obl orc' hr hobl ρ w vals hfr hb hargs;split at hr
 ·rename_i s
  cases hr;obtain⟨v1,r1,rfl,d1,h3⟩:=hargs;obtain rfl:r1=[]:=h3;obtain rfl:v1=.string s:=by have:=d1.1;simpa using this
  obtain⟨h0,h1,h2⟩:=hobl (NameOk s) Zs;refine(Zl7 s h0 h1 h2 w).mono ?_;rintro e w' ⟨rfl,rfl⟩;exact⟨_,rfl,⟨rfl,rfl⟩,Yae _ _⟩
 ·cases hr
def bchB (a:Lns) (q:Plc) (pu F W S:U):Blk:=⟨236,lensU a q pu F W S,false,false,false⟩
def bchRun (a:Lns) (q:Plc) (pu F W S:U) (args:List SA) (bk:List (Nat×Blk)) (orc:List (Option Bool)):Option (SV×List Prop×List (Option Bool)):=
 match args with
 | [.one (.ptr k 0)]=>(bk.look k).map λb=>(.a (.one (.val (.bool true))),[b=bchB a q pu F W S],orc)
 | _=>none
def cBch {a:Lns} {q:Plc} {w0:World} {pu F W S:U} (h1:isInt pu=true) (h2:isSl F=true) (h3:isSl W=true) (h4:isSl S=true) (g:FuncId)
    (hg:∀B w z pf nf cf pw nw cw ps ns cc,Frm w0 (λ_=>False) w->(∃(ρ:Nm),denU DO ρ w F [.slice pf nf cf]∧denU DO ρ w W [.slice pw nw cw])->Box w B 236 #[.string a.nm,.int .i64 a.di,.int .i64 z,.int .i64 a.st,.int .i64 a.pr,.slice pf nf cf,.slice pw nw cw,.slice ps ns cc,.slice q.pc 0 q.cc]->Calls Tryz.prog g #[.pointer (some ⟨B,0,none⟩)] w λe w'=>e=.returned (.bool true)∧Below w.heap.size w w'):Ctr DO Tryz.prog w0 (λ_=>False):=.plain g (bchRun a q pu F W S)<|by
 intro args bk orc v obl orc' hr hobl ρ w vals hfr hb hargs;unfold bchRun at hr;split at hr
 ·rename_i k
  obtain⟨b,hk,e⟩:=Yad.1 hr;cases e;have hbe:b=bchB a q pu F W S:=hobl _ Zs;subst hbe;obtain⟨v1,r1,rfl,⟨B,hB,e1⟩,h5⟩:=hargs;obtain rfl:r1=[]:=h5;obtain⟨B',cs,hB',hH,hd,hro⟩:=hb _ _ hk rfl;rw[hB]at hB';cases hB';rcases hH with ⟨hr1,_⟩|⟨_,h0,rest,hs,_,hbx⟩
  ·rw[hr1]at hro
   cases hro
  ·obtain rfl:=hs rfl
   obtain⟨z,pf,nf,cf,pw,nw,cw,ps,ns,cc,_,kf,kw,_,rfl⟩:=Zls h1 h2 h3 h4 hd;obtain rfl:v1=.pointer (some ⟨B.blk,B.base+0,none⟩):=by simpa using e1
   rw[h0];refine(hg B.blk w z pf nf cf pw nw cw ps ns cc hfr ⟨ρ,kf,kw⟩ (by simpa[bchB]using hbx)).mono ?_;rintro e w' ⟨rfl,hbl⟩;exact⟨_,rfl,⟨rfl,rfl⟩,hbl⟩
 ·cases hr
section
variable {a:Lns} (ha:a.opt) {q:Plc} {w0:World} (ho:OptAt w0 a q) {pu W S:U} (h1:isInt pu=true) (h3:isSl W=true) (h4:isSl S=true)
def cBchF:Ctr DO Tryz.prog w0 (λ_=>False):=cBch (a:=a) (q:=q) (F:=fU a q) h1 rfl h3 h4 194<|by
 intro B w z pf nf cf pw nw cw ps ns cc hfr ⟨ρ,kf,_⟩ hb;obtain⟨e,_⟩:=kf;cases e;exact Zkl B _ _ _ _ _ _ _ _ _ _ _ _ _ _ _ _ _ a.X a.Y w hb (ho.below hfr.below).fields ha.base.nf.1 ha.base.nf.2 _ rfl ha.base.fr ha.base.fd
def cBchW:Ctr DO Tryz.prog w0 (λ_=>False):=cBch (a:=a) (q:=q) (F:=fU a q) (W:=wU a q) h1 rfl rfl h4 195<|by
 intro B w z pf nf cf pw nw cw ps ns cc hfr ⟨ρ,_,kw⟩ hb;obtain⟨e,_⟩:=kw;cases e;exact Znr B _ _ _ _ _ _ _ _ _ _ _ _ _ _ _ _ _ a.L a.W w hb (ho.below hfr.below).waves ha.base.nw.1 ha.base.nw.2 ha.base.pr.1 ha.base.pr.2 ha.base.wl ha.base.wm ha.base.ww
end
end
end Go.Proofs.W
