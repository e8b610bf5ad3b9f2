/- The law ParaxialPowers: Index and Power equal the reference,its walk by a verified evaluator,and its card. Part 2 of 9. No condition beside the row. -/
import Derived.Test.YtpfpiecljfimjaaGreatDoorA23
import Derived.Test.YtpfpiecljfimjaaGreatDoorA26
import Derived.Test.YtpfpiecljfimjaaGreatDoorD01
import Derived.Test.YtpfpiecljfimjaaGreatDoorR04
import Derived.Test.YtpfpiecljfimjaaGreatDoorR05
set_option linter.unusedVariables false
set_option linter.unusedSimpArgs false
set_option maxRecDepth 100000
set_option maxHeartbeats 4000000
namespace Go.Proofs.W
open Go.RowKit Go.Mono
theorem Ztk {m1 m2:Nat} {v1 v2:Value} {a b:Rat} (w:World) (h1:QtV m1 w v1 a) (h2:QtV m2 w v2 b) :
  Calls Tryz.prog 15 #[v1,v2] w λe w'=>e=.returned (.bool (decide (a=b)))∧Below w.heap.size w w':=by
 obtain⟨s1,p1,n1,c1,t1,q1,m1,d1,rfl,x1,x2⟩:=h1;obtain⟨s2,p2,n2,c2,t2,q2,m2,d2,rfl,y1,y2⟩:=h2;have hab:decide (a=b)=(decide (a.num=b.num)&&decide ((a.den:Int)=b.den)):=by
  rw[Ycx];simp only[decide_eq_true_eq,Yam];exact⟨λh=>by subst h;exact⟨rfl,rfl⟩,λh=>Rat.ext h.1 Zo⟩
 rw[hab];clear hab;have hs1:=λ(X:World) (hX:Ext w X)=>Ze4 X (x1.ext hX) (y1.ext hX);have hs2:=λ(X:World) (hX:Ext w X)=>Ze4 X (x2.ext hX) (y2.ext hX);generalize decide (a.num=b.num)=e1 at *;generalize decide ((a.den:Int)=b.den)=e2 at *;clear x1 x2 y1 y2;go_enter Tryz.func15,Tryz.ntmps15
 go_wp2_with fail
 refine Zbj λW hB hs b0 b1=>?_;refine(hs1 W (.of_below hB)).mono ?_;rintro e W2 ⟨rfl,hb⟩;replace b0:=b0.below hb;replace b1:=b1.below hb;replace hB:=Zaa hB hb;have cb0:=b0.cell;have lb0:=b0.lt;have fb0:=b0.frozen;have cb1:=b1.cell;have lb1:=b1.lt;have fb1:=b1.frozen;clear hs1 hb hs;cases e1
 ·go_wp2
  go_ret
  exact⟨rfl,hB⟩
 ·go_wp2_with (go_at_call 44;refine(hs2 W2 (.of_below hB)).mono ?_;rintro e W3 ⟨rfl,hb3⟩)
  go_ret
  exact⟨Zs,Zaa hB hb3⟩
section
open Go.Ex
theorem store_surfB (B off:Nat) (p:Option Addr) (n c:Nat) (w:World) (hc:(w.cell? ⟨B,off,none⟩).isSome=true) (hf:w.frozen? ⟨B,off,none⟩=false):(Instr.storeAt 35 (.pointer (some ⟨B,off,none⟩)) (.slice p n c)).run Tryz.prog w=.ok () (w.setCell ⟨B,off,none⟩ (.slice p n c)):=by
 obtain⟨x,hx⟩:=Yct.1 hc;clear hc;go_simp
theorem Zve (a:Lns) (q:Plc) (k:Int) (hk:0<=k∧k<=255) (h2:k.tmod 8=2) (b off:Nat) (hps:q.ps=some ⟨b,off,none⟩) (hcs:1<=q.cs) (w:World) :
  Calls Tryz.prog 9 #[.agg (a.ovals q),.int .u8 k] w λe w'=>e=.returned (.agg (bntC a q a.ns q.ps 2).toArray)∧Below w.heap.size w w':=by
 have hw2:IntKind.u8.wrap 2=2:=Zd;have hz:(Tryz.prog.info? 41).map (·.size)=some (a.ovals q).size:=Zk;have hz2:(Tryz.prog.info? 41).map (·.size)=some (bntC a q a.ns q.ps 2).toArray.size:=Zk;have g1:(bntC a q a.ns q.ps 2).toArray.all (·.oneCell')=true:=by simp[bntC,Value.oneCell']
 have c7:(a.ovals q)[7]? = some (.slice (some ⟨b,off,none⟩) a.ns q.cs):=by rw[<-hps];rfl
 have e7:(a.ovals q).setIfInBounds 7 (.slice (some ⟨b,off,none⟩) 1 q.cs)=(bntC a q a.ns q.ps 2).toArray:=by rw[hps];rfl
 have s7:7<(a.ovals q).size:=Yaa rfl;have gz:(bntC a q a.ns q.ps 2).toArray.size=10:=rfl;generalize a.ovals q=O at *;generalize (bntC a q a.ns q.ps 2).toArray=O2 at *;go_enter Tryz.func9,Tryz.ntmps9
 go_wp2_with first|(refine Zbm (T0:=41) λW hB hsW bO bR=>?_;have k7:=(bO.cell 7).trans c7;have lO:=bO.lt)|(refine Za2 rfl 35 _ _ rfl w.heap.size 7 41 O O2 (.slice (some ⟨b,off,none⟩) 1 q.cs) rfl rfl (store_surfB _ _ _ _ _) bO s7 e7 ?_;intro W5 hk b5;have bR5:=hk.box bR Zo Zo)|(refine Zac rfl 41 _ rfl _ rfl 41 _ b5 _ Tryz.underlying41 rfl hz2 ?_)|(refine Zab rfl 41 (.tmp 4) (.tmp 26) rfl (w.heap.size+1) 0 41 _ O2 O2 rfl rfl bR5 hz2 (Ybl (by rw[gz];rfl)) g1 (Zaf (by rw[gz];rfl)) ?_;intro W6 hk6 b6)
 refine bodyPost_ret (b6.results rfl _ _ rfl Tryz.underlying41 rfl hz2) rfl ?_;exact⟨rfl,hk6.below (hk.below hB Zo hB.size) Zo (by have:=hB.size;have:=hk.size;omega)⟩
def cBent2 {a:Lns} (ha:a.opt) {q:Plc} {ns:Nat} (hns:a.ns=ns) {w0:World} (ho:OptAt w0 a q):Ctr DO Tryz.prog w0 (λ_=>False):=.plain 9 (λargs bk orc=>match args with
    | [.agg [a0,a1,a2,a3,a4,a5,a6,.slc k o n c,a8,a9],.one (.sml .u8 u)]=>some (.a (.agg (bntU a q ns k 2)),([a0,a1,a2,a3,a4,a5,a6,.slc k o n c,a8,a9]=optU a q ns k)::(0<=u∧u<=255)::(u.tmod 8=2)::[],orc)
    | _=>none)<|by
 intro args bk orc v obl orc' hr hobl ρ w vals hfr hb hargs;split at hr
 ·rename_i a0 a1 a2 a3 a4 a5 a6 k o n c a8 a9 u
  cases hr;have e1:=hobl _ (Ycl ..);have hu:0<=u∧u<=255:=hobl _ Zs;have h2:u.tmod 8=2:=hobl _ Zs;obtain⟨v1,r1,rfl,⟨cs1,rfl,d1⟩,v2,r2,rfl,d2,h3⟩:=hargs;obtain rfl:r2=[]:=h3;have e2:v2=.int .u8 u:=by simpa[denA,denU]using d2
  subst e2;rw[e1]at d1;obtain⟨B,hB,rfl⟩:=(Zex hns).1 d1;have hc:=ho.surfs.1;have hn:=ha.base.ns.1;refine(Zve a {q with ps:=some ⟨B.blk,B.base,none⟩} u hu h2 B.blk B.base rfl (by show 1<=q.cs;omega) w).mono ?_;rintro e w' ⟨rfl,hbl⟩;refine⟨_,rfl,⟨_,rfl,(Zco 2).2 ⟨B,hB,?_⟩⟩,hbl⟩;subst hns;rfl
 ·cases hr
end
section
open Go.Ex
variable {K:Nat->Value} {hK:∀i,(K i).oneCell'=true}
def cR4Same (w0:World) (X:Nat->Prop):Ctr (qDen K hK) Tryz.prog w0 X:=.plain 15 sameRun<|by
    intro args bk orc v obl orc' hr hobl ρ w vals hfr hb hargs;unfold sameRun at hr;split at hr
    ·rename_i x y
     split at hr
     ·rename_i a b ha hb'
      cases hr;obtain⟨v1,r1,rfl,h1,v2,r2,rfl,h2,h3⟩:=hargs;obtain rfl:r2=[]:=h3;refine(Ztk w (Zeq ha h1).qt (Zeq hb' h2).qt).mono ?_;rintro e w' ⟨rfl,hbl⟩;exact⟨_,rfl,rfl,hbl⟩
     ·cases hr
    ·cases hr
end
end Go.Proofs.W
namespace Go.Ex
open Go.RowKit Go.Mono
def Ctr.no {D:Den} {P:Program} {w0:World} {X:Nat->Prop} (C:Ctr D P w0 X):Ctr D P w0 X where
 f:=C.f
 run:=λargs bk c orc=>match orc with
  | some false::r=>C.run args bk c r
  | _=>none
 cc:=λargs bk c orc r h=>by
  split at h
  ·exact C.cc _ _ _ _ _ h
  ·cases h
 sound:=λargs bk c orc r h hobl th ρ wc w vals hS hlt hn hargs=>by
  split at h
  ·exact C.sound _ _ _ _ _ h hobl th ρ wc w vals hS hlt hn hargs
  ·cases h
end Go.Ex
namespace Go.Proofs.W
open Go.RowKit Go.Mono
section
open Go.Ex
def smB (x y:Int):Blk:=⟨31,[.sml .u8 x,.sml .u8 y],true,false,false⟩
def bkPow (a:Lns) (q:Plc) (ns:Nat) (x y:Int):List (Nat×Blk):=[(0,smB x y),(1,optBN a q ns 2),(2,srfB a q ns)]
def tmPow (u k s:Int):List (Nat×SV):=[(1,.a (.one (.sml .u8 u))),(2,.a (.one (.sym k))),(3,.a (.one (.sym s))),(9,.a (.one (.ptr 0 0))),(11,.a (.one (.ptr 1 0)))]
noncomputable def cdPow:Code:=codeR (codeR (codeR (Tryz.f3.body.getD .skip)))
section
variable {a:Lns} (ha:a.opt) {ns m:Nat} (hns:a.ns=ns) (h6:2<=ns∧ns<=6) {w0:World} (q:Plc) (ho:OptAt w0 a q) (hN:SrfsNil a q) (hp:PowsAt w0 m)
noncomputable def spPow (j:Nat):List (Ctr DO Tryz.prog w0 (λ_=>False)):=
 [Ctr.or (Ctr.yes (cIndexA ha hns ho h6 hp)) (Ctr.no (cIndexB ha hns ho h6 j)) rfl,Ctr.or (Ctr.yes (cRIndexA ha hns h6 ho hN)) (Ctr.no (cRIndexB ha hns ho hN j)) rfl,
  Ctr.or (Ctr.yes (cPowerA ha hns ho h6 hp)) (Ctr.no (cPowerB ha hns ho h6 j)) rfl,Ctr.or (Ctr.yes (cRPowerA ha hns h6 ho hN)) (Ctr.no (cRPowerB ha hns ho hN j)) rfl,cR4Same w0 _]++bif Nat.beq j 2 then[cBent2 ha hns ho] else[]
noncomputable def runPow (j:Nat) (u k s x y:Int) (orc:List (Option Bool)):Option (Ot×List DF×Option SV×List Prop):=
 (evC Tryz.prog ⟨evF Tryz.prog (spPow ha hns h6 q ho hN hp j) [] 24,fctRun ([]:List (Fct DO Tryz.prog w0 (λ_=>False)))⟩ [] 111 FU false cdPow ⟨tmPow u k s,bkPow a q ns x y,3,3,orc,[]⟩).map (λr=>(r.1,r.2.1.df,r.2.1.tm.look 10,r.2.2))
end
end
section
open Go.Ex
section
variable (a:Lns) (q:Plc) (ns kb:Nat)
def obO (L:List Prop):List Prop:=(optU a q ns kb=optU a q ns kb)::(srfB a q ns=srfB a q ns)::L
def obPt (w s:Int) (L:List Prop):Bool->List Prop
 | true => obO a q ns kb ((0 <= w ∧ w < a.nw) :: (0 <= s ∧ s < (ns : Int)) :: obO a q ns kb ((decide (inRng a ns w s) = true) :: obO a q ns kb ((0 <= w ∧ w < a.nw) :: (0 <= s ∧ s < (ns : Int)) :: PowFits a w.toNat s.toNat ::
   obO a q ns kb ((decide (inRng a ns w s)=true)::PowFits a w.toNat s.toNat::(decide (a.nI w.toNat s.toNat=a.nI w.toNat s.toNat)=true)::(decide (a.pow w.toNat s.toNat=a.pow w.toNat s.toNat)=true)::L))))
 | false=>obO a q ns kb ((decide (inRng a ns w s)=false)::obO a q ns kb ((decide (inRng a ns w s)=false)::obO a q ns kb ((decide (inRng a ns w s)=false)::obO a q ns kb ((decide (inRng a ns w s)=false)::L))))
def obAtW (w s y:Int) (b1 b2:Bool) (L:List Prop):List Prop:=inK .i64 y::(((ns+1:Nat):Int)≠0)::obPt a q ns kb w s (obPt a q ns kb w (y.tmod ((ns+1:Nat):Int)) L b2) b1
def obSome (x:Int) (L:List Prop):List Prop:=inK .i64 x::(((1:Nat):Int)<=(a.nw:Int))::((a.nw:Int)≠0)::L
def obVal (k s x y:Int) (K1 S1 S2:Bool) (L:List Prop):List Prop:=obSome a x (obAtW a q ns kb k s y (K1&&S1) (K1&&S2) (obAtW a q ns kb (x.tmod (a.nw:Int)) s y S1 S2 L))
def obBnN (j:Nat) (L:List Prop):Nat->List Prop
 | 0=>L
 | n+1=>(bntU a q ns kb j=bntU a q ns kb j)::(srfB a q ns=srfB a q ns)::obBnN j L n
def obBnW (j m:Nat) (y:Int) (L:List Prop):List Prop:=inK .i64 y::(((m+1:Nat):Int)≠0)::obBnN a q ns kb j L 8
def obBn (x y:Int):Nat->List Prop
 | 1=>inK .i64 x::(((1:Nat):Int)≠0)::obBnW a q ns kb 1 ns y (obBnW a q ns kb 1 ns y [])
 | 2=>obSome a x (obBnW a q ns kb 2 1 y (obBnW a q ns kb 2 1 y []))
 | j=>obSome a x (obBnW a q ns kb j ns y (obBnW a q ns kb j ns y []))
end
def obU (a:Lns) (q:Plc) (ns kb:Nat) (u:Int) (L:List Prop):Nat->List Prop
 | 0=>(((8:Nat):Int)≠0)::((u.tmod ((8:Nat):Int)==((0:Nat):Int))=true)::L
 | 1=>(((8:Nat):Int)≠0)::((u.tmod ((8:Nat):Int)==((0:Nat):Int))=false)::((u.tmod ((8:Nat):Int)==((1:Nat):Int))=true)::L
 | 2=>(optU a q ns kb=optU a q ns kb)::(0<=u∧u<=255)::(u.tmod 8=2)::L
 | 3=>(((8:Nat):Int)≠0)::((u.tmod ((8:Nat):Int)==((0:Nat):Int))=false)::((u.tmod ((8:Nat):Int)==((1:Nat):Int))=false)::((u.tmod ((8:Nat):Int)==((2:Nat):Int))=false)::((u.tmod ((8:Nat):Int)==((3:Nat):Int))=true)::L
 | _=>(((8:Nat):Int)≠0)::((u.tmod ((8:Nat):Int)==((0:Nat):Int))=false)::((u.tmod ((8:Nat):Int)==((1:Nat):Int))=false)::((u.tmod ((8:Nat):Int)==((2:Nat):Int))=false)::((u.tmod ((8:Nat):Int)==((3:Nat):Int))=false)::L
def obPwr (a:Lns) (q:Plc) (ns kb:Nat) (u k s x y:Int) (K1 S1 S2:Bool):Nat->List Prop
 | 4=>obU a q ns kb u (obVal a q ns kb k s x y K1 S1 S2 (obVal a q ns kb k s x y K1 S1 S2 [])) 4
 | j=>obU a q ns kb u (obVal a q ns kb k s x y K1 S1 S2 (obBn a q ns kb x y j)) j
def orcPt (b:Bool) (r:List (Option Bool)):List (Option Bool):=some true::some b::some true::some b::some true::some b::some true::some b::bif b then some true::some true::r else r
def orcVal (K1 S1 S2:Bool) (r:List (Option Bool)):List (Option Bool):=some true::orcPt (K1&&S1) (orcPt (K1&&S2) (orcPt S1 (orcPt S2 r)))
def orcBn:Nat->List (Option Bool)
 | 1=>List.replicate 16 (some false)
 | _=>some true::List.replicate 16 (some false)
def orcU (r:List (Option Bool)):Nat->List (Option Bool)
 | 0=>some true::r
 | 1=>some false::some true::r
 | 2=>r
 | 3=>some false::some false::some false::some true::r
 | _=>some false::some false::some false::some false::r
def orcPow (K1 S1 S2:Bool):Nat->List (Option Bool)
 | 4=>orcU (orcVal K1 S1 S2 (orcVal K1 S1 S2 [])) 4
 | j=>orcU (orcVal K1 S1 S2 (orcBn j)) j
def yesPw (L:List Prop):Option (Ot×List DF×Option SV×List Prop):=some (.ret,[],some (.a (.one (.val (.bool true)))),L)
section
variable {a:Lns} (ha:a.opt) {ns m:Nat} (hns:a.ns=ns) (h6:2<=ns∧ns<=6) {w0:World} (q:Plc) (ho:OptAt w0 a q) (hN:SrfsNil a q) (hp:PowsAt w0 m) (u k s x y:Int)
def pwsRun (j:Nat) (K1 S1 S2:Bool):Prop:=runPow ha hns h6 q ho hN hp j u k s x y (orcPow K1 S1 S2 j)=yesPw (obPwr a q ns 2 u k s x y K1 S1 S2 j)
end
section
variable {a:Lns} (ha:a.opt) {q:Plc} {ns:Nat} (hns:a.ns=ns) {kb:Nat} {w s:Int} {L:List Prop}
include ha hns in
theorem Zjy {b:Bool} (h:decide (inRng a ns w s)=b) (hL:AllP L):AllP (obPt a q ns kb w s L b):=by
 cases b with
 | true =>
   have hr:inRng a ns w s:=of_decide_eq_true h;have hf:PowFits a w.toNat s.toNat:=Zmf ha (by have:=hr.2;omega) (by have:=hr.1;omega);exact⟨rfl,rfl,hr.1,hr.2,rfl,rfl,h,rfl,rfl,hr.1,hr.2,hf,rfl,rfl,h,hf,decide_eq_true rfl,decide_eq_true rfl,hL⟩
 | false=>exact⟨rfl,rfl,h,rfl,rfl,h,rfl,rfl,h,rfl,rfl,h,hL⟩
theorem Zod {j:Nat} (hL:AllP L):∀n,AllP (obBnN a q ns kb j L n)
 | 0=>hL
 | n+1=>⟨rfl,rfl,Zod hL n⟩
variable {u k x y:Int} (hu:0<=u∧u<=255) (hx:0<=x∧x<=255) (hy:0<=y∧y<=255)
include hy in
theorem Zlt:inK .i64 y:=(⟨Zo,Zo⟩:inR y)
include hy in
theorem Zc2 {j m:Nat} (hL:AllP L):AllP (obBnW a q ns kb j m y L):=⟨Zlt hy,Zo,Zod hL 8⟩
include ha hx in
theorem Zfd (hL:AllP L):AllP (obSome a x L):=⟨Zlt hx,by have:=ha.base.nw;omega,by have:=ha.base.nw;omega,hL⟩
include ha hx hy in
theorem Zjz:∀j,AllP (obBn a q ns kb x y j)
 | 1=>⟨Zlt hx,Zd,Zc2 hy (Zc2 hy trivial)⟩
 | 2=>Zfd ha hx (Zc2 hy (Zc2 hy trivial))
 | 0=>Zfd ha hx (Zc2 hy (Zc2 hy trivial))
 | j+3=>Zfd ha hx (Zc2 hy (Zc2 hy trivial))
include ha hns hx hy in
theorem Zvf {K1 S1 S2:Bool} (h1:decide (0<=k∧k<a.nw)=K1) (h2:decide (0<=s∧s<(ns:Int))=S1) (h3:decide (0<=y.tmod ((ns+1:Nat):Int)∧y.tmod ((ns+1:Nat):Int)<(ns:Int))=S2) (hL:AllP L):AllP (obVal a q ns kb k s x y K1 S1 S2 L):=by
 have hnw:=ha.base.nw;have hk:decide (0<=x.tmod (a.nw:Int)∧x.tmod (a.nw:Int)<a.nw)=true:=by
  rw[Ybr hx.1];exact decide_eq_true ⟨Ycc _ Zo,Ybu _ Zo⟩
 have hd:∀{w s:Int} {A B:Bool},decide (0<=w∧w<a.nw)=A->decide (0<=s∧s<(ns:Int))=B->decide (inRng a ns w s)=(A&&B):=by
  rintro w s A B rfl rfl;unfold inRng;exact Bool.decide_and _ _
 have d1:=hd h1 h2;have d2:=hd h1 h3;have d3:=hd hk h2;have d4:=hd hk h3;rw[Bool.true_and]at d3 d4;exact Zfd ha hx ⟨Zlt hy,Zo,Zjy ha hns d1 (Zjy ha hns d2 ⟨Zlt hy,Zo,Zjy ha hns d3 (Zjy ha hns d4 hL)⟩)⟩
end
end
end Go.Proofs.W
