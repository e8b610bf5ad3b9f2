/- Contracts of package paraxial,and a verified evaluator. Part 28 of 28. No condition beside the row. -/
import Derived.Test.YtfgmlkjibdegfaaGreatDoorA25
import Derived.Test.YtfgmlkjibdegfaaGreatDoorA27
set_option linter.unusedVariables false
set_option linter.unusedSimpArgs false
set_option maxRecDepth 100000
set_option maxHeartbeats 4000000
namespace Go.Proofs.W
open Go.RowKit Go.Mono
section
open Go.Ex
def kO:Nat->Value:=λ_=>.bool false
theorem kO1 (i:Nat):(kO i).oneCell'=true:=rfl
section
variable (a:Lns) (q:Plc) (ns kb:Nat) (k:Int)
def obS (L:List Prop):List Prop:=(optU a q ns kb=optU a q ns kb)::(srfB a q ns=srfB a q ns)::(0<=k∧k<a.nw)::L
def obOf (n d:Int) (L:List Prop):List Prop:=inR n::inR d::(d≠0)::L
def obPw (s:Nat) (L:List Prop):List Prop:=obS a q ns kb k ((0<=(s:Int)∧(s:Int)<(ns:Int))::PowFits a k.toNat s::L)
def obIx (s:Nat) (L:List Prop):List Prop:=obS a q ns kb k ((0<=(s:Int)∧(s:Int)<(ns:Int))::L)
section
variable (y u:Rat)
def obBend (s:Nat) (L:List Prop):List Prop:=obPw a q ns kb k s (obOf 1 1 (Fits ((a.tr k.toNat y u (s+1)).1*a.pow k.toNat s)::Fits (Rat.divInt 1 1*((a.tr k.toNat y u (s+1)).1*a.pow k.toNat s))::Fits ((a.tr k.toNat y u (s+1)).2)::L))
def obMove (s:Nat) (L:List Prop):List Prop:=
 inK .i64 (1*(a.S s).thick)::obOf (1*(a.S s).thick) 1000000 (Fits (Rat.divInt (1*(a.S s).thick) 1000000*(a.tr k.toNat y u (s+1)).2)::obIx a q ns kb k s (((a.nI k.toNat s).num≠0)::Fits ((Rat.divInt (1*(a.S s).thick) 1000000*(a.tr k.toNat y u (s+1)).2)/a.nI k.toNat s)::Fits ((a.tr k.toNat y u (s+1)).1+((Rat.divInt (1*(a.S s).thick) 1000000*(a.tr k.toNat y u (s+1)).2)/a.nI k.toNat s))::L))
def obTrL (L:List Prop):Nat->Nat->List Prop
 | _,0=>L
 | 0,n+1=>obBend a q ns kb k y u 0 (obTrL L 1 n)
 | s+1,n+1=>obMove a q ns kb k y u s (obBend a q ns kb k y u (s+1) (obTrL L (s+2) n))
def obTrace (L:List Prop):List Prop:=obS a q ns kb k (obTrL a q ns kb k y u L 0 ns)
def obUnb (s i:Nat) (L:List Prop):List Prop:=obPw a q ns kb k s (obOf (-1) 1 (Fits ((a.bkn ns k.toNat y u i).1*a.pow k.toNat s)::Fits (Rat.divInt (-1) 1*((a.bkn ns k.toNat y u i).1*a.pow k.toNat s))::Fits ((a.bkn ns k.toNat y u i).2-Rat.divInt (-1) 1*((a.bkn ns k.toNat y u i).1*a.pow k.toNat s))::L))
def obUnm (t i:Nat) (L:List Prop):List Prop:=
 inK .i64 (-1*(a.S t).thick)::obOf (-1*(a.S t).thick) 1000000 (Fits (Rat.divInt (-1*(a.S t).thick) 1000000*((a.bkn ns k.toNat y u i).2-Rat.divInt (-1) 1*((a.bkn ns k.toNat y u i).1*a.pow k.toNat (t+1))))::obIx a q ns kb k t (((a.nI k.toNat t).num≠0)::Fits ((Rat.divInt (-1*(a.S t).thick) 1000000*((a.bkn ns k.toNat y u i).2-Rat.divInt (-1) 1*((a.bkn ns k.toNat y u i).1*a.pow k.toNat (t+1))))/a.nI k.toNat t)::Fits ((a.bkn ns k.toNat y u i).1+((Rat.divInt (-1*(a.S t).thick) 1000000*((a.bkn ns k.toNat y u i).2-Rat.divInt (-1) 1*((a.bkn ns k.toNat y u i).1*a.pow k.toNat (t+1))))/a.nI k.toNat t))::L))
def obBkL (L:List Prop):Nat->Nat->List Prop
 | 0,i=>obUnb a q ns kb k y u 0 i L
 | s+1,i=>obUnb a q ns kb k y u (s+1) i (obUnm a q ns kb k y u s i (obBkL L s (i+1)))
def obBack (L:List Prop):List Prop:=obS a q ns kb k (obBkL a q ns kb k y u L (ns-1) 0)
end
def obSlL (f:Nat->Rat) (L:List Prop):Nat->Nat->List Prop
 | _,0=>L
 | s,n+1=>obIx a q ns kb k s (((a.nI k.toNat s).num≠0)::Fits (f s/a.nI k.toNat s)::obSlL f L (s+1) n)
end
section
variable {a:Lns} (ha:a.opt) {q:Plc} {ns:Nat} (hns:a.ns=ns) {kb:Nat} {k:Int} (hk:0<=k∧k<a.nw) {L:List Prop}
include hk
theorem Zya (hL:AllP L):AllP (obS a q ns kb k L):=⟨rfl,rfl,hk,hL⟩
theorem Zx3 {s:Nat} (hs:s<ns) (hp:PowFits a k.toNat s) (hL:AllP L):AllP (obPw a q ns kb k s L):=Zya hk ⟨⟨Zo,Zo⟩,hp,hL⟩
theorem Zyg {s:Nat} (hs:s<ns) (hL:AllP L):AllP (obIx a q ns kb k s L):=Zya hk ⟨⟨Zo,Zo⟩,hL⟩
omit hk in
theorem Zxz {n d:Int} (hn:inR n) (hL:AllP L) (hd:inR d:=by exact⟨Zd,Zd⟩) (h0:d≠0:=by decide):AllP (obOf n d L):=⟨hn,hd,h0,hL⟩
omit hk in
include ha in
theorem Zx0 {s:Nat} (hs:s<a.ns) (j:Int) (hj:j=1∨j = -1):inR (j*(a.S s).thick):=by
 obtain⟨h1,h2⟩:=(ha.base.sok s hs).thick;rcases hj with rfl|rfl
 ·exact⟨Zo,Zo⟩
 ·exact⟨Zo,Zo⟩
include ha hns
theorem Zx4 {y u:Rat} (hf:TrFits a k.toNat y u) (hL:AllP L):∀n s,s+n=ns->AllP (obTrL a q ns kb k y u L s n)
 | 0,_,_=>by unfold obTrL;exact hL
 | n+1,0,h=>Zx3 hk Zo (hf.pow 0 Zo) (Zxz ⟨Zd,Zd⟩ ⟨hf.b1 0 Zo,hf.b2 0 Zo,hf.b3 0 Zo,Zx4 hf hL n 1 Zo⟩)
 | n+1,s+1,h=>⟨Zx0 ha Zo 1 (.inl rfl),Zxz (Zx0 ha Zo 1 (.inl rfl)) ⟨hf.m1 s Zo,Zyg hk Zo ⟨hf.num s Zo,hf.m2 s Zo,hf.m3 s Zo,
     Zx3 hk Zo (hf.pow (s+1) Zo) (Zxz ⟨Zd,Zd⟩ ⟨hf.b1 (s+1) Zo,hf.b2 (s+1) Zo,hf.b3 (s+1) Zo,Zx4 hf hL n (s+2) Zo⟩)⟩⟩⟩
theorem Zxw {y u:Rat} (hf:TrFits a k.toNat y u) (hL:AllP L):AllP (obTrace a q ns kb k y u L):=Zya hk (Zx4 ha hns hk hf hL ns 0 Zo)
omit hns in
theorem Zyb {y u:Rat} (hf:BkFits a k.toNat y u) (hL:AllP L):∀s i,s+i+1=a.ns->AllP (obBkL a q a.ns kb k y u L s i)
 | 0, i, h => by
   exact Zx3 hk Zo (hf.pow 0 Zo) (Zxz ⟨Zd,Zd⟩ ⟨hf.b1 i 0 Zo,hf.b2 i 0 Zo,hf.b3 i 0 Zo,hL⟩)
 | s + 1, i, h => by
   exact Zx3 hk Zo (hf.pow (s+1) Zo) (Zxz ⟨Zd,Zd⟩ ⟨hf.b1 i (s+1) Zo,hf.b2 i (s+1) Zo,hf.b3 i (s+1) Zo,
    Zx0 ha Zo (-1) (.inr rfl),Zxz (Zx0 ha Zo (-1) (.inr rfl)) ⟨hf.m1 i s Zo,Zyg hk Zo ⟨hf.num s Zo,hf.m2 i s Zo,hf.m3 i s Zo,Zyb hf hL s (i+1) Zo⟩⟩⟩)
theorem Zx5 {y u:Rat} (hf:BkFits a k.toNat y u) (hL:AllP L):AllP (obBack a q ns kb k y u L):=by
 have:=ha.base.ns.1;subst hns;exact Zya hk (Zyb ha hk hf hL (a.ns-1) 0 Zo)
theorem Zze {f:Nat->Rat} (hf:∀s,s<ns->Fits (f s/a.nI k.toNat s)) (hL:AllP L):∀n s,s+n=ns->AllP (obSlL a q ns kb k f L s n)
 | 0,_,_=>by unfold obSlL;exact hL
 | n+1,s,h=>Zyg hk Zo ⟨ha.nI_num Zo Zo,hf s Zo,Zze hf hL n (s+1) Zo⟩
end
theorem Zyh {a:Lns} (ha:a.opt) {q:Plc} {ns:Nat} (hns:a.ns=ns) {w:World} (ho:OptAt w a q):∃b off,q.ps=some ⟨b,off,none⟩∧∀D vs,VwOk D w vs ⟨117,srfsU a q 0 ns,b,off,srfsC a q 0 ns⟩:=by
 have hn:=ha.base.ns.1;obtain⟨_,_,h⟩:=ho.surfs;obtain⟨b,off,hp,hb,hc⟩:=h Zo;refine⟨b,off,hp,λD vs=>⟨hb,λj v hj=>?_,(Zxx ns 0).2 rfl⟩⟩;have hl:∀n s,(srfsC a q s n).length=n*22:=by
  intro n;induction n with
  | zero=>intro s;rfl
  | succ n ih=>intro s;unfold srfsC;rw[List.range'_succ,List.flatMap_cons,Yay,Yeb,Yfb];exact congrArg (· + 22) (ih (s+1))
 have hjl:j<ns*22:=by rw[<-hl ns 0];exact(Yan.1 hj).1
 have hg:=Zx1 a q ns 0 (j/22) (j%22) Zo Zo;rw[show j/22*22+j%22=j by omega,hj]at hg;cases hg;have:=hc (j/22) (j%22) Zo Zo;rw[show off+j/22*22+j%22=off+j by omega]at this;rw[Yba];exact this
theorem Zyo {a:Lns} {q:Plc} {ns kb:Nat} (hns:a.ns=ns) {w:World} {B b off:Nat} (hp:q.ps=some ⟨b,off,none⟩) (h:Box w B 45 (a.ovals q)) {D:Den} {vs:List Vw} (hk:nmV vs kb=some ⟨b,off,true,0,0⟩):VwOk D w vs ⟨45,optU a q ns kb,B,0,(a.ovals q).toList⟩:=by
 refine⟨h.lt,h.range,(Zx8 hns).2 ⟨_,hk,?_⟩⟩;obtain⟨pf,cf,pw,cw,ps,cs,pc,cc,cp,cl,pi,ci,pI,cI⟩:=q;subst hp;rfl
noncomputable def spN {a:Lns} (ha:a.opt) {q:Plc} {ns m:Nat} (hns:a.ns=ns) {w0:World} (ho:OptAt w0 a q) (hp:PowsAt w0 m):List (Ctr (qDen kO kO1) Tryz.prog w0 (λ_=>False)):=cLookN ha hns ho::cIdxN ha hns ho::cPowN ha hns ho hp::cR4Of w0 _::cOfT w0 _::spS w0 _
end
end Go.Proofs.W
namespace Go.Ex
theorem AllP.append:∀{l r:List Prop},AllP l->AllP r->AllP (l++r)
 | [],_,_,h=>h
 | _::_,_,⟨h1,h2⟩,h=>⟨h1,AllP.append h2 h⟩
end Go.Ex
namespace Go.Mono
def nq (n d:Int):Rat:=Rat.divInt n (1+d)
theorem Zt1 {n d:Int} (hn : -32768<=n∧n<=32767) (hd:0<=d∧d<=255):Hs 5 (nq n d):=Hs.divInt _ _ Zo (by
 have:(10:Nat) ^ 5=100000:=Zd;omega) (by
 have:(10:Nat) ^ 5=100000:=Zd;omega)
end Go.Mono
namespace Go.Proofs.W
open Go.RowKit Go.Mono
section
open Go.Ex
theorem Zy5 {a:Lns} (ha:a.opt) {k:Nat} (hk:k<a.nw) {K:Nat} (hK:K+K<=4000) {y u:Rat} (hy:Hs K y) (hu:Hs K u):TrFits a k y u:=by
 obtain⟨D,hD,d1,d2⟩:=Hs.two hy hu;exact Zoz ha hk (K:=K+K) hK hD d1 d2
def obNum (n d:Int) (L:List Prop):List Prop:=inK .i64 n::inK .i64 d::inK .i64 (1+d)::inR n::inR (1+d)::(0<1+d)::L
def NumD (n d:Int):Prop:=(-32768<=n∧n<=32767)∧(0<=d∧d<=255)
theorem Zc5 {n d:Int} (h:NumD n d) {L:List Prop} (hL:AllP L):AllP (obNum n d L):=by
 obtain⟨⟨h1,h2⟩,h3,h4⟩:=h;exact⟨(⟨Zo,Zo⟩:inR n),(⟨Zo,Zo⟩:inR d),(⟨Zo,Zo⟩:inR (1+d)),⟨Zo,Zo⟩,⟨Zo,Zo⟩,Zo,hL⟩
section
variable (a:Lns) (q:Plc)
def numB (n d:Int):Blk:=⟨32,[.sml .i16 n,.sml .u8 d],true,false,false⟩
def optBN (ns kb:Nat):Blk:=⟨45,optU a q ns kb,true,false,false⟩
end
end
end Go.Proofs.W
namespace Go.Ex
theorem Zwr {P:Program} {Q:Exit->Act->World->Prop} {c c':Code} {a:Act} {w:World} (h:c'.wp P Q a w) (e:c'=c):c.wp P Q a w:=e▸h
end Go.Ex
namespace Go.Proofs.W
open Go.RowKit Go.Mono
section
open Go.Ex
theorem Zns {D:Den} {vs:List Vw} {w:World} {b:Nat} {n d:Int} (h:Box w b 32 #[.int .i16 n,.int .u8 d]):VwOk D w vs ⟨32,[.sml .i16 n,.sml .u8 d],b,0,[.int .i16 n,.int .u8 d]⟩:=⟨h.lt,h.range,[_],_,rfl,rfl,[_],[],rfl,rfl,rfl⟩
theorem Zws {nw:Nat} (h:1<=nw):(if(nw:Int)>1 then(nw:Int) else 1)=nw:=by
 split<;>omega
end
end Go.Proofs.W
