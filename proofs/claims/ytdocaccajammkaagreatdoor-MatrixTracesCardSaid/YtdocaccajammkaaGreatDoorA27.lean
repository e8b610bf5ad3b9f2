/- Contracts of package matrix,and a verified evaluator. Part 27 of 28. No condition beside the row. -/
import Derived.Test.YtdocaccajammkaaGreatDoorA17
import Derived.Test.YtdocaccajammkaaGreatDoorA24
import Derived.Test.YtdocaccajammkaaGreatDoorA25
set_option linter.unusedVariables false
set_option linter.unusedSimpArgs false
set_option maxRecDepth 100000
set_option maxHeartbeats 4000000
namespace Go.Proofs.W
open Go.RowKit Go.Mono
section
open Go.Ex
def kO:Nat->Value:=λ_=>.bool false
theorem kO1 (i:Nat):(kO i).oneCell'=true:=rfl
section
variable (a:Lns) (q:Plc) (ns kb:Nat) (k:Int)
def obS (L:List Prop):List Prop:=(optU a q ns kb=optU a q ns kb)::(srfB a q ns=srfB a q ns)::(0<=k∧k<a.nw)::L
def obOf (n d:Int) (L:List Prop):List Prop:=inR n::inR d::(d≠0)::L
def obPw (s:Nat) (L:List Prop):List Prop:=obS a q ns kb k ((0<=(s:Int)∧(s:Int)<(ns:Int))::PowFits a k.toNat s::L)
def obIx (s:Nat) (L:List Prop):List Prop:=obS a q ns kb k ((0<=(s:Int)∧(s:Int)<(ns:Int))::L)
section
variable (y u:Rat)
def obBend (s:Nat) (L:List Prop):List Prop:=obPw a q ns kb k s (obOf 1 1 (Fits ((a.tr k.toNat y u (s+1)).1*a.pow k.toNat s)::Fits (Rat.divInt 1 1*((a.tr k.toNat y u (s+1)).1*a.pow k.toNat s))::Fits ((a.tr k.toNat y u (s+1)).2)::L))
def obMove (s:Nat) (L:List Prop):List Prop:=
 inK .i64 (1*(a.S s).thick)::obOf (1*(a.S s).thick) 1000000 (Fits (Rat.divInt (1*(a.S s).thick) 1000000*(a.tr k.toNat y u (s+1)).2)::obIx a q ns kb k s (((a.nI k.toNat s).num≠0)::Fits ((Rat.divInt (1*(a.S s).thick) 1000000*(a.tr k.toNat y u (s+1)).2)/a.nI k.toNat s)::Fits ((a.tr k.toNat y u (s+1)).1+((Rat.divInt (1*(a.S s).thick) 1000000*(a.tr k.toNat y u (s+1)).2)/a.nI k.toNat s))::L))
def obTrL (L:List Prop):Nat->Nat->List Prop
 | _,0=>L
 | 0,n+1=>obBend a q ns kb k y u 0 (obTrL L 1 n)
 | s+1,n+1=>obMove a q ns kb k y u s (obBend a q ns kb k y u (s+1) (obTrL L (s+2) n))
def obTrace (L:List Prop):List Prop:=obS a q ns kb k (obTrL a q ns kb k y u L 0 ns)
end
end
section
variable {a:Lns} (ha:a.opt) {q:Plc} {ns:Nat} (hns:a.ns=ns) {kb:Nat} {k:Int} (hk:0<=k∧k<a.nw) {L:List Prop}
include hk
theorem Zdf (hL:AllP L):AllP (obS a q ns kb k L):=⟨rfl,rfl,hk,hL⟩
theorem Zsb {s:Nat} (hs:s<ns) (hp:PowFits a k.toNat s) (hL:AllP L):AllP (obPw a q ns kb k s L):=Zdf hk ⟨⟨Zo,Zo⟩,hp,hL⟩
theorem Zjt {s:Nat} (hs:s<ns) (hL:AllP L):AllP (obIx a q ns kb k s L):=Zdf hk ⟨⟨Zo,Zo⟩,hL⟩
omit hk in
theorem Zbd {n d:Int} (hn:inR n) (hL:AllP L) (hd:inR d:=by exact⟨Zd,Zd⟩) (h0:d≠0:=by decide):AllP (obOf n d L):=⟨hn,hd,h0,hL⟩
omit hk in
include ha in
theorem Zju {s:Nat} (hs:s<a.ns) (j:Int) (hj:j=1∨j = -1):inR (j*(a.S s).thick):=by
 obtain⟨h1,h2⟩:=(ha.base.sok s hs).thick;rcases hj with rfl|rfl
 ·exact⟨Zo,Zo⟩
 ·exact⟨Zo,Zo⟩
include ha hns
theorem Zjv {y u:Rat} (hf:TrFits a k.toNat y u) (hL:AllP L):∀n s,s+n=ns->AllP (obTrL a q ns kb k y u L s n)
 | 0,_,_=>by unfold obTrL;exact hL
 | n+1,0,h=>Zsb hk Zo (hf.pow 0 Zo) (Zbd ⟨Zd,Zd⟩ ⟨hf.b1 0 Zo,hf.b2 0 Zo,hf.b3 0 Zo,Zjv hf hL n 1 Zo⟩)
 | n+1,s+1,h=>⟨Zju ha Zo 1 (.inl rfl),Zbd (Zju ha Zo 1 (.inl rfl)) ⟨hf.m1 s Zo,Zjt hk Zo ⟨hf.num s Zo,hf.m2 s Zo,hf.m3 s Zo,
     Zsb hk Zo (hf.pow (s+1) Zo) (Zbd ⟨Zd,Zd⟩ ⟨hf.b1 (s+1) Zo,hf.b2 (s+1) Zo,hf.b3 (s+1) Zo,Zjv hf hL n (s+2) Zo⟩)⟩⟩⟩
theorem Zpv {y u:Rat} (hf:TrFits a k.toNat y u) (hL:AllP L):AllP (obTrace a q ns kb k y u L):=Zdf hk (Zjv ha hns hk hf hL ns 0 Zo)
end
theorem Zfp {a:Lns} (ha:a.opt) {q:Plc} {ns:Nat} (hns:a.ns=ns) {w:World} (ho:OptAt w a q):∃b off,q.ps=some ⟨b,off,none⟩∧∀D vs,VwOk D w vs ⟨160,srfsU a q 0 ns,b,off,srfsC a q 0 ns⟩:=by
 have hn:=ha.base.ns.1;obtain⟨_,_,h⟩:=ho.surfs;obtain⟨b,off,hp,hb,hc⟩:=h Zo;refine⟨b,off,hp,λD vs=>⟨hb,λj v hj=>?_,(Ze1 ns 0).2 rfl⟩⟩;have hl:∀n s,(srfsC a q s n).length=n*22:=by
  intro n;induction n with
  | zero=>intro s;rfl
  | succ n ih=>intro s;unfold srfsC;rw[List.range'_succ,List.flatMap_cons,Yay,Yeb,Yfb];exact congrArg (· + 22) (ih (s+1))
 have hjl:j<ns*22:=by rw[<-hl ns 0];exact(Yan.1 hj).1
 have hg:=Zg6 a q ns 0 (j/22) (j%22) Zo Zo;rw[show j/22*22+j%22=j by omega,hj]at hg;cases hg;have:=hc (j/22) (j%22) Zo Zo;rw[show off+j/22*22+j%22=off+j by omega]at this;rw[Yba];exact this
theorem Zsc {a:Lns} {q:Plc} {ns kb:Nat} (hns:a.ns=ns) {w:World} {B b off:Nat} (hp:q.ps=some ⟨b,off,none⟩) (h:Box w B 40 (a.ovals q)) {D:Den} {vs:List Vw} (hk:nmV vs kb=some ⟨b,off,true,0,0⟩):VwOk D w vs ⟨40,optU a q ns kb,B,0,(a.ovals q).toList⟩:=by
 refine⟨h.lt,h.range,(Ze2 hns).2 ⟨_,hk,?_⟩⟩;obtain⟨pf,cf,pw,cw,ps,cs,pc,cc,cp,cl,pi,ci,pI,cI⟩:=q;subst hp;rfl
noncomputable def spN {a:Lns} (ha:a.opt) {q:Plc} {ns m:Nat} (hns:a.ns=ns) {w0:World} (ho:OptAt w0 a q) (hp:PowsAt w0 m):List (Ctr (qDen kO kO1) Tryz.prog w0 (λ_=>False)):=cLookN ha hns ho::cIdxN ha hns ho::cPowN ha hns ho hp::cR4Of w0 _::cOfT w0 _::spS w0 _
end
end Go.Proofs.W
namespace Go.Ex
open Go.RowKit Go.Mono
def Ctr.listT {D:Den} {P:Program} {w0:World} (f:FuncId) (T:TypeId) (run:List SA->List (Nat×Blk)->List (Option Bool)->Option (Nat×List U×List SA×List Prop×List (Option Bool)))
    (sound:∀args bk orc m l rest obl orc',run args bk orc=some (m,l,rest,obl,orc')->(∀p∈obl,p)->∀ρ w vals,Frm w0 (λ_=>False) w->BkOk D ρ w w bk->denAs D ρ w args vals->
     Calls P f vals.toArray w λe w'=>∃b off cp cs vs,e=.returned (.tuple (Value.slice (some ⟨b,off,none⟩) m cp::vs).toArray)∧m<=cp∧w.heap.size<=b∧b<w'.heap.size∧w'.rangeAt b off cs∧denL D ρ w' l cs∧denAs D ρ w' rest vs∧Below w.heap.size w w'):Ctr D P w0 (λ_=>False) where
 f:=f
 run:=λargs bk c orc=>match run args bk orc with
  | some (m,l,rest,obl,orc')=>some ⟨.tup (.one (.sli c 0 m)::rest),[(c,⟨T,l,true,false,false⟩)],obl,orc',c+1,c+1,none⟩
  | none=>none
 cc:=by
  intro args bk c orc r h;split at h
  ·cases h;exact Nat.le_succ _
  ·cases h
 sound:=by
  intro args bk c orc r h hobl th ρ wc w vals hS hlt hn hargs;split at h
  ·rename_i m l rest obl orc' hr
   cases h;refine(sound _ _ _ _ _ _ _ _ hr hobl ρ w vals hS.fr (λk b hk hd=>?_) (hargs.mono (Nm.le.refl _) hS.ext)).mono ?_
   ·obtain⟨B,cs,h1,h2,h3,h4⟩:=hS.bkOk k b hk hd
    exact⟨B,cs,h1,h2,h3.mono (Nm.le.refl _) hS.ext,h4⟩
   ·rintro e w' ⟨b,off,cp,cs,vs,rfl,hm,hwb,hbw,hrg,hl,hrest,hb⟩
    obtain⟨k1,k2⟩:=hS.call hb c c (λk b hk=>Nat.not_le.2 (hlt k b hk));have hc:=hn c (Yab _) (Yca c);have g1:=k1.view hc T hbw (λj B hj _=>by have:=hS.lt j B hj;omega) hrg hl hlt;refine⟨_,_,w',rfl,⟨_,rfl,_,_,rfl,⟨_,cp,Zbf _ _ _,hm,rfl⟩,hrest.mono (Zd2 hc) (Ext.refl _)⟩,g1,⟨Zd2 hc,k2.ext,k2.size,k2.os,k2.tape,k2.output,k2.loc,λj x hj=>?_,Nat.le_succ _,λj hj=>Zaw _ _ (by dsimp only at hj;omega)⟩⟩;rcases Zbr hj with ⟨rfl,rfl,_⟩|⟨e1,hj⟩
    ·exact .inr ⟨Yab _,Yca _,_,Zbf _ _ _,.inl hwb⟩
    ·exact .inl ⟨x,hj⟩
  ·cases h
def quosU:List U->Prop
 | []=>True
 | .quo _::l=>quosU l
 | _=>False
theorem Zhe {D:Den} {ρ ρ':Nm} {w:World}:∀{l:List U} {cs:List Value},quosU l->denL D ρ w l cs->denL D ρ' w l cs
 | [],_,_,h=>h
 | .quo _::l,_,hq,⟨c,d,e,h1,h2⟩=>⟨c,d,e,h1,Zhe hq h2⟩
end Go.Ex
namespace Go.Proofs.W
open Go.RowKit Go.Mono
section
open Go.Ex
def trU (a:Lns) (k:Nat) (y u:Rat):Nat->Nat->List U
 | _,0=>[]
 | s,n+1=>.quo (a.tr k y u (s+1)).1::.quo (a.tr k y u (s+1)).2::trU a k y u (s+1) n
theorem Zjw (a:Lns) (k:Nat) (y u:Rat):∀n s,quosU (trU a k y u s n)
 | 0,_=>trivial
 | n+1,s=>Zjw a k y u n (s+1)
section
variable {a:Lns} (ha:a.opt) (q:Plc) {ns m:Nat} {w0:World}
noncomputable def runP (hns:a.ns=ns) (ho:OptAt w0 a q) (hp:PowsAt w0 m) (f:FuncId) (args:List SA) (bk:List (Nat×Blk)) (c:Nat) (orc:List (Option Bool)):Option (SV×List Prop×List (Nat×Blk)×Option Value):=
 (evF Tryz.prog (spN ha hns ho hp) [] 24 [] f args bk c c orc).map λr=>(r.v,r.obl,r.wr,r.pan)
variable (ho:OptAt w0 a q) (hp:PowsAt w0 m) (k:Int) (y u:Rat)
noncomputable def trRun (hns:a.ns=ns):Prop:=runP ha q hns ho hp 27 [.agg (optU a q ns 0),.one (.sym k),.agg [.quo y],.agg [.quo u]] [(0,srfB a q ns)] 1 []=some (.tup [.one (.own (6+23*ns) ns 8),okV],obTrace a q ns 0 k y u [],[(6+23*ns,⟨80,trU a k.toNat y u 0 ns,false,true,false⟩)],none)
set_option maxRecDepth 100000
theorem Zx7 (hns:a.ns=2):trRun ha q ho hp k y u hns:=by unfold trRun;kernel_rfl
theorem Zx8 (hns:a.ns=3):trRun ha q ho hp k y u hns:=by unfold trRun;kernel_rfl
theorem Zx9 (hns:a.ns=4):trRun ha q ho hp k y u hns:=by unfold trRun;kernel_rfl
theorem Zya (hns:a.ns=5):trRun ha q ho hp k y u hns:=by unfold trRun;kernel_rfl
theorem Zyb (hns:a.ns=6):trRun ha q ho hp k y u hns:=by unfold trRun;kernel_rfl
def obAt (a:Lns) (q:Plc) (ns:Nat) (k s:Int) (L:List Prop):List Prop:=obS a q ns 0 k ((decide (s<0)=false)::(decide (s>=(ns:Int))=false)::obS a q ns 0 k ((0<=s∧s<(ns:Int))::L))
theorem Zyp (hns:a.ns=ns) (s:Int):runP ha q hns ho hp 15 [.agg (optU a q ns 0),.one (.sym k),.one (.sym s)] [(0,srfB a q ns)] 1 [some false,some false]=some (.tup [.agg [.quo (a.nI k.toNat s.toNat)],okV],obAt a q ns k s [],[],none):=Zk
theorem Zyq (hns:a.ns=ns) (s:Int):runP ha q hns ho hp 160 [.agg (optU a q ns 0),.one (.sym k),.one (.sym s)] [(0,srfB a q ns)] 1 [some false,some false]=some (.tup [.agg [.quo (a.pow k.toNat s.toNat)],okV],obAt a q ns k s [PowFits a k.toNat s.toNat],[],none):=Zk
end
theorem Zyc {p:Nat->Prop} (h2:p 2) (h3:p 3) (h4:p 4) (h5:p 5) (h6:p 6) {n:Nat} (hn:2<=n∧n<=6):p n:=by
 rcases(by omega:n=2∨n=3∨n=4∨n=5∨n=6) with rfl|rfl|rfl|rfl|rfl<;>assumption
end
end Go.Proofs.W
namespace Go.Ex
theorem AllP.append:∀{l r:List Prop},AllP l->AllP r->AllP (l++r)
 | [],_,_,h=>h
 | _::_,_,⟨h1,h2⟩,h=>⟨h1,AllP.append h2 h⟩
end Go.Ex
namespace Go.Mono
def nq (n d:Int):Rat:=Rat.divInt n (1+d)
theorem Zye {n d:Int} (hn : -32768<=n∧n<=32767) (hd:0<=d∧d<=255):Hs 5 (nq n d):=Hs.divInt _ _ Zo (by
 have:(10:Nat) ^ 5=100000:=Zd;omega) (by
 have:(10:Nat) ^ 5=100000:=Zd;omega)
end Go.Mono
namespace Go.Proofs.W
open Go.RowKit Go.Mono
section
open Go.Ex
theorem Zsg {a:Lns} (ha:a.opt) {k:Nat} (hk:k<a.nw) {K:Nat} (hK:K+K<=4000) {y u:Rat} (hy:Hs K y) (hu:Hs K u):TrFits a k y u:=by
 obtain⟨D,hD,d1,d2⟩:=Hs.two hy hu;exact Zpk ha hk (K:=K+K) hK hD d1 d2
def obNum (n d:Int) (L:List Prop):List Prop:=inK .i64 n::inK .i64 d::inK .i64 (1+d)::inR n::inR (1+d)::(0<1+d)::L
def NumD (n d:Int):Prop:=(-32768<=n∧n<=32767)∧(0<=d∧d<=255)
theorem Zgm {n d:Int} (h:NumD n d) {L:List Prop} (hL:AllP L):AllP (obNum n d L):=by
 obtain⟨⟨h1,h2⟩,h3,h4⟩:=h;exact⟨(⟨Zo,Zo⟩:inR n),(⟨Zo,Zo⟩:inR d),(⟨Zo,Zo⟩:inR (1+d)),⟨Zo,Zo⟩,⟨Zo,Zo⟩,Zo,hL⟩
section
variable (a:Lns) (q:Plc)
def numB (n d:Int):Blk:=⟨73,[.sml .i16 n,.sml .u8 d],true,false,false⟩
def optBN (ns kb:Nat):Blk:=⟨40,optU a q ns kb,true,false,false⟩
end
end
end Go.Proofs.W
namespace Go.Ex
theorem Zm1 {P:Program} {Q:Exit->Act->World->Prop} {c c':Code} {a:Act} {w:World} (h:c'.wp P Q a w) (e:c'=c):c.wp P Q a w:=e▸h
end Go.Ex
namespace Go.Proofs.W
open Go.RowKit Go.Mono
section
open Go.Ex
theorem Zvo {D:Den} {vs:List Vw} {w:World} {b:Nat} {n d:Int} (h:Box w b 73 #[.int .i16 n,.int .u8 d]):VwOk D w vs ⟨73,[.sml .i16 n,.sml .u8 d],b,0,[.int .i16 n,.int .u8 d]⟩:=⟨h.lt,h.range,[_],_,rfl,rfl,[_],[],rfl,rfl,rfl⟩
theorem Zm2 {nw:Nat} (h:1<=nw):(if(nw:Int)>1 then(nw:Int) else 1)=nw:=by
 split<;>omega
end
section
open Go.Ex
section
variable {a:Lns} (ha:a.opt) {ns:Nat} (hns:a.ns=ns) (h6:2<=ns∧ns<=6) {q:Plc} {w:World} {m:Nat} (ho:OptAt w a q) (hp:PowsAt w m) {k:Int} (hk:0<=k∧k<a.nw)
theorem Zmv {w:World} {B:Pl} {T:TypeId} {sp:Bool} {cs:List Value} (h:Holds w B T sp cs):w.rangeAt B.blk B.base cs:=λj v hj=>h.cell hj
theorem Zwy {w w':World} {ρ:Nm} {N n sz:Nat} {T:TypeId} {l:List U} {bk:List (Nat×Blk)} (hl:quosU l) {e:Ending} (hn:0<n)
  (h:∃v ρ',e=.returned v∧denV (qDen kO kO1) ρ' w' (.tup [.one (.own N n sz),okV]) v∧Below w.heap.size w w'∧ρ.le ρ'∧BkOk (qDen kO kO1) ρ' w' w' ([(N,⟨T,l,false,true,false⟩)]++bk)∧∀k b B,Liv ([(N,⟨T,l,false,true,false⟩)]++bk) k b->ρ' k=some B->(b.ro=false->w.heap.size<=B.blk)∧B.blk<w'.heap.size) :
  ∃b cp cs,e=.returned (.tuple #[.slice (some ⟨b,0,none⟩) n cp,.int .i64 0])∧n<=cp∧w.heap.size<=b∧b<w'.heap.size∧w'.rangeAt b 0 cs∧denL (qDen kO kO1) (λ_=>none) w' l cs∧Below w.heap.size w w':=by
 obtain⟨v,ρ',rfl,⟨vs,rfl,v1,r1,rfl,⟨B,hB,hcap,_,hbase,h1⟩,v2,r2,rfl,⟨h2,_⟩,h3⟩,hb,_,hbk,hliv⟩:=h;obtain rfl:r2=[]:=h3;have hlook:([(N,(⟨T,l,false,true,false⟩:Blk))]++bk).look N=some ⟨T,l,false,true,false⟩:=by simp[Zav]
 obtain⟨B',cs,hB',hH,hd,_⟩:=hbk N _ hlook rfl;rw[hB]at hB';cases hB';obtain⟨l1,l2⟩:=hliv N _ B ⟨hlook,rfl⟩ hB;cases h1;cases h2;have hr:=Zmv hH;rw[hbase]at hr;exact⟨B.blk,B.cap,cs,rfl,hcap,l1 rfl,l2,hr,Zhe hl hd,hb⟩
include ha hns h6 ho hp hk
theorem Zuw {y u:Rat} (hf:TrFits a k.toNat y u) {Vy Vu:Value} (dy:QV w Vy y) (du:QV w Vu u) :
  Calls Tryz.prog 27 #[.agg (a.ovals q),.int .i64 k,Vy,Vu] w λe w'=>∃b cp cs,e=.returned (.tuple #[.slice (some ⟨b,0,none⟩) ns cp,.int .i64 0])∧ns<=cp∧w.heap.size<=b∧b<w'.heap.size∧w'.rangeAt b 0 cs∧denL (qDen kO kO1) (λ_=>none) w' (trU a k.toNat y u 0 ns) cs∧Below w.heap.size w w':=by
 obtain⟨b,off,hps,hv⟩:=Zfp ha hns ho;have hr:trRun ha q ho hp k y u hns:=Zyc (p:=λn=>∀hns:a.ns=n,trRun ha q ho hp k y u hns) (Zx7 ha q ho hp k y u) (Zx8 ha q ho hp k y u) (Zx9 ha q ho hp k y u) (Zya ha q ho hp k y u) (Zyb ha q ho hp k y u) h6 hns;refine(Zky (D:=qDen kO kO1) Zdt (spN ha hns ho hp) [] (vs:=[⟨160,srfsU a q 0 ns,b,off,srfsC a q 0 ns⟩]) [(0,srfB a q ns)] rfl rfl _ _ _ hr (Zpv ha hns hk hf trivial) (λv hm=>by rw[Ycd.1 hm];exact hv _ _) (vals:=[.agg (a.ovals q),.int .i64 k,Vy,Vu]) ?_).mono λe w' h=>Zwy (Zjw _ _ _ _ _ _) Zo h;refine⟨_,_,rfl,⟨(a.ovals q).toList,rfl,(Ze2 hns).2 ⟨⟨b,off,true,0,0⟩,rfl,?_⟩⟩,_,_,rfl,rfl,_,_,rfl,den_quo.2 dy,_,_,rfl,den_quo.2 du,rfl⟩;obtain⟨pf,cf,pw,cw,ps,cs,pc,cc,cp,cl,pi,ci,pI,cI⟩:=q;subst hps;rfl
end
section
variable {a:Lns} (ha:a.opt) {q:Plc} {ns m:Nat} (hns:a.ns=ns) (h6:2<=ns∧ns<=6) {w0:World} (ho:OptAt w0 a q) (hp:PowsAt w0 m)
def cTraceX:Ctr (qDen kO kO1) Tryz.prog w0 (λ_=>False):=.listT 27 80 (λargs bk orc=>match args with
    | [.agg l, x, .agg y, .agg u] => match seesO a q ns l bk, Ex.intOf (some (.a x)), asQ y, asQ u with
      | some L,some (.i64,k,_),some y,some u=>some (ns,trU a k.toNat y u 0 ns,[okV],L++[0<=k∧k<a.nw,TrFits a k.toNat y u],orc)
      | _,_,_,_=>none
    | _=>none)<|by
 intro args bk orc n l rest obl orc' hr hobl ρ w vals hfr hb hargs;split at hr
 ·rename_i l1 x y u
  split at hr
  ·rename_i L k s y' u' h1 h2 h3 h4
   cases hr;obtain⟨v1,r1,rfl,⟨cs1,rfl,d1⟩,v2,r2,rfl,d2,v3,r3,rfl,d3,v4,r4,rfl,d4,h5⟩:=hargs;obtain rfl:r4=[]:=h5;obtain rfl:=Zbj (D:=qDen kO kO1) (ρ:=ρ) (w:=w) h2 d2;obtain⟨q',rfl,ho',_⟩:=Zd5 hns h6.1 (ho.below hfr.below) h1 (λp hp=>hobl p (Ycy _ hp)) hb d1;refine(Zuw ha hns h6 ho' (hp.below hfr.below) (hobl (0<=k∧k<a.nw) Zs) (hobl (TrFits a k.toNat y' u') Zs) (Zea h3 d3) (Zea h4 d4)).mono ?_;rintro e w' ⟨b,cp,cs,rfl,hm,hwb,hbw,hrg,hl,hbl⟩;exact⟨b,0,cp,cs,[.int .i64 0],rfl,hm,hwb,hbw,hrg,Zhe (Zjw _ _ _ _ _ _) hl,⟨_,[],rfl,⟨rfl,rfl⟩,rfl⟩,hbl⟩
  ·cases hr
 ·cases hr
def cAtX (g:FuncId) (f:Nat->Nat->Rat) (ob:Nat->Nat->List Prop) (hrun:∀{w:World} {q:Plc} (ho:OptAt w a q) (hp:PowsAt w m) (k s:Int),runP ha q hns ho hp g [.agg (optU a q ns 0),.one (.sym k),.one (.sym s)] [(0,srfB a q ns)] 1 [some false,some false]=some (.tup [.agg [.quo (f k.toNat s.toNat)],okV],obAt a q ns k s (ob k.toNat s.toNat),[],none)):Ctr (qDen kO kO1) Tryz.prog w0 (λ_=>False):=.plain g (λargs bk orc=>match args with
    | [.agg l, x, y] => match seesO a q ns l bk, Ex.intOf (some (.a x)), Ex.intOf (some (.a y)) with
      | some L,some (.i64,k,_),some (.i64,s,_)=>some (.tup [.agg [.quo (f k.toNat s.toNat)],okV],L++(0<=k∧k<a.nw)::(0<=s∧s<(ns:Int))::ob k.toNat s.toNat,orc)
      | _,_,_=>none
    | _=>none)<|by
 intro args bk orc v obl orc' hr hobl ρ w vals hfr hb hargs;split at hr
 ·rename_i l1 x y
  split at hr
  ·rename_i L k s1 s s2 h1 h2 h3
   cases hr;obtain⟨v1,r1,rfl,⟨cs1,rfl,d1⟩,v2,r2,rfl,d2,v3,r3,rfl,d3,h5⟩:=hargs;obtain rfl:r3=[]:=h5;obtain rfl:=Zbj (D:=qDen kO kO1) (ρ:=ρ) (w:=w) h2 d2;obtain rfl:=Zbj (D:=qDen kO kO1) (ρ:=ρ) (w:=w) h3 d3;obtain⟨q',rfl,ho',_⟩:=Zd5 hns h6.1 (ho.below hfr.below) h1 (λp hp=>hobl p (Ycy _ hp)) hb d1;have hk:=hobl (0<=k∧k<a.nw) Zs;have hs:=hobl (0<=s∧s<(ns:Int)) Zs;obtain⟨b,off,hps,hv⟩:=Zfp ha hns ho';have hL:∀{l:List Prop},(∀p∈l,p)->AllP l:=λ{l} h=>by
    induction l with
    | nil=>trivial
    | cons p r ih=>exact⟨h p (Ycl ..),ih λx hx=>h x (Ybs _ hx)⟩
   refine(Zky (D:=qDen kO kO1) Zdt (spN ha hns ho' (hp.below hfr.below)) [] (vs:=[⟨160,srfsU a q' 0 ns,b,off,srfsC a q' 0 ns⟩]) [(0,srfB a q' ns)] rfl rfl _ _ _ (hrun ho' (hp.below hfr.below) k s) (Zdf hk ⟨decide_eq_false Zo,decide_eq_false Zo,Zdf hk ⟨hs,hL λp hp=>hobl p (by simp[hp])⟩⟩) (λv hm=>by rw[Ycd.1 hm];exact hv _ _) (vals:=[.agg (a.ovals q'),.int .i64 k,.int .i64 s]) ?_).mono ?_
   ·refine⟨_,_,rfl,⟨(a.ovals q').toList,rfl,(Ze2 hns).2 ⟨⟨b,off,true,0,0⟩,rfl,?_⟩⟩,_,_,rfl,rfl,_,_,rfl,rfl,rfl⟩
    obtain⟨pf,cf,pw,cw,ps,cs,pc,cc,cp,cl,pi,ci,pI,cI⟩:=q';subst hps;rfl
   ·rintro e w' ⟨v,ρ',rfl,⟨vs,rfl,v1,r1,rfl,h1,v2,r2,rfl,h2,h3⟩,hbl,_⟩
    obtain rfl:r2=[]:=h3;exact⟨_,rfl,⟨_,rfl,_,_,rfl,den_quo.2 (den_quo.1 h1),_,_,rfl,h2,rfl⟩,hbl⟩
  ·cases hr
 ·cases hr
def cIndexX:Ctr (qDen kO kO1) Tryz.prog w0 (λ_=>False):=cAtX ha hns h6 ho hp 15 a.nI (λ_ _=>[]) λho hp k s=>Zyp ha _ ho hp k hns s
def cPowerX:Ctr (qDen kO kO1) Tryz.prog w0 (λ_=>False):=cAtX ha hns h6 ho hp 160 a.pow (λk s=>[PowFits a k s]) λho hp k s=>Zyq ha _ ho hp k hns s
end
end
end Go.Proofs.W
namespace Go.Ex
open Go.RowKit Go.Mono
section
def closedU:U->Bool
 | .val _=>true
 | .quo _=>true
 | .sym _=>true
 | .sml _ _=>true
 | _=>false
def closedL:List U->Bool
 | []=>true
 | u::l=>closedU u&&closedL l
def closedA:SA->Bool
 | .one u=>closedU u
 | .agg l=>closedL l
def closedAs:List SA->Bool
 | []=>true
 | x::l=>closedA x&&closedAs l
def closedV:SV->Bool
 | .a x=>closedA x
 | .tup l=>closedAs l
 | .no=>true
section
variable {D:Den} {ρ ρ':Nm} {w:World}
theorem Zhg {u:U} {cs:List Value} (hc:closedU u=true) (h:denU D ρ w u cs):denU D ρ' w u cs:=by
 cases u<;>first|exact h|cases hc
theorem Zhh:∀{l:List U} {cs:List Value},closedL l=true->denL D ρ w l cs->denL D ρ' w l cs
 | [],_,_,h=>h
 | u :: l, _, hc, ⟨c, d, e, h1, h2⟩ => by
   have hc:=Bool.and_eq_true_iff.1 hc;exact⟨c,d,e,Zhg hc.1 h1,Zhh hc.2 h2⟩
theorem Zhi:∀{x:SA} {v:Value},closedA x=true->denA D ρ w x v->denA D ρ' w x v
 | .one _,_,hc,h=>Zhg hc h
 | .agg _,_,hc,⟨cs,e,h⟩=>⟨cs,e,Zhh hc h⟩
theorem Zdx:∀{l:List SA} {vs:List Value},closedAs l=true->denAs D ρ w l vs->denAs D ρ' w l vs
 | [],_,_,h=>h
 | x :: l, _, hc, ⟨v, r, e, h1, h2⟩ => by
   have hc:=Bool.and_eq_true_iff.1 hc;exact⟨v,r,e,Zhi hc.1 h1,Zdx hc.2 h2⟩
theorem Zmw:∀{x:SV} {v:Value},closedV x=true->denV D ρ w x v->denV D ρ' w x v
 | .a _,_,hc,h=>Zhi hc h
 | .tup _,_,hc,⟨vs,e,h⟩=>⟨vs,e,Zdx hc h⟩
 | .no,_,_,_=>trivial
end
def intsOf:List SA->Option (List Int)
 | []=>some []
 | x :: r => match Ex.intOf (some (.a x)), intsOf r with
   | some (.i64,z,_),some l=>some (z::l)
   | _,_=>none
theorem Zle {D:Den} {ρ:Nm} {w:World}:∀{l:List SA} {zs:List Int} {vs:List Value},intsOf l=some zs->denAs D ρ w l vs->vs=zs.map (.int .i64)
 | [],zs,vs,h,hd=>by cases h;exact hd
 | x :: r, zs, vs, h, ⟨v, r', e, h1, h2⟩ => by
   unfold intsOf at h;split at h
   ·rename_i z b l hx hr
    cases h;rw[e,Zbj (D:=D) (ρ:=ρ) (w:=w) hx h1,Zle hr h2];rfl
   ·cases h
theorem AllP.of:∀{l:List Prop},(∀p∈l,p)->AllP l
 | [],_=>trivial
 | p::r,h=>⟨h p (Ycl ..),AllP.of λx hx=>h x (Ybs _ hx)⟩
end
end Go.Ex
namespace Go.Proofs.W
open Go.RowKit Go.Mono
section
open Go.Ex
abbrev DO:Den:=qDen kO kO1
theorem Zfs {a:Lns} (ha:a.opt) {q:Plc} {ns:Nat} (hns:a.ns=ns) {w:World} (ho:OptAt w a q) (sp:List (Ctr DO Tryz.prog w (λ_=>False))) {g:FuncId} {d:Nat} {rest:List SA} {orc:List (Option Bool)} {V:SV} {L:List Prop}
  (hr:(evF Tryz.prog sp [] d [] g (.agg (optU a q ns 0)::rest) [(0,srfB a q ns)] 1 1 orc).map (λr=>(r.v,r.obl,r.wr,r.pan))=some (V,L,[],none)) (hL:AllP L) (hV:closedV V=true) {vals:List Value} {ρ0:Nm} (hc:closedAs rest=true) (hd:denAs DO ρ0 w rest vals) :
  Calls Tryz.prog g (.agg (a.ovals q)::vals).toArray w λe w'=>∃v,e=.returned v∧(∀ρ,denV DO ρ w' V v)∧Below w.heap.size w w':=by
 obtain⟨b,off,hps,hv⟩:=Zfp ha hns ho;refine(Zky (D:=DO) Zdt sp [] (vs:=[⟨160,srfsU a q 0 ns,b,off,srfsC a q 0 ns⟩]) [(0,srfB a q ns)] rfl rfl _ _ _ hr hL (λv hm=>by rw[Ycd.1 hm];exact hv _ _) (vals:=.agg (a.ovals q)::vals) ?_).mono ?_
 ·refine⟨_,_,rfl,⟨(a.ovals q).toList,rfl,(Ze2 hns).2 ⟨⟨b,off,true,0,0⟩,rfl,?_⟩⟩,Zdx hc hd⟩
  obtain⟨pf,cf,pw,cw,ps,cs,pc,cc,cp,cl,pi,ci,pI,cI⟩:=q;subst hps;rfl
 ·rintro e w' ⟨v,ρ',rfl,hden,hb,_⟩
  exact⟨v,rfl,λρ=>Zmw hV hden,hb⟩
def cView {a:Lns} (ha:a.opt) {q:Plc} {ns m:Nat} (hns:a.ns=ns) {w0:World} (ho:OptAt w0 a q) (hp:PowsAt w0 m) (g:FuncId) (run:Int->List Int->Option (SV×List Prop))
    (hg:∀{w:World} {q:Plc},OptAt w a q->PowsAt w m->∀k l V L,run k l=some (V,L)->0<=k∧k<a.nw->(∀p∈L,p)->Calls Tryz.prog g (.agg (a.ovals q)::.int .i64 k::l.map (.int .i64)).toArray w λe w'=>∃v,e=.returned v∧(∀ρ,denV DO ρ w' V v)∧Below w.heap.size w w'):Ctr DO Tryz.prog w0 (λ_=>False):=.plain g (λargs bk orc=>match args with
    | .agg l :: x :: r => match seesO a q ns l bk, Ex.intOf (some (.a x)), intsOf r with
      | some L,some (.i64,k,_),some zs=>(run k zs).map λp=>(p.1,L++(0<=k∧k<a.nw)::p.2,orc)
      | _,_,_=>none
    | _=>none)<|by
 intro args bk orc v obl orc' hr hobl ρ w vals hfr hb hargs;split at hr
 ·rename_i l x r
  split at hr
  ·rename_i L k s zs h1 h2 h3
   obtain⟨⟨V,L'⟩,hrun,e⟩:=Yad.1 hr;cases e;obtain⟨v1,r1,rfl,⟨cs1,rfl,d1⟩,v2,r2,rfl,d2,d3⟩:=hargs;obtain rfl:=Zbj (D:=DO) (ρ:=ρ) (w:=w) h2 d2;obtain rfl:=Zle h3 d3;obtain⟨q',rfl,ho',_⟩:=Zd5 hns (by have:=ha.base.ns.1;omega) (ho.below hfr.below) h1 (λp hp=>hobl p (Ycy _ hp)) hb d1;refine(hg ho' (hp.below hfr.below) k zs V L' hrun (hobl (0<=k∧k<a.nw) Zs) (λp hp=>hobl p (by simp[hp]))).mono ?_;rintro e w' ⟨v,rfl,hv,hbl⟩;exact⟨v,rfl,hv ρ,hbl⟩
  ·cases hr
 ·cases hr
def cChkN {a:Lns} (ha:a.opt) {q:Plc} {ns:Nat} (hns:a.ns=ns) {w0:World} (ho:OptAt w0 a q):Ctr DO Tryz.prog w0 (λ_=>False):=.plain 138 (λargs bk orc=>match args with
    | [.agg l]=>(seesO a q ns l bk).map λL=>(.a okV,L,orc)
    | _=>none)<|by
 intro args bk orc v obl orc' hr hobl ρ w vals hfr hb hargs;split at hr
 ·rename_i l
  obtain⟨L,hL,e⟩:=Yad.1 hr;cases e;obtain⟨v1,r1,rfl,⟨cs1,rfl,d1⟩,h3⟩:=hargs;obtain rfl:r1=[]:=h3;obtain⟨q',rfl,ho',_⟩:=Zd5 hns (by have:=ha.base.ns.1;omega) (ho.below hfr.below) hL hobl hb d1;refine(Zji a ha q' w ho').mono ?_;rintro e w' ⟨rfl,hbl⟩;exact⟨_,rfl,⟨rfl,rfl⟩,hbl⟩
 ·cases hr
def MFits (x y:M22):Prop:=PFits x.a x.b x.c x.d y.a y.b y.c y.d
def prodRunN (args:List SA) (bk:List (Nat×Blk)) (orc:List (Option Bool)):Option (SV×List Prop×List (Option Bool)):=
 match args with
 | [.agg [.quo a,.quo b,.quo c,.quo d],.agg [.quo e,.quo f,.quo g,.quo h]]=>some (.a (.agg [.quo (a*e+b*g),.quo (a*f+b*h),.quo (c*e+d*g),.quo (c*f+d*h)]),[PFits a b c d e f g h],orc)
 | _=>none
def cProductN (w0:World) (X:Nat->Prop):Ctr DO Tryz.prog w0 X:=.plain 86 prodRunN<|by
 intro args bk orc v obl orc' hr hobl ρ w vals hfr hb hargs;unfold prodRunN at hr;split at hr
 ·rename_i a b c d e f g h
  cases hr;obtain⟨v1,r1,rfl,⟨cs1,rfl,h1⟩,v2,r2,rfl,⟨cs2,rfl,h2⟩,h3⟩:=hargs;obtain rfl:r2=[]:=h3;refine(Zip a b c d e f g h (hobl _ (Ycl ..)) w ⟨cs1,rfl,Zdm (l:=[a,b,c,d]) h1⟩ ⟨cs2,rfl,Zdm (l:=[e,f,g,h]) h2⟩).mono ?_;rintro e' w' ⟨x,ρ',rfl,⟨cs,rfl,hx⟩,hbl⟩;rw[z0_]at hx;simp only[Rat.zero_add]at hx;exact⟨_,rfl,⟨cs,rfl,Zdm (l:=[a*e+b*g,a*f+b*h,c*e+d*g,c*f+d*h]) hx⟩,hbl⟩
 ·cases hr
theorem Zuz {N M D E k:Nat} {x y:M22} (hx:x.Ov N D) (hy:y.Ov M E) (hN:2*(N*M)<=10 ^ k) (hD:D*E<=10 ^ k) (hk:k<=5399):MFits x y:=by
 have hz:=hx.mul hy;have hN1:N*M<=10 ^ k:=Zo;have f1:∀{p q:Rat},Ov N D p->Ov M E q->Fits (p*q):=λh g=>(h.mul g).fits hk hN1 hD;exact⟨f1 hx.a hy.a,f1 hx.b hy.c,hz.a.fits hk hN hD,f1 hx.a hy.b,f1 hx.b hy.d,hz.b.fits hk hN hD,f1 hx.c hy.a,f1 hx.d hy.c,hz.c.fits hk hN hD,f1 hx.c hy.b,f1 hx.d hy.d,hz.d.fits hk hN hD⟩
def m22U (x:M22):SA:=.agg [.quo x.a,.quo x.b,.quo x.c,.quo x.d]
section
variable {a:Lns} (ha:a.opt) {q:Plc} {ns m:Nat} (hns:a.ns=ns) (h6:2<=ns∧ns<=6) {w0:World} (ho:OptAt w0 a q) (hp:PowsAt w0 m)
noncomputable def spX:List (Ctr DO Tryz.prog w0 (λ_=>False)):=cIndexX ha hns h6 ho hp::cPowerX ha hns h6 ho hp::cNegN w0 _::cProductN w0 _::cChkN ha hns ho::cR4Of w0 _::cOfT w0 _::spS w0 _
end
end
end Go.Proofs.W
