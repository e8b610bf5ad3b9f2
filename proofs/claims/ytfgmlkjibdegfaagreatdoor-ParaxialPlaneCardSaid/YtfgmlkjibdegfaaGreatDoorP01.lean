/- The law ParaxialPlane: its walk and its card. Part 1 of 7. No condition beside the row. -/
import Derived.Test.YtfgmlkjibdegfaaGreatDoorA28
set_option linter.unusedVariables false
set_option linter.unusedSimpArgs false
set_option maxRecDepth 100000
set_option maxHeartbeats 4000000
namespace Go.Ex
open Go.RowKit Go.Mono
def Ctr.listT {D:Den} {P:Program} {w0:World} (f:FuncId) (T:TypeId) (run:List SA->List (Nat×Blk)->List (Option Bool)->Option (Nat×List U×List SA×List Prop×List (Option Bool)))
    (sound:∀args bk orc m l rest obl orc',run args bk orc=some (m,l,rest,obl,orc')->(∀p∈obl,p)->∀ρ w vals,Frm w0 (λ_=>False) w->BkOk D ρ w w bk->denAs D ρ w args vals->
     Calls P f vals.toArray w λe w'=>∃b off cp cs vs,e=.returned (.tuple (Value.slice (some ⟨b,off,none⟩) m cp::vs).toArray)∧m<=cp∧w.heap.size<=b∧b<w'.heap.size∧w'.rangeAt b off cs∧denL D ρ w' l cs∧denAs D ρ w' rest vs∧Below w.heap.size w w'):Ctr D P w0 (λ_=>False) where
 f:=f
 run:=λargs bk c orc=>match run args bk orc with
  | some (m,l,rest,obl,orc')=>some ⟨.tup (.one (.sli c 0 m)::rest),[(c,⟨T,l,true,false,false⟩)],obl,orc',c+1,c+1,none⟩
  | none=>none
 cc:=by
  intro args bk c orc r h;split at h
  ·cases h;exact Nat.le_succ _
  ·cases h
 sound:=by
  intro args bk c orc r h hobl th ρ wc w vals hS hlt hn hargs;split at h
  ·rename_i m l rest obl orc' hr
   cases h;refine(sound _ _ _ _ _ _ _ _ hr hobl ρ w vals hS.fr (λk b hk hd=>?_) (hargs.mono (Nm.le.refl _) hS.ext)).mono ?_
   ·obtain⟨B,cs,h1,h2,h3,h4⟩:=hS.bkOk k b hk hd
    exact⟨B,cs,h1,h2,h3.mono (Nm.le.refl _) hS.ext,h4⟩
   ·rintro e w' ⟨b,off,cp,cs,vs,rfl,hm,hwb,hbw,hrg,hl,hrest,hb⟩
    obtain⟨k1,k2⟩:=hS.call hb c c (λk b hk=>Nat.not_le.2 (hlt k b hk));have hc:=hn c (Yab _) (Yca c);have g1:=k1.view hc T hbw (λj B hj _=>by have:=hS.lt j B hj;omega) hrg hl hlt;refine⟨_,_,w',rfl,⟨_,rfl,_,_,rfl,⟨_,cp,Zbf _ _ _,hm,rfl⟩,hrest.mono (Zdx hc) (Ext.refl _)⟩,g1,⟨Zdx hc,k2.ext,k2.size,k2.os,k2.tape,k2.output,k2.loc,λj x hj=>?_,Nat.le_succ _,λj hj=>Zax _ _ (by dsimp only at hj;omega)⟩⟩;rcases Zbu hj with ⟨rfl,rfl,_⟩|⟨e1,hj⟩
    ·exact .inr ⟨Yab _,Yca _,_,Zbf _ _ _,.inl hwb⟩
    ·exact .inl ⟨x,hj⟩
  ·cases h
def quosU:List U->Prop
 | []=>True
 | .quo _::l=>quosU l
 | _=>False
theorem Zy7 {D:Den} {ρ ρ':Nm} {w:World}:∀{l:List U} {cs:List Value},quosU l->denL D ρ w l cs->denL D ρ' w l cs
 | [],_,_,h=>h
 | .quo _::l,_,hq,⟨c,d,e,h1,h2⟩=>⟨c,d,e,h1,Zy7 hq h2⟩
end Go.Ex
namespace Go.Proofs.W
open Go.RowKit Go.Mono
section
open Go.Ex
def trU (a:Lns) (k:Nat) (y u:Rat):Nat->Nat->List U
 | _,0=>[]
 | s,n+1=>.quo (a.tr k y u (s+1)).1::.quo (a.tr k y u (s+1)).2::trU a k y u (s+1) n
theorem Zy8 (a:Lns) (k:Nat) (y u:Rat):∀n s,quosU (trU a k y u s n)
 | 0,_=>trivial
 | n+1,s=>Zy8 a k y u n (s+1)
def slU (a:Lns) (k:Nat) (y u:Rat):Nat->Nat->List U
 | _,0=>[]
 | s,n+1=>.quo ((a.tr k y u (s+1)).2/a.nI k s)::slU a k y u (s+1) n
theorem Zza (a:Lns) (k:Nat) (y u:Rat):∀n s,quosU (slU a k y u s n)
 | 0,_=>trivial
 | n+1,s=>Zza a k y u n (s+1)
section
variable {a:Lns} (ha:a.opt) (q:Plc) {ns m:Nat} {w0:World}
noncomputable def runP (hns:a.ns=ns) (ho:OptAt w0 a q) (hp:PowsAt w0 m) (f:FuncId) (args:List SA) (bk:List (Nat×Blk)) (c:Nat) (orc:List (Option Bool)):Option (SV×List Prop×List (Nat×Blk)×Option Value):=
 (evF Tryz.prog (spN ha hns ho hp) [] 24 [] f args bk c c orc).map λr=>(r.v,r.obl,r.wr,r.pan)
variable (ho:OptAt w0 a q) (hp:PowsAt w0 m) (k:Int) (y u:Rat)
noncomputable def trRun (hns:a.ns=ns):Prop:=runP ha q hns ho hp 17 [.agg (optU a q ns 0),.one (.sym k),.agg [.quo y],.agg [.quo u]] [(0,srfB a q ns)] 1 []=some (.tup [.one (.own (6+23*ns) ns 8),okV],obTrace a q ns 0 k y u [],[(6+23*ns,⟨65,trU a k.toNat y u 0 ns,false,true,false⟩)],none)
set_option maxRecDepth 100000
theorem Z2c (hns:a.ns=2):trRun ha q ho hp k y u hns:=by unfold trRun;kernel_rfl
theorem Z2d (hns:a.ns=3):trRun ha q ho hp k y u hns:=by unfold trRun;kernel_rfl
theorem Z2e (hns:a.ns=4):trRun ha q ho hp k y u hns:=by unfold trRun;kernel_rfl
theorem Z2f (hns:a.ns=5):trRun ha q ho hp k y u hns:=by unfold trRun;kernel_rfl
theorem Z2g (hns:a.ns=6):trRun ha q ho hp k y u hns:=by unfold trRun;kernel_rfl
noncomputable def slRun (hns:a.ns=ns):Prop:=runP ha q hns ho hp 23 [.agg (optU a q ns 0),.one (.sym k),.one (.sli 1 0 ns)] [(0,srfB a q ns),(1,⟨65,trU a k.toNat y u 0 ns,true,false,false⟩)] 2 []=some (.tup [.one (.own (7+9*ns) ns 4),okV],obS a q ns 0 k (obSlL a q ns 0 k (λs=>(a.tr k.toNat y u (s+1)).2) [] 0 ns),[(7+9*ns,⟨54,slU a k.toNat y u 0 ns,false,true,false⟩)],none)
theorem Z2h (hns:a.ns=2):slRun ha q ho hp k y u hns:=by unfold slRun;kernel_rfl
theorem Z2i (hns:a.ns=3):slRun ha q ho hp k y u hns:=by unfold slRun;kernel_rfl
theorem Z2j (hns:a.ns=4):slRun ha q ho hp k y u hns:=by unfold slRun;kernel_rfl
theorem Z2k (hns:a.ns=5):slRun ha q ho hp k y u hns:=by unfold slRun;kernel_rfl
theorem Z2l (hns:a.ns=6):slRun ha q ho hp k y u hns:=by unfold slRun;kernel_rfl
def obAt (a:Lns) (q:Plc) (ns:Nat) (k s:Int) (L:List Prop):List Prop:=obS a q ns 0 k ((decide (s<0)=false)::(decide (s>=(ns:Int))=false)::obS a q ns 0 k ((0<=s∧s<(ns:Int))::L))
theorem Z22 (hns:a.ns=ns) (s:Int):runP ha q hns ho hp 31 [.agg (optU a q ns 0),.one (.sym k),.one (.sym s)] [(0,srfB a q ns)] 1 [some false,some false]=some (.tup [.agg [.quo (a.nI k.toNat s.toNat)],okV],obAt a q ns k s [],[],none):=Zk
theorem Z23 (hns:a.ns=ns) (s:Int):runP ha q hns ho hp 33 [.agg (optU a q ns 0),.one (.sym k),.one (.sym s)] [(0,srfB a q ns)] 1 [some false,some false]=some (.tup [.agg [.quo (a.pow k.toNat s.toNat)],okV],obAt a q ns k s [PowFits a k.toNat s.toNat],[],none):=Zk
end
theorem Zzg {p:Nat->Prop} (h2:p 2) (h3:p 3) (h4:p 4) (h5:p 5) (h6:p 6) {n:Nat} (hn:2<=n∧n<=6):p n:=by
 rcases(by omega:n=2∨n=3∨n=4∨n=5∨n=6) with rfl|rfl|rfl|rfl|rfl<;>assumption
end
section
open Go.Ex
section
variable {a:Lns} (ha:a.opt) {ns:Nat} (hns:a.ns=ns) (h6:2<=ns∧ns<=6) {q:Plc} {w:World} {m:Nat} (ho:OptAt w a q) (hp:PowsAt w m) {k:Int} (hk:0<=k∧k<a.nw)
theorem Zy9 {w:World} {B:Pl} {T:TypeId} {sp:Bool} {cs:List Value} (h:Holds w B T sp cs):w.rangeAt B.blk B.base cs:=λj v hj=>h.cell hj
theorem Zzh {w w':World} {ρ:Nm} {N n sz:Nat} {T:TypeId} {l:List U} {bk:List (Nat×Blk)} (hl:quosU l) {e:Ending} (hn:0<n)
  (h:∃v ρ',e=.returned v∧denV (qDen kO kO1) ρ' w' (.tup [.one (.own N n sz),okV]) v∧Below w.heap.size w w'∧ρ.le ρ'∧BkOk (qDen kO kO1) ρ' w' w' ([(N,⟨T,l,false,true,false⟩)]++bk)∧∀k b B,Liv ([(N,⟨T,l,false,true,false⟩)]++bk) k b->ρ' k=some B->(b.ro=false->w.heap.size<=B.blk)∧B.blk<w'.heap.size) :
  ∃b cp cs,e=.returned (.tuple #[.slice (some ⟨b,0,none⟩) n cp,.int .i64 0])∧n<=cp∧w.heap.size<=b∧b<w'.heap.size∧w'.rangeAt b 0 cs∧denL (qDen kO kO1) (λ_=>none) w' l cs∧Below w.heap.size w w':=by
 obtain⟨v,ρ',rfl,⟨vs,rfl,v1,r1,rfl,⟨B,hB,hcap,_,hbase,h1⟩,v2,r2,rfl,⟨h2,_⟩,h3⟩,hb,_,hbk,hliv⟩:=h;obtain rfl:r2=[]:=h3;have hlook:([(N,(⟨T,l,false,true,false⟩:Blk))]++bk).look N=some ⟨T,l,false,true,false⟩:=by simp[Zaz]
 obtain⟨B',cs,hB',hH,hd,_⟩:=hbk N _ hlook rfl;rw[hB]at hB';cases hB';obtain⟨l1,l2⟩:=hliv N _ B ⟨hlook,rfl⟩ hB;cases h1;cases h2;have hr:=Zy9 hH;rw[hbase]at hr;exact⟨B.blk,B.cap,cs,rfl,hcap,l1 rfl,l2,hr,Zy7 hl hd,hb⟩
include ha hns h6 ho hp hk
theorem Zzk {y u:Rat} (hf:TrFits a k.toNat y u) {Vy Vu:Value} (dy:QV w Vy y) (du:QV w Vu u) :
  Calls Tryz.prog 17 #[.agg (a.ovals q),.int .i64 k,Vy,Vu] w λe w'=>∃b cp cs,e=.returned (.tuple #[.slice (some ⟨b,0,none⟩) ns cp,.int .i64 0])∧ns<=cp∧w.heap.size<=b∧b<w'.heap.size∧w'.rangeAt b 0 cs∧denL (qDen kO kO1) (λ_=>none) w' (trU a k.toNat y u 0 ns) cs∧Below w.heap.size w w':=by
 obtain⟨b,off,hps,hv⟩:=Zyh ha hns ho;have hr:trRun ha q ho hp k y u hns:=Zzg (p:=λn=>∀hns:a.ns=n,trRun ha q ho hp k y u hns) (Z2c ha q ho hp k y u) (Z2d ha q ho hp k y u) (Z2e ha q ho hp k y u) (Z2f ha q ho hp k y u) (Z2g ha q ho hp k y u) h6 hns;refine(Zuq (D:=qDen kO kO1) Ziu (spN ha hns ho hp) [] (vs:=[⟨117,srfsU a q 0 ns,b,off,srfsC a q 0 ns⟩]) [(0,srfB a q ns)] rfl rfl _ _ _ hr (Zxw ha hns hk hf trivial) (λv hm=>by rw[Ycd.1 hm];exact hv _ _) (vals:=[.agg (a.ovals q),.int .i64 k,Vy,Vu]) ?_).mono λe w' h=>Zzh (Zy8 _ _ _ _ _ _) Zo h;refine⟨_,_,rfl,⟨(a.ovals q).toList,rfl,(Zx8 hns).2 ⟨⟨b,off,true,0,0⟩,rfl,?_⟩⟩,_,_,rfl,rfl,_,_,rfl,den_quo.2 dy,_,_,rfl,den_quo.2 du,rfl⟩;obtain⟨pf,cf,pw,cw,ps,cs,pc,cc,cp,cl,pi,ci,pI,cI⟩:=q;subst hps;rfl
theorem Zzi {y u:Rat} (hf:∀s,s<ns->Fits ((a.tr k.toNat y u (s+1)).2/a.nI k.toNat s)) {b2 off2 cp:Nat} {cs:List Value} (hcp:ns<=cp) (hb2:b2<w.heap.size) (hr2:w.rangeAt b2 off2 cs) (hd2:denL (qDen kO kO1) (λ_=>none) w (trU a k.toNat y u 0 ns) cs) :
  Calls Tryz.prog 23 #[.agg (a.ovals q),.int .i64 k,.slice (some ⟨b2,off2,none⟩) ns cp] w λe w'=>∃b cp cs,e=.returned (.tuple #[.slice (some ⟨b,0,none⟩) ns cp,.int .i64 0])∧ns<=cp∧w.heap.size<=b∧b<w'.heap.size∧w'.rangeAt b 0 cs∧denL (qDen kO kO1) (λ_=>none) w' (slU a k.toNat y u 0 ns) cs∧Below w.heap.size w w':=by
 obtain⟨b,off,hps,hv⟩:=Zyh ha hns ho;have hr:slRun ha q ho hp k y u hns:=Zzg (p:=λn=>∀hns:a.ns=n,slRun ha q ho hp k y u hns) (Z2h ha q ho hp k y u) (Z2i ha q ho hp k y u) (Z2j ha q ho hp k y u) (Z2k ha q ho hp k y u) (Z2l ha q ho hp k y u) h6 hns;refine(Zuq (D:=qDen kO kO1) Ziu (spN ha hns ho hp) [] (vs:=[⟨117,srfsU a q 0 ns,b,off,srfsC a q 0 ns⟩,⟨65,trU a k.toNat y u 0 ns,b2,off2,cs⟩]) [(0,srfB a q ns),(1,⟨65,trU a k.toNat y u 0 ns,true,false,false⟩)] rfl rfl _ _ _ hr (Zya hk (Zze ha hns hk hf (L:=[]) trivial ns 0 Zo)) (λv hm=>?_) (vals:=[.agg (a.ovals q),.int .i64 k,.slice (some ⟨b2,off2,none⟩) ns cp]) ?_).mono λe w' h=>Zzh (Zza _ _ _ _ _ _) Zo h
 ·rcases Ycp.1 hm with rfl|hm
  ·exact hv _ _
  ·rw[Ycd.1 hm]
   exact⟨hb2,hr2,Zy7 (Zy8 _ _ _ _ _ _) hd2⟩
 refine⟨_,_,rfl,⟨(a.ovals q).toList,rfl,(Zx8 hns).2 ⟨⟨b,off,true,0,0⟩,rfl,?_⟩⟩,_,_,rfl,rfl,_,_,rfl,⟨⟨b2,off2,true,0,0⟩,cp,rfl,hcp,rfl⟩,rfl⟩;obtain⟨pf,cf,pw,cw,ps,cs,pc,cc,cp,cl,pi,ci,pI,cI⟩:=q;subst hps;rfl
end
section
variable {a:Lns} (ha:a.opt) {q:Plc} {ns m:Nat} (hns:a.ns=ns) (h6:2<=ns∧ns<=6) {w0:World} (ho:OptAt w0 a q) (hp:PowsAt w0 m)
def cTraceX:Ctr (qDen kO kO1) Tryz.prog w0 (λ_=>False):=.listT 17 65 (λargs bk orc=>match args with
    | [.agg l, x, .agg y, .agg u] => match seesO a q ns l bk, Ex.intOf (some (.a x)), asQ y, asQ u with
      | some L,some (.i64,k,_),some y,some u=>some (ns,trU a k.toNat y u 0 ns,[okV],L++[0<=k∧k<a.nw,TrFits a k.toNat y u],orc)
      | _,_,_,_=>none
    | _=>none)<|by
 intro args bk orc n l rest obl orc' hr hobl ρ w vals hfr hb hargs;split at hr
 ·rename_i l1 x y u
  split at hr
  ·rename_i L k s y' u' h1 h2 h3 h4
   cases hr;obtain⟨v1,r1,rfl,⟨cs1,rfl,d1⟩,v2,r2,rfl,d2,v3,r3,rfl,d3,v4,r4,rfl,d4,h5⟩:=hargs;obtain rfl:r4=[]:=h5;obtain rfl:=Zdy (D:=qDen kO kO1) (ρ:=ρ) (w:=w) h2 d2;obtain⟨q',rfl,ho'⟩:=Zx9 hns h6.1 (ho.below hfr.below) h1 (λp hp=>hobl p (Ycy _ hp)) hb d1;refine(Zzk ha hns h6 ho' (hp.below hfr.below) (hobl (0<=k∧k<a.nw) Zs) (hobl (TrFits a k.toNat y' u') Zs) (Zet h3 d3) (Zet h4 d4)).mono ?_;rintro e w' ⟨b,cp,cs,rfl,hm,hwb,hbw,hrg,hl,hbl⟩;exact⟨b,0,cp,cs,[.int .i64 0],rfl,hm,hwb,hbw,hrg,Zy7 (Zy8 _ _ _ _ _ _) hl,⟨_,[],rfl,⟨rfl,rfl⟩,rfl⟩,hbl⟩
  ·cases hr
 ·cases hr
def cSlopesX (y u:Rat):Ctr (qDen kO kO1) Tryz.prog w0 (λ_=>False):=.listT 23 54 (λargs bk orc=>match args with
    | [.agg l, x, .one (.sli kb 0 n)] => match seesO a q ns l bk, Ex.intOf (some (.a x)), bk.look kb with
      | some L,some (.i64,k,_),some b=>bif b.dead then none else some (ns,slU a k.toNat y u 0 ns,[okV],L++[0<=k∧k<a.nw,n=ns,b.cells=trU a k.toNat y u 0 ns,∀s,s<ns->Fits ((a.tr k.toNat y u (s+1)).2/a.nI k.toNat s)],orc)
      | _,_,_=>none
    | _=>none)<|by
 intro args bk orc n l rest obl orc' hr hobl ρ w vals hfr hb hargs;split at hr
 ·rename_i l1 x kb n'
  split at hr
  ·rename_i L k s b h1 h2 h3
   cases hdd:b.dead with
   | true=>rw[hdd]at hr;cases hr
   | false =>
     rw[hdd]at hr;cases hr;obtain⟨v1,r1,rfl,⟨cs1,rfl,d1⟩,v2,r2,rfl,d2,v3,r3,rfl,⟨B,c,hB,hc,d3⟩,h5⟩:=hargs;obtain rfl:r3=[]:=h5;obtain rfl:=Zdy (D:=qDen kO kO1) (ρ:=ρ) (w:=w) h2 d2;obtain⟨q',rfl,ho'⟩:=Zx9 hns h6.1 (ho.below hfr.below) h1 (λp hp=>hobl p (Ycy _ hp)) hb d1;have hk:=hobl (0<=k∧k<a.nw) Zs;obtain rfl:n'=ns:=hobl (n'=ns) Zs;have e:=hobl (b.cells=trU a k.toNat y u 0 n') Zs;have hf:=hobl (∀s,s<n'->Fits ((a.tr k.toNat y u (s+1)).2/a.nI k.toNat s)) Zs;obtain⟨B',cs,hB',hH,hC,_⟩:=hb _ _ h3 hdd;rw[hB]at hB';cases hB';rw[e]at hC;cases d3;have hr:=Zy9 hH;have hlt:B.blk<w.heap.size:=by
      obtain⟨n0,rfl⟩:∃n0,n'=n0+1:=⟨n'-1,Zo⟩
      obtain⟨c0,d0,rfl,⟨_,_,_,_,_,_,e0,_⟩,_⟩:=hC;have e0':=congrArg (λv=>v.cells.size) e0;refine Zx7 (hr 0 (c0.headD undef) ?_);cases c0 with
      | nil=>simp[Value.cells]at e0'
      | cons v t=>rfl
     refine(Zzi ha hns h6 ho' (hp.below hfr.below) hk hf hc hlt hr (Zy7 (Zy8 _ _ _ _ _ _) hC)).mono ?_;rintro e w' ⟨b,cp,cs,rfl,hm,hwb,hbw,hrg,hl,hbl⟩;exact⟨b,0,cp,cs,[.int .i64 0],rfl,hm,hwb,hbw,hrg,Zy7 (Zza _ _ _ _ _ _) hl,⟨_,[],rfl,⟨rfl,rfl⟩,rfl⟩,hbl⟩
  ·cases hr
 ·cases hr
def cAtX (g:FuncId) (f:Nat->Nat->Rat) (ob:Nat->Nat->List Prop) (hrun:∀{w:World} {q:Plc} (ho:OptAt w a q) (hp:PowsAt w m) (k s:Int),runP ha q hns ho hp g [.agg (optU a q ns 0),.one (.sym k),.one (.sym s)] [(0,srfB a q ns)] 1 [some false,some false]=some (.tup [.agg [.quo (f k.toNat s.toNat)],okV],obAt a q ns k s (ob k.toNat s.toNat),[],none)):Ctr (qDen kO kO1) Tryz.prog w0 (λ_=>False):=.plain g (λargs bk orc=>match args with
    | [.agg l, x, y] => match seesO a q ns l bk, Ex.intOf (some (.a x)), Ex.intOf (some (.a y)) with
      | some L,some (.i64,k,_),some (.i64,s,_)=>some (.tup [.agg [.quo (f k.toNat s.toNat)],okV],L++(0<=k∧k<a.nw)::(0<=s∧s<(ns:Int))::ob k.toNat s.toNat,orc)
      | _,_,_=>none
    | _=>none)<|by
 intro args bk orc v obl orc' hr hobl ρ w vals hfr hb hargs;split at hr
 ·rename_i l1 x y
  split at hr
  ·rename_i L k s1 s s2 h1 h2 h3
   cases hr;obtain⟨v1,r1,rfl,⟨cs1,rfl,d1⟩,v2,r2,rfl,d2,v3,r3,rfl,d3,h5⟩:=hargs;obtain rfl:r3=[]:=h5;obtain rfl:=Zdy (D:=qDen kO kO1) (ρ:=ρ) (w:=w) h2 d2;obtain rfl:=Zdy (D:=qDen kO kO1) (ρ:=ρ) (w:=w) h3 d3;obtain⟨q',rfl,ho'⟩:=Zx9 hns h6.1 (ho.below hfr.below) h1 (λp hp=>hobl p (Ycy _ hp)) hb d1;have hk:=hobl (0<=k∧k<a.nw) Zs;have hs:=hobl (0<=s∧s<(ns:Int)) Zs;obtain⟨b,off,hps,hv⟩:=Zyh ha hns ho';have hL:∀{l:List Prop},(∀p∈l,p)->AllP l:=λ{l} h=>by
    induction l with
    | nil=>trivial
    | cons p r ih=>exact⟨h p (Ycl ..),ih λx hx=>h x (Ybs _ hx)⟩
   refine(Zuq (D:=qDen kO kO1) Ziu (spN ha hns ho' (hp.below hfr.below)) [] (vs:=[⟨117,srfsU a q' 0 ns,b,off,srfsC a q' 0 ns⟩]) [(0,srfB a q' ns)] rfl rfl _ _ _ (hrun ho' (hp.below hfr.below) k s) (Zya hk ⟨decide_eq_false Zo,decide_eq_false Zo,Zya hk ⟨hs,hL λp hp=>hobl p (by simp[hp])⟩⟩) (λv hm=>by rw[Ycd.1 hm];exact hv _ _) (vals:=[.agg (a.ovals q'),.int .i64 k,.int .i64 s]) ?_).mono ?_
   ·refine⟨_,_,rfl,⟨(a.ovals q').toList,rfl,(Zx8 hns).2 ⟨⟨b,off,true,0,0⟩,rfl,?_⟩⟩,_,_,rfl,rfl,_,_,rfl,rfl,rfl⟩
    obtain⟨pf,cf,pw,cw,ps,cs,pc,cc,cp,cl,pi,ci,pI,cI⟩:=q';subst hps;rfl
   ·rintro e w' ⟨v,ρ',rfl,⟨vs,rfl,v1,r1,rfl,h1,v2,r2,rfl,h2,h3⟩,hbl,_⟩
    obtain rfl:r2=[]:=h3;exact⟨_,rfl,⟨_,rfl,_,_,rfl,den_quo.2 (den_quo.1 h1),_,_,rfl,h2,rfl⟩,hbl⟩
  ·cases hr
 ·cases hr
def cIndexX:Ctr (qDen kO kO1) Tryz.prog w0 (λ_=>False):=cAtX ha hns h6 ho hp 31 a.nI (λ_ _=>[]) λho hp k s=>Z22 ha _ ho hp k hns s
def cPowerX:Ctr (qDen kO kO1) Tryz.prog w0 (λ_=>False):=cAtX ha hns h6 ho hp 33 a.pow (λk s=>[PowFits a k s]) λho hp k s=>Z23 ha _ ho hp k hns s
end
end
end Go.Proofs.W
namespace Go.Mono
theorem Zzd (a:Lns) (k:Nat):∀s,a.tr k (Rat.divInt 0 1) (Rat.divInt 0 1) s=(Rat.divInt 0 1,Rat.divInt 0 1)
 | 0=>rfl
 | s + 1 => by
   rw[a.tr_stp,Zzd a k s];unfold Lns.stp;dsimp only;rw[show Rat.divInt 0 1=0 by decide +kernel,Rat.mul_zero,Yew,Rat.zero_mul,Rat.add_zero,ite_self,Rat.zero_mul,Rat.mul_zero];congr 1
   grind
theorem Zzl (a:Lns) (k:Nat) (y u:Rat) (s:Nat) (h:a.pow k s=Rat.divInt 0 1):(a.tr k y u (s+1)).2=(a.tr k y u s).2:=by
 rw[a.tr_stp];unfold Lns.stp;dsimp only;rw[h,show Rat.divInt 0 1=0 by decide +kernel,Rat.mul_zero,Rat.mul_zero];grind
end Go.Mono
namespace Go.Proofs.W
open Go.RowKit Go.Mono
section
open Go.Ex
section
variable (a:Lns) (q:Plc) (ns kb:Nat) (k:Int) (y u:Rat)
def obC (L:List Prop) (s:Nat):List Prop:=obS a q ns kb k ((0<=(s:Int)∧(s:Int)<(ns:Int))::L)
def obPlaL:Nat->List Bool->List Prop
 | _,[]=>[]
 | s, b :: r => obC a q ns kb k (PowFits a k.toNat s :: obC a q ns kb k (Fits (a.nI k.toNat s * ((a.tr k.toNat y u (s + 1)).2 / a.nI k.toNat s)) :: (decide (a.nI k.toNat s * ((a.tr k.toNat y u (s + 1)).2 / a.nI k.toNat s) = (a.tr k.toNat y u (s + 1)).2) = true) ::
   obOf 0 1 ((decide ((a.tr k.toNat (Rat.divInt 0 1) (Rat.divInt 0 1) (s+1)).1=Rat.divInt 0 1)=true)::obOf 0 1 ((decide ((a.tr k.toNat (Rat.divInt 0 1) (Rat.divInt 0 1) (s+1)).2=Rat.divInt 0 1)=true)::
   obOf 0 1 ((decide (a.pow k.toNat s=Rat.divInt 0 1)=b)::(bif b then(decide ((a.tr k.toNat y u (s+1)).2=(a.tr k.toNat y u s).2)=true)::obPlaL (s+1) r else obPlaL (s+1) r))))) s) s
def obTrX (y u:Rat) (L:List Prop):List Prop:=obS a q ns kb k (TrFits a k.toNat y u::L)
end
def obPla (a:Lns) (q:Plc) (ns kb:Nat) (bs:List Bool) (k n1 d1 n2 d2:Int):List Prop:=
 obOf 0 1 (obOf 0 1 (obTrX a q ns kb k (Rat.divInt 0 1) (Rat.divInt 0 1) (obNum n1 d1 (obNum n2 d2 (obTrX a q ns kb k (nq n1 d1) (nq n2 d2) (obS a q ns kb k ((ns=ns)::(trU a k.toNat (nq n1 d1) (nq n2 d2) 0 ns=trU a k.toNat (nq n1 d1) (nq n2 d2) 0 ns)::(∀s,s<ns->Fits ((a.tr k.toNat (nq n1 d1) (nq n2 d2) (s+1)).2/a.nI k.toNat s))::
  obNum n2 d2 (obPlaL a q ns kb k (nq n1 d1) (nq n2 d2) 0 bs))))))))
def orcPla:List Bool->List (Option Bool)
 | []=>[]
 | b::r=>some true::some true::some true::bif b then some true::some true::orcPla r else some false::orcPla r
noncomputable def spPla {a:Lns} (ha:a.opt) {q:Plc} {ns m:Nat} (hns:a.ns=ns) (h6:2<=ns∧ns<=6) {w0:World} (ho:OptAt w0 a q) (hp:PowsAt w0 m) (y u:Rat):List (Ctr (qDen kO kO1) Tryz.prog w0 (λ_=>False)):=cTraceX ha hns h6 ho hp::cSlopesX ha hns h6 ho hp y u::cIndexX ha hns h6 ho hp::cPowerX ha hns h6 ho hp::cR4Of w0 _::cOfT w0 _::spS w0 _
noncomputable def cdPla:Code:=codeR (codeR (codeR (codeR (Tryz.f10.body.getD .skip))))
def bkPla (a:Lns) (q:Plc) (ns:Nat) (n1 d1 n2 d2:Int):List (Nat×Blk):=[(0,numB n1 d1),(1,numB n2 d2),(2,optBN a q ns 3),(3,srfB a q ns)]
def tmPla (k:Int):List (Nat×SV):=[(6,.a (.one (.ptr 0 0))),(7,.a (.one (.ptr 1 0))),(9,.a (.one (.ptr 2 0))),(10,.a (.one (.sym k)))]
noncomputable def runPla {a:Lns} (ha:a.opt) (q:Plc) {ns m:Nat} (hns:a.ns=ns) (h6:2<=ns∧ns<=6) {w0:World} (ho:OptAt w0 a q) (hp:PowsAt w0 m) (bs:List Bool) (k n1 d1 n2 d2:Int):Option (Ot×List DF×Option SV×List Prop):=
 (evC Tryz.prog ⟨evF Tryz.prog (spPla ha hns h6 ho hp (nq n1 d1) (nq n2 d2)) [] 24,fctRun ([]:List (Fct (qDen kO kO1) Tryz.prog w0 (λ_=>False)))⟩ [] 184 FU false cdPla ⟨tmPla k,bkPla a q ns n1 d1 n2 d2,4,4,orcPla bs,[]⟩).map (λr=>(r.1,r.2.1.df,r.2.1.tm.look 8,r.2.2))
theorem Zzf {a:Lns} (ha:a.opt) {k:Nat} (hk:k<a.nw) {y u:Rat} (hy:Hs 5 y) (hu:Hs 5 u) {s:Nat} (hs:s<a.ns):Fits ((a.tr k y u (s+1)).2/a.nI k s)∧Fits (a.nI k s*((a.tr k y u (s+1)).2/a.nI k s))∧a.nI k s*((a.tr k y u (s+1)).2/a.nI k s)=(a.tr k y u (s+1)).2:=by
 obtain⟨D,hD,d1,d2⟩:=Hs.two hy hu;obtain⟨D',hD',t1,t2⟩:=ha.tr_ov hk hD d1 d2 (s+1) Zo;obtain⟨M,m0,m1,hm⟩:=ha.nI_inv hs hk;have hn:=ha.base.ns.2;have h0:a.nI k s≠0:=λh=>ha.nI_num hs hk (by rw[h];rfl);have e:a.nI k s*((a.tr k y u (s+1)).2/a.nI k s)=(a.tr k y u (s+1)).2:=by
  rw[Yew];have:=Rat.mul_inv_cancel _ h0;grind
 have b1:=Yak hD' (Zgh (show 5+5+30*(s+1)<=5+5+37*(s+1) by omega));refine⟨?_,?_,e⟩
 ·rw[Yew]
  refine(t2.mul hm).fits (k:=5+5+37*(s+1)+8) Zo ?_ ?_
  ·rw[Ydn 10 (5+5+37*(s+1))]
   exact Yci _ Zd
  ·rw[Ydn 10 (5+5+37*(s+1))]
   exact Ybv b1 Zo
 ·rw[e]
  exact t2.fits Zo (Yab _) b1
def plaBs (a:Lns) (k:Nat):Nat->Nat->List Bool
 | _,0=>[]
 | s,n+1=>decide (a.pow k s=Rat.divInt 0 1)::plaBs a k (s+1) n
theorem Zzb {a:Lns} (ha:a.opt) {q:Plc} {ns kb:Nat} (hns:a.ns=ns) {k:Int} (hk:0<=k∧k<a.nw) {y u:Rat} (hy:Hs 5 y) (hu:Hs 5 u):∀n s,s+n=ns->AllP (obPlaL a q ns kb k y u s (plaBs a k.toNat s n))
 | 0,_,_=>trivial
 | n + 1, s, h => by
   obtain⟨_,f2,f3⟩:=Zzf ha (k:=k.toNat) Zo hy hu (s:=s) Zo;have ih:=Zzb ha hns hk hy hu n (s+1) Zo (q:=q) (kb:=kb);have hs:0<=(s:Int)∧(s:Int)<(ns:Int):=⟨Zo,Zo⟩
   have o1:∀{L:List Prop},AllP L->AllP (obOf 0 1 L):=λh=>Zxz ⟨Zd,Zd⟩ h;refine Zya hk ⟨hs,Zl3 ha Zo Zo,Zya hk ⟨hs,f2,decide_eq_true f3,o1 ⟨decide_eq_true (by rw[Zzd]),o1 ⟨decide_eq_true (by rw[Zzd]),o1 ⟨rfl,?_⟩⟩⟩⟩⟩;by_cases hb:a.pow k.toNat s=Rat.divInt 0 1
   ·rw[decide_eq_true hb]
    exact⟨decide_eq_true (Zzl a k.toNat y u s hb),ih⟩
   ·rw[decide_eq_false hb]
    exact ih
theorem Zzm {a:Lns} (ha:a.opt) {q:Plc} {ns kb:Nat} (hns:a.ns=ns) {k n1 d1 n2 d2:Int} (hk:0<=k∧k<a.nw) (h1:NumD n1 d1) (h2:NumD n2 d2):AllP (obPla a q ns kb (plaBs a k.toNat 0 ns) k n1 d1 n2 d2):=by
 have q1:=Zt1 h1.1 h1.2;have q2:=Zt1 h2.1 h2.2;have hk':k.toNat<a.nw:=Zo;have z:Hs 5 (Rat.divInt 0 1):=Hs.divInt 0 1 Zd Zd Zd;have o1:∀{L:List Prop},AllP L->AllP (obOf 0 1 L):=λh=>Zxz ⟨Zd,Zd⟩ h;exact o1 (o1 (Zya hk ⟨Zy5 ha hk' (K:=5) Zd z z,Zc5 h1 (Zc5 h2 (Zya hk ⟨Zy5 ha hk' (K:=5) Zd q1 q2,Zya hk ⟨rfl,rfl,λs hs=>(Zzf ha hk' q1 q2 Zo).1,Zc5 h2 (Zzb ha hns hk q1 q2 ns 0 Zo)⟩⟩))⟩))
end
end Go.Proofs.W
