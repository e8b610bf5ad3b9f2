/- The drafted optics of chapter 13: what it is and that it is valid. Part 5 of 14. No condition beside the row. -/
import Derived.Test.YtpfpiecljfimjaaGreatDoorA06
import Derived.Test.YtpfpiecljfimjaaGreatDoorA14
import Derived.Test.YtpfpiecljfimjaaGreatDoorD03
import Derived.Test.YtpfpiecljfimjaaGreatDoorD04
set_option linter.unusedVariables false
set_option linter.unusedSimpArgs false
set_option maxRecDepth 100000
set_option maxHeartbeats 4000000
namespace Go.Proofs.W
open Go.RowKit Go.Mono
def srf0:Array Value:=#[.int .i64 0,.int .i64 0,.int .i64 0,.int .i64 0,.int .i64 0,.int .i64 0,.int .i64 0,.int .i64 0,.int .i64 0,.int .i64 0,.int .i64 0,.int .i64 0,.int .i64 0,.string {data:=#[]},.int .i64 0,.int .i64 0,.int .i64 0,.int .i64 0,.int .i64 0,.int .i64 0,.int .i64 0,.slice none 0 0]
theorem Zbb {i:Option TypeInfo} {z:Value} {a b:Nat} (h:i.map (λi=>(i.zero,i.size,i.bytes))=some (some z,a,b)):∃t,i=some t∧t.zero=some z∧t.size=a∧t.bytes=b:=by
 cases i with
 | none=>cases h
 | some t =>
   simp only[Yfx,Ybp,Yco]at h;exact⟨t,rfl,h.1,h.2.1,h.2.2⟩
theorem Zha:(Tryz.prog.info? 222).map (λi=>(i.zero,i.size,i.bytes))=some (some (.agg #[.int .i64 0,.int .i64 0,.int .i64 0]),3,24):=Zk
theorem Zk8:(Tryz.prog.info? 115).map (λi=>(i.zero,i.size,i.bytes))=some (some (.agg srf0),22,200):=Zk
theorem Zvl (w:World):(Instr.buildSlice 113 0 #[]).run Tryz.prog w=.ok (.slice (some ⟨w.heap.size,0,none⟩) 0 0) (w.alloc (.cells #[] 222)):=Zk
theorem Zut (A:Array Value) (hA:A.size=22) (k v:Int) (w:World)
  (hr:∀W,Below w.heap.size w W->Calls Tryz.prog 151 #[.agg A] W λe w'=>e=.returned (.bool true)∧Below W.heap.size W w')
  (hh:∀W,Below w.heap.size w W->Calls Tryz.prog 209 #[.agg A,.int .i64 k] W λe w'=>e=.returned (.bool false)∧Below W.heap.size W w') :
  Calls Tryz.prog 180 #[.agg A,.int .i64 k,.int .i64 v] w λe w'=>e=.returned (.tuple #[.agg srf0,.int .i64 2])∧Below w.heap.size w w':=by
 have hi:(Tryz.prog.info? 115).map (·.size)=some A.size:=by rw[hA];kernel_rfl
 have hi0:(Tryz.prog.info? 115).map (·.size)=some srf0.size:=Zk;go_enter Tryz.func180,Tryz.ntmps180
 go_wp2_with (refine Zbm (T0:=115) λW hB hsz b0 b1=>?_;refine Zac rfl 115 (.tmp 3) rfl w.heap.size rfl 115 A b0 _ Tryz.underlying115 rfl hi ?_)
 refine(hr W hB).mono ?_;rintro e W1 ⟨rfl,hb⟩;replace hB:=Zaa hB hb;replace b0:=b0.below hb;replace b1:=b1.below hb;go_wp2_with (refine Zac rfl 115 (.tmp 3) rfl w.heap.size rfl 115 A b0 _ Tryz.underlying115 rfl hi ?_)
 refine(hh W1 hB).mono ?_;rintro e W2 ⟨rfl,hb2⟩;replace hB:=Zaa hB hb2;replace b1:=b1.below hb2;go_wp2_with first|(refine Zap rfl 115 _ rfl srf0 Zx ?_)|(refine Zab rfl 115 (.tmp 6) _ rfl (w.heap.size+1) 0 115 _ srf0 srf0 rfl rfl b1 hi0 (Yaa rfl) (by decide +kernel) rfl ?_;intro W3 hk3 b3)
 refine bodyPost_ret (b3.resultsT rfl _ _ rfl Tryz.underlying115 rfl hi0) rfl ?_;exact⟨rfl,hk3.below hB Zo hB.size⟩
def ParAt (k:Int) (off:Nat):Prop:=
 k=1∧off=1∨k=2∧off=2∨k=3∧off=3∨k=4∧off=4∨k=5∧off=5∨k=6∧off=6∨k=7∧off=7∨k=8∧off=8∨k=9∧off=12∨k=10∧off=14∨k=11∧off=16∨k=12∧off=17∨k=13∧off=18∨k=14∧off=19∨k=15∧off=20∨k=16∧off=9∨k=17∧off=10
theorem Zk9 {w:World} {p:Option Addr} {n c:Nat} {F:Nat->Flm} (h:FilmsAt w p n c F):RdC w p n c 3 (λi j=>((F i).vals.toList).getD j undef):=by
 obtain⟨h1,h2,h3⟩:=h;refine⟨h1,h2,λh0=>?_⟩;obtain⟨b,off,hp,hb,hc⟩:=h3 h0;refine⟨b,off,hp,hb,λi j hi hj=>(hc i j hi hj).trans ?_⟩;rcases(by omega:j=0∨j=1∨j=2) with rfl|rfl|rfl<;>rfl
theorem Zuu (k v:Int) (off:Nat) (hko:ParAt k off) (A:Array Value) (hA:A.size=22) (h1:A.all (·.oneCell')=true) (p:Option Addr) (n c:Nat) (hn:n<=8) (g21:A[21]? = some (.slice p n c)) (F:Nat->Flm) (b:Bool) (w:World)
  (hfs:FilmsAt w p n c F) (hnil:p=none->n=0∧c=0)
  (hr:∀W,Below w.heap.size w W->Calls Tryz.prog 151 #[.agg A] W λe w'=>e=.returned (.bool true)∧Below W.heap.size W w')
  (hh:∀W,Below w.heap.size w W->Calls Tryz.prog 209 #[.agg A,.int .i64 k] W λe w'=>e=.returned (.bool true)∧Below W.heap.size W w')
  (hr2:∀W,Below w.heap.size w W->Calls Tryz.prog 151 #[.agg (A.setIfInBounds off (.int .i64 v))] W λe w'=>e=.returned (.bool b)∧Below W.heap.size W w') :
  Calls Tryz.prog 180 #[.agg A,.int .i64 k,.int .i64 v] w λe w'=>Below w.heap.size w w'∧(b=false->e=.returned (.tuple #[.agg srf0,.int .i64 2]))∧
   (b=true->∃p' c',e=.returned (.tuple #[.agg ((A.setIfInBounds off (.int .i64 v)).setIfInBounds 21 (.slice p' n c')),.int .i64 0])∧w'.ownsRow w.heap.size 222 3 (.slice p' n c') n (crow (λi=>(F i).vals.toList) n)∧(p'=none->n=0∧c'=0)):=by
 have hi:(Tryz.prog.info? 115).map (·.size)=some A.size:=by rw[hA];kernel_rfl
 have hi0:(Tryz.prog.info? 115).map (·.size)=some srf0.size:=Zk;have hge:∀i,i<22->∃x,A[i]? = some x:=λi hi=>⟨A[i],Yby Zo⟩
 go_enter Tryz.func180,Tryz.ntmps180
 go_wp2_with (refine Zbm (T0:=115) λW hB hsz b0 b1=>?_;refine Zac rfl 115 (.tmp 3) rfl w.heap.size rfl 115 A b0 _ Tryz.underlying115 rfl hi ?_)
 refine(hr W hB).mono ?_;rintro e W1 ⟨rfl,hb⟩;replace hB:=Zaa hB hb;replace b0:=b0.below hb;replace b1:=b1.below hb;go_wp2_with (refine Zac rfl 115 (.tmp 3) rfl w.heap.size rfl 115 A b0 _ Tryz.underlying115 rfl hi ?_)
 refine(hh W1 hB).mono ?_;rintro e W2 ⟨rfl,hb2⟩;replace hB:=Zaa hB hb2;replace b0:=b0.below hb2;replace b1:=b1.below hb2;have hfW:=hfs.below hB;have f0:=b0.frozen;have l0:=b0.lt;clear hr hh hb hb2 hsz;unfold ParAt at hko;have hset:∀o x,Below w.heap.size w (W2.setCell ⟨w.heap.size,o,none⟩ x):=λo x=>hB.setCell (p:=⟨w.heap.size,o,none⟩) (Yab _) x;have hiS:∀o x,(Tryz.prog.info? 115).map (·.size)=some (A.setIfInBounds o x).size:=λo x=>by rw[Yea];exact hi
 have hiT:∀o x o' x',(Tryz.prog.info? 115).map (·.size)=some ((A.setIfInBounds o x).setIfInBounds o' x').size:=λo x o' x'=>by rw[Yea,Yea];exact hi
 have hzT:∀o x o' x',((A.setIfInBounds o x).setIfInBounds o' x').size=srf0.size:=λo x o' x'=>by rw[Yea,Yea];exact hA
 have h1T:∀o x p' c',x.oneCell'=true->((A.setIfInBounds o x).setIfInBounds 21 (.slice p' n c')).all (·.oneCell')=true:=λo x p' c' hx=>by
  rw[Array.all_eq_true']at h1 ⊢;intro u hu;rcases Array.mem_or_eq_of_mem_setIfInBounds hu with hu|rfl
  ·rcases Array.mem_or_eq_of_mem_setIfInBounds hu with hu|rfl
   ·exact h1 u hu
   ·exact hx
  ·rfl
 have g21':∀o x,o<21->(A.setIfInBounds o x)[21]? = some (.slice p n c):=λo x ho=>by rw[Array.getElem?_setIfInBounds_ne Zo];exact g21
 have e1:∀i,i<22->∃x,W2.cell? ⟨w.heap.size,i,none⟩=some x:=λi hi=>by
  obtain⟨x,hx⟩:=hge i hi;exact⟨x,(b0.cell i).trans hx⟩
 obtain⟨fi,hfi,hfz,hfs',hfb⟩:=Zbb Zha;have htf:Tryz.prog.underlying 113=some (.slice 222):=Tryz.underlying113;have hvl:∀i,((F i).vals.toList).length=3:=λ_=>rfl;have hv1:∀i,i<n->∀u∈(F i).vals.toList,u.oneCell'=true:=λi _ u hu=>by
  simp[Flm.vals]at hu;rcases hu with rfl|rfl|rfl<;>rfl
 have ho:off<21:=Zo;obtain⟨x1,c1⟩:=e1 off Zo;clear hA hge e1 ho;rcases hko with ⟨rfl,rfl⟩|⟨rfl,rfl⟩|⟨rfl,rfl⟩|⟨rfl,rfl⟩|⟨rfl,rfl⟩|⟨rfl,rfl⟩|⟨rfl,rfl⟩|⟨rfl,rfl⟩|⟨rfl,rfl⟩|⟨rfl,rfl⟩|⟨rfl,rfl⟩|⟨rfl,rfl⟩|⟨rfl,rfl⟩|⟨rfl,rfl⟩|⟨rfl,rfl⟩|⟨rfl,rfl⟩|⟨rfl,rfl⟩
 all_goals
  go_wp2_with (refine Zac rfl 115 (.tmp 3) rfl w.heap.size rfl 115 _ (b0.set _ (.int .i64 v)) _ Tryz.underlying115 rfl (hiS _ _) ?_)
  refine(hr2 _ (hset _ _)).mono ?_;rintro e W3 ⟨rfl,hb3⟩;have hB3:=Zaa (hset _ _) hb3;have b03:=(b0.set _ _).below hb3;have b13:=(b1.other _ _ Zs).below hb3;clear hb3 b0 b1 hB c1 f0 l0 hset;cases b with
  | false =>
    go_wp2_with first|(refine Zap rfl 115 _ rfl srf0 Zx ?_)|(refine Zab rfl 115 (.tmp 6) _ rfl (w.heap.size+1) 0 115 _ srf0 srf0 rfl rfl b13 hi0 (Yaa rfl) (by decide +kernel) rfl ?_;intro W4 hk4 b4)
    refine bodyPost_ret (b4.resultsT rfl _ _ rfl Tryz.underlying115 rfl hi0) rfl ?_;exact⟨hk4.below hB3 Zo hB3.size,rfl⟩
  | true =>
    go_wp2_with first|(refine Zaz (ps:=#[]) 113 0 #[] rfl rfl Zs Zvl ?_;intro W4 B4 hle4 hB4 b4;have hB4':=Zaa hB3 hB4;have b04:=b03.below hB4;have b14:=b13.below hB4;have cs4:=(b04.cell 21).trans (g21' _ _ Zd);have lw4:=b04.lt;have hown4:W4.ownsRow w.heap.size 222 3 (.slice (some ⟨B4,0,none⟩) 0 0) 0 (crow (λi=>(F i).vals.toList) 0):=Zcw b4 (Yak hB3.size hle4) Zd hvl rfl)|(refine Zao rfl (.tmp 79) (.tmp 81) (ts:=113) (te:=222) rfl htf hfi hfz hfs' hfb rfl Zd rfl rfl hown4 hvl hv1 (Zk9 (hfs.below hB4')) hnil hB4'.size Zo Zo ?_;intro p' c' W5 hown5 hg5 hn5;have b05:=b04.appended hown4 hg5 (Zd);have b15:=b14.appended hown4 hg5 (Zd);have hB5:=Below.appended hown4 hg5 hB4' (Yab _);have cs5:=(b05.cell 21).trans (g21' _ _ Zd);have fr5:=b05.frozen;have lw5:=b05.lt;clear cs4 lw4)|(refine Zac rfl 115 (.tmp 3) rfl w.heap.size rfl 115 _ (b05.set 21 (.slice p' n c')) _ Tryz.underlying115 rfl (hiT _ _ _ _) ?_)|(refine Zab rfl 115 (.tmp 6) _ rfl (w.heap.size+1) 0 115 _ _ _ rfl rfl (b15.other ⟨w.heap.size,21,none⟩ (.slice p' n c') Zs) (hiT _ _ _ _) (Ybl (by rw[hzT];rfl)) (h1T _ _ _ _ rfl) (Zaf (hzT _ _ _ _).symm) ?_;intro W7 hk7 b7)
    rw[Yba]at hown5 hn5;rw[Zas (D:=λi=>(F i).vals.toList) (λi hi=>by unfold ccat;rw[if_neg Zo];rfl)]at hown5;have hB6:=hB5.setCell (p:=⟨w.heap.size,21,none⟩) (Yab _) (.slice p' n c');have hown6:=Zax hown5 b05 Zd ((KeepBut.refl w.heap.size W5).set 21 (.slice p' n c'));have hown7:=Zax hown6 (b15.other ⟨w.heap.size,21,none⟩ (.slice p' n c') Zs) Zd hk7;refine bodyPost_ret (b7.resultsT rfl _ _ rfl Tryz.underlying115 rfl (hiT _ _ _ _)) rfl ?_;exact⟨hk7.below hB6 Zo hB6.size,p',c',rfl,hown7,hn5⟩
theorem Zx6 {s:Srf} {k:Int} (h:hasS s k=true):∃off,ParAt k off:=by
 rcases Zg8 h with rfl|rfl|rfl|rfl|rfl|rfl|rfl|rfl|rfl|rfl|rfl|rfl|rfl|rfl|rfl|rfl|rfl
 ·exact⟨1,by simp[ParAt]⟩
 ·exact⟨2,by simp[ParAt]⟩
 ·exact⟨3,by simp[ParAt]⟩
 ·exact⟨4,by simp[ParAt]⟩
 ·exact⟨5,by simp[ParAt]⟩
 ·exact⟨6,by simp[ParAt]⟩
 ·exact⟨7,by simp[ParAt]⟩
 ·exact⟨8,by simp[ParAt]⟩
 ·exact⟨12,by simp[ParAt]⟩
 ·exact⟨14,by simp[ParAt]⟩
 ·exact⟨16,by simp[ParAt]⟩
 ·exact⟨17,by simp[ParAt]⟩
 ·exact⟨18,by simp[ParAt]⟩
 ·exact⟨19,by simp[ParAt]⟩
 ·exact⟨20,by simp[ParAt]⟩
 ·exact⟨9,by simp[ParAt]⟩
 ·exact⟨10,by simp[ParAt]⟩
theorem Zw0 {s:Srf} {k v:Int} {off:Nat} (h:ParAt k off) (p:Option Addr) (c:Nat):(putS s k v).cs p c=(s.cs p c).setIfInBounds off (.int .i64 v):=by
 unfold ParAt at h;rcases h with ⟨rfl,rfl⟩|⟨rfl,rfl⟩|⟨rfl,rfl⟩|⟨rfl,rfl⟩|⟨rfl,rfl⟩|⟨rfl,rfl⟩|⟨rfl,rfl⟩|⟨rfl,rfl⟩|⟨rfl,rfl⟩|⟨rfl,rfl⟩|⟨rfl,rfl⟩|⟨rfl,rfl⟩|⟨rfl,rfl⟩|⟨rfl,rfl⟩|⟨rfl,rfl⟩|⟨rfl,rfl⟩|⟨rfl,rfl⟩<;>rfl
theorem Zw1 (t:Srf) (p p':Option Addr) (c c':Nat):(t.cs p c).setIfInBounds 21 (.slice p' t.co.length c')=t.cs p' c':=rfl
def CoatOwn (w:World) (base:Nat) (p:Option Addr) (c:Nat) (l:List Flm):Prop:=
 w.ownsRow base 222 3 (.slice p l.length c) l.length (crow (λi=>(l.getD i ⟨0,0,0⟩).vals.toList) l.length)∧(p=none->l.length=0∧c=0)
theorem CoatOwn.at {w:World} {base:Nat} {p:Option Addr} {c:Nat} {l:List Flm} (h:CoatOwn w base p c l) (hl:l.length<=8):CoatAt w p c l:=
 Zay (λ_=>rfl) (λi j hi hj=>by rcases(by omega:j=0∨j=1∨j=2) with rfl|rfl|rfl<;>rfl) h.1 Zo
theorem Zbv (s:Srf) (p:Option Addr) (c:Nat):(s.cs p c).all (·.oneCell')=true:=by simp[Srf.cs,Value.oneCell']
theorem Zuv (s:Srf) (hs:s.ok) (p:Option Addr) (c:Nat) (hnil:p=none->s.co.length=0∧c=0) (k v:Int) (hv:In 32768000 v) (w:World) (hco:CoatAt w p c s.co) :
  Calls Tryz.prog 180 #[.agg (s.cs p c),.int .i64 k,.int .i64 v] w λe w'=>Below w.heap.size w w'∧(setS s k v=none->e=.returned (.tuple #[.agg srf0,.int .i64 2]))∧
   ∀t,setS s k v=some t->∃p' c',e=.returned (.tuple #[.agg (t.cs p' c'),.int .i64 0])∧CoatOwn w' w.heap.size p' c' t.co:=by
 have hhas:=λW (hW:Below w.heap.size w W)=>Zn4 s hs p c k W (hco.below hW);by_cases hk:hasS s k=true
 ·rw[hk]at hhas
  obtain⟨off,ho⟩:=Zx6 hk;have hcore:=Zk5 (v:=v) hs hk hv;have hcs:=Zw0 (s:=s) (v:=v) ho p c;have hputco:=Zr8 s k v;refine(Zuu k v off ho (s.cs p c) rfl (Zbv s p c) p s.co.length c hs.coats rfl (λi=>s.co.getD i ⟨0,0,0⟩) (decide (putS s k v).ring) w hco hnil (λW hW=>Zcv s hs p c W (hco.below hW)) hhas (λW hW=>?_)).mono ?_
  ·rw[<-hcs]
   exact Zfy _ hcore p c W (by rw[hputco];exact hco.below hW)
  rintro e w' ⟨hB,h1,h2⟩;by_cases hr:(putS s k v).ring
  ·have hset:setS s k v=some (putS s k v):=by unfold setS;rw[if_pos ⟨hk,hr⟩]
   obtain⟨p',c',he,hown,hn⟩:=h2 (decide_eq_true hr);refine⟨hB,(λh=>by rw[hset]at h;cases h),λt ht=>?_⟩;rw[hset]at ht;cases ht;refine⟨p',c',?_,?_,?_⟩
   ·rw[he,<-hcs,show s.co.length=(putS s k v).co.length by rw[hputco],Zw1]
   ·rw[hputco];exact hown
   ·rw[hputco];exact hn
  ·have hset:setS s k v=none:=by unfold setS;rw[if_neg λh=>hr h.2]
   exact⟨hB,λ_=>h1 (decide_eq_false hr),λt ht=>by rw[hset]at ht;cases ht⟩
 ·have hset:setS s k v=none:=by unfold setS;rw[if_neg λh=>hk h.1]
  rw[Bool.not_eq_true]at hk;rw[hk]at hhas;refine(Zut (s.cs p c) rfl k v w (λW hW=>Zcv s hs p c W (hco.below hW)) hhas).mono ?_;rintro e w' ⟨he,hB⟩;exact⟨hB,λ_=>he,λt ht=>by rw[hset]at ht;cases ht⟩
def sAt (l:List Srf) (i:Nat):Srf:=l.getD i (stdS 0)
structure SrfsAt (w:World) (p:Option Addr) (c:Nat) (l:List Srf) (cp:Nat->Option Addr) (cl:Nat->Nat):Prop where
 row:RdC w p l.length c 22 (λi j=>((sAt l i).cs (cp i) (cl i)).getD j undef)
 coat:∀i,i<l.length->CoatAt w (cp i) (cl i) (sAt l i).co
 nil:∀i,i<l.length->cp i=none->(sAt l i).co.length=0∧cl i=0
theorem SrfsAt.below {w w':World} {p:Option Addr} {c:Nat} {l:List Srf} {cp:Nat->Option Addr} {cl:Nat->Nat} (h:SrfsAt w p c l cp cl) (hB:Below w.heap.size w w'):SrfsAt w' p c l cp cl:=
 ⟨h.row.below hB,λi hi=>(h.coat i hi).below hB,h.nil⟩
theorem SrfsAt.range {w:World} {p:Option Addr} {c:Nat} {l:List Srf} {cp:Nat->Option Addr} {cl:Nat->Nat} (h:SrfsAt w p c l cp cl) (hn:0<l.length) :
  ∃b off,p=some ⟨b,off,none⟩∧b<w.heap.size∧∀i,i<l.length->∀W,Below w.heap.size w W->W.rangeAt b (off+i*22) ((sAt l i).cs (cp i) (cl i)).toList:=by
 obtain⟨_,_,hx⟩:=h.row;obtain⟨b,off,hp,hb,hc⟩:=hx hn;refine⟨b,off,hp,hb,λi hi W hW j v hv=>?_⟩;have hj:j<22:=(Yan.1 hv).1;refine((hW.cell (p:=⟨b,off+i*22+j,none⟩) hb).trans (hc i j hi hj)).trans ?_;dsimp only;rw[Yaq]at hv;rw[Yax,hv];rfl
def scell (l:List Srf) (cp:Nat->Option Addr) (cl:Nat->Nat) (i:Nat):List Value:=((sAt l i).cs (cp i) (cl i)).toList
structure SrfsOwn (w:World) (base:Nat) (p:Option Addr) (c:Nat) (l:List Srf) (i:Nat) (cp:Nat->Option Addr) (cl:Nat->Nat):Prop where
 row:w.ownsRow base 115 22 (.slice p i c) i (crow (scell l cp cl) i)
 nil:p=none->i=0∧c=0
 coat:∀k,k<i->CoatOwn w base (cp k) (cl k) (sAt l k).co
theorem SrfsOwn.at {w:World} {base:Nat} {p:Option Addr} {c:Nat} {l:List Srf} {cp:Nat->Option Addr} {cl:Nat->Nat} (h:SrfsOwn w base p c l l.length cp cl) (hl:l.length<=1000) (hs:∀s∈l,s.ok):SrfsAt w p c l cp cl where
 row:=Zay (λ_=>rfl) (λi j hi hj=>by
  unfold scell;rw[Yac,Yaq,Yax]) h.row hl
 coat:=λi hi=>(h.coat i hi).at (hs _ (by unfold sAt;rw[Yac,Yao hi];exact Ybw hi)).coats
 nil:=λi hi=>(h.coat i hi).2
theorem Zig {l:List Srf} (h:∀s∈l,s.ok) {i:Nat} (hi:i<l.length):(sAt l i).ok:=h _ (by unfold sAt;rw[Yac,Yao hi];exact Ybw hi)
theorem Zsc (f:Flm):∀u∈f.vals.toList,u.oneCell'=true:=λu hu=>by
 simp[Flm.vals]at hu;rcases hu with rfl|rfl|rfl<;>rfl
theorem Zd0 (s:Srf) (p:Option Addr) (c:Nat):∀u∈(s.cs p c).toList,u.oneCell'=true:=λu hu=>by
 have h:=Zbv s p c;rw[Array.all_eq_true']at h;exact h u (Array.mem_toList_iff.1 hu)
theorem Zb0 {w:World} {B:Nat} {T:TypeId} {A:Array Value} {sz:Nat} (b:Box w B T A) (hA:A.size=sz):RdC w (some ⟨B,0,none⟩) 1 1 sz (λ_ j=>A.toList.getD j undef):=by
 refine⟨Yab _,Zo,λ_=>⟨B,0,rfl,b.lt,λi j hi hj=>?_⟩⟩;obtain rfl:i=0:=Zo;rw[b.cell,Yez,Yba];dsimp only;rw[Yby Zo,Yac,Yaq,Yby Zo];rfl
theorem Zbc {W W':World} {base base2:Nat} {e e2:TypeId} {size size2 n n2:Nat} {v v2:Value} {xs xs2:List Value} (h:W.ownsRow base e size v n xs) (hg:W.grownBy W' v.ownBlock) (h2:W.ownsRow base2 e2 size2 v2 n2 xs2) (hne:e2≠e):W'.ownsRow base2 e2 size2 v2 n2 xs2:=
 Zdr h2 λg hg2=>by
  obtain⟨l2,_,cur2,b2⟩:=Zbx h2 hg2;refine hg.block g l2 λe'=>?_;obtain⟨_,_,cur,b1⟩:=Zbx h e'.symm;exact Box.ne b2 b1 hne rfl
theorem Zau {w:World} {base base' n size:Nat} {v:Value} {e:TypeId} {vals:List Value} (h:w.ownsRow base e size v n vals) (hb:base'<=base):w.ownsRow base' e size v n vals:=by
 obtain⟨hl,h⟩:=h;refine⟨hl,?_⟩;rcases h with h|⟨g,cap,cur,hv,hg,h1⟩
 ·exact .inl h
 ·exact .inr ⟨g,cap,cur,hv,Zo,h1⟩
theorem Zla (l:List Srf) (hl:l.length<=16) (hs:∀s∈l,s.ok) (p:Option Addr) (c:Nat) (cp:Nat->Option Addr) (cl:Nat->Nat) (w:World) (h:SrfsAt w p c l cp cl) :
  Calls Tryz.prog 148 #[.slice p l.length c] w λe w'=>∃p' c' cp' cl',e=.returned (.slice p' l.length c')∧SrfsOwn w' w.heap.size p' c' l l.length cp' cl'∧Below w.heap.size w w':=by
 have hsA:∀(s:Srf) p c,(Tryz.prog.info? 115).map (·.size)=some (s.cs p c).size:=λ_ _ _=>Zk;have hsL:∀(s:Srf) p c,(Tryz.prog.info? 115).map (·.size)=some (s.cs p c).toList.length:=λ_ _ _=>Zk;obtain⟨fi,hfi,hfz,hfs,hfb⟩:=Zbb Zha;obtain⟨si,hsi,hsz,hss,hsb⟩:=Zbb Zk8;have htf:Tryz.prog.underlying 113=some (.slice 222):=Tryz.underlying113;have hts:Tryz.prog.underlying 35=some (.slice 115):=Tryz.underlying35;have hrange:0<l.length->∃b off,p=some ⟨b,off,none⟩∧b<w.heap.size∧∀i,i<l.length->∀W,Below w.heap.size w W->W.rangeAt b (off+i*22) ((sAt l i).cs (cp i) (cl i)).toList:=λh0=>h.range h0;have hcoat:=h.coat;have hnil:=h.nil;have hcap:=h.row.1;have hok:=λi (hi:i<l.length)=>Zig hs hi;generalize hn:l.length=n at *;clear h;replace hcoat:=Yah hcoat;replace hnil:=Yah hnil;go_enter Tryz.func148,Tryz.ntmps148
 go_wp2
 go_loopw [3,4] (λv x wr=>∃i:Nat,i<=n∧x=.int .i64 (i:Int)∧Below w.heap.size w wr∧∃p' c' cp' cl',v=.slice p' i c'∧SrfsOwn wr w.heap.size p' c' l i cp' cl') (λ_ x _=>(n-intOf x).toNat)
 case atStart=>exact⟨0,Yat _,rfl,Yae _ _,none,0,λ_=>none,λ_=>0,rfl,⟨Yaj w _ _ _,λ_=>⟨rfl,rfl⟩,λk hk=>Zo⟩⟩
 case round=>
  obtain⟨i,hi,rfl,hB,p',c',cp',cl',rfl,hown⟩:=hrel;by_cases hin:i<n
  ·obtain⟨b,off,rfl,hb,hrg⟩:=hrange Zo
   have hrg':=hrg i hin wr hB;have hi':(i:Int)<n:=Zo;have hco:=(hcoat.out i hin).below hB;have hni:=hnil.out i hin;have hoki:=(hok i hin).coats;have g21:((sAt l i).cs (cp i) (cl i))[21]? = some (.slice (cp i) (sAt l i).co.length (cl i)):=rfl;clear hrange hrg hok;go_wp2_with first|(refine wpList_load_mid rfl 115 _ rfl b (off+i*22) rfl ((sAt l i).cs (cp i) (cl i)).toList _ hrg' Tryz.underlying115 rfl (hsL _ _ _) ?_)|(refine Zan rfl 115 rfl _ Zav ?_;intro W1 B1 hle1 hB1 b1)|(refine Zab rfl 115 (.tmp 5) (.tmp 15) rfl B1 0 115 _ ((sAt l i).cs (cp i) (cl i)) ((sAt l i).cs (cp i) (cl i)) rfl rfl b1 (hsA _ _ _) (Yaa rfl) (Zbv _ _ _) rfl ?_;intro W2 hk2 b2;have hB2:=hk2.below hB1 hle1 hB1.size)|(refine Zaz (ps:=#[]) 113 0 #[] rfl rfl Zs Zvl ?_;intro W4 B4 hle4 hB4 b4;have hB4':=Zaa hB2 hB4;have b24:=b2.below hB4;have cs4:=(b24.cell 21).trans g21;have lw4:=b24.lt;have hown4:W4.ownsRow wr.heap.size 222 3 (.slice (some ⟨B4,0,none⟩) 0 0) 0 (crow (λk=>((sAt l i).co.getD k ⟨0,0,0⟩).vals.toList) 0):=Zcw b4 (Yak hB2.size hle4) Zd (λ_=>rfl) rfl)|(refine Zao rfl (.tmp 16) (.tmp 18) (ts:=113) (te:=222) rfl htf hfi hfz hfs hfb rfl Zd rfl rfl hown4 (λ_=>rfl) (λ_ _=>Zsc _) (Zk9 (FilmsAt.below hco hB4')) hni hB4'.size Zo Zo ?_;intro p5 c5 W5 hown5 hg5 hn5;have b25:=b24.appended hown4 hg5 (Zd);have hB5:=Below.appended hown4 hg5 hB4' (Yab _);have cs5:=(b25.cell 21).trans g21;have fr5:=b25.frozen;have lw5:=b25.lt;clear cs4 lw4)|(refine Zac rfl 115 (.tmp 5) rfl B1 rfl 115 _ (b25.set 21 (.slice p5 (sAt l i).co.length c5)) _ Tryz.underlying115 rfl (hsA (sAt l i) p5 c5) ?_)|(refine Zaz (ps:=#[(0,.agg ((sAt l i).cs p5 c5))]) 35 1 #[(0,.tmp 22)] rfl rfl (by simp;rfl) (Zds hts hsi hsz hss Zd Zd _ rfl) ?_;intro W7 B7 hle7 hB7 b7;have hB6:=hB5.setCell (p:=⟨B1,21,none⟩) hle1 (.slice p5 (sAt l i).co.length c5);have hB7':=Zaa hB6 hB7;have hown7:=Zak hown.row hB7')|(refine Zao rfl (.tmp 21) (.tmp 23) (ts:=35) (te:=115) rfl hts hsi hsz hss hsb rfl Zd rfl rfl hown7 (H:=λ_=>((sAt l i).cs p5 c5).toList) (λ_=>rfl) (λ_ _=>Zd0 _ _ _) (Zb0 b7 rfl) (λh=>by cases h) (Yak hB.size hB7'.size) Zo Zo ?_;intro p8 c8 W8 hown8 hg8 hn8)
   have hBw:=Zaa hB hB7';have hB8:=Below.appended hown7 hg8 hBw (Yab _);rw[Yba]at hown5 hn5;rw[Zas (D:=λk=>((sAt l i).co.getD k ⟨0,0,0⟩).vals.toList) (λk hk=>by unfold ccat;rw[if_neg Zo];rfl)]at hown5;have ho6:=Zax hown5 b25 Zd ((KeepBut.refl B1 W5).set 21 (.slice p5 (sAt l i).co.length c5));have ho8:=Zau (Zbc hown7 hg8 (Zak ho6 hB7) Zd) hB.size;go_roundw
   case rel=>
    refine⟨i+1,Zo,Zs,hB8,p8,c8,λk=>if k=i then p5 else cp' k,λk=>if k=i then c5 else cl' k,rfl,⟨?_,hn8,λk hk=>?_⟩⟩
    ·rw[<-Zas (C:=ccat (scell l cp' cl') i (λ_=>((sAt l i).cs p5 c5).toList))]
     ·exact hown8
     ·intro k hk
      unfold ccat scell;by_cases hki:k<i
      ·have hne:k≠i:=by omega
       dsimp only;rw[if_pos hki,if_neg hne,if_neg hne]
      ·obtain rfl:k=i:=by omega
       dsimp only;rw[if_neg hki,if_pos rfl,if_pos rfl]
    ·by_cases hki:k=i
     ·subst hki
      rw[if_pos rfl,if_pos rfl];exact⟨ho8,hn5⟩
     ·rw[if_neg hki,if_neg hki]
      have:=hown.coat k Zo;exact⟨Zbc hown7 hg8 (Zak this.1 hB7') Zd,this.2⟩
   case measure=>simp[intOf];omega
  ·obtain rfl:i=n:=by omega
   clear hrange hok;go_wp2
   go_ret
   exact⟨p',c',cp',cl',rfl,hown,hB⟩
theorem Zuw (l:List Srf) (hl:l.length<=16) (hs:∀s∈l,s.ok) (p:Option Addr) (c:Nat) (cp:Nat->Option Addr) (cl:Nat->Nat) (i:Nat) (hi:i<l.length) (k:Int) (w:World) (h:SrfsAt w p c l cp cl) :
  Calls Tryz.prog 179 #[.slice p l.length c,.int .i64 (i:Int),.int .i64 k] w λe w'=>e=.returned (.bool (hasS (sAt l i) k&&(decide (k≠9) || decide (i+1<l.length))))∧Below w.heap.size w w':=by
 have hsL:∀(s:Srf) p c,(Tryz.prog.info? 115).map (·.size)=some (s.cs p c).toList.length:=λ_ _ _=>Zk;obtain⟨b,off,rfl,hb,hrg⟩:=h.range Zo;have hrgi:=hrg i hi w (Yae _ _);have hcap:=h.row.1;have hhas:=λW (hW:Below w.heap.size w W)=>Zn4 (sAt l i) (Zig hs hi) (cp i) (cl i) k W ((h.coat i hi).below hW);clear hrg h;generalize hn:l.length=n at *;have e1:IntKind.i64.wrap ((n:Int)-1)=(n:Int)-1:=by rw[Ybi];omega
 have hwi:=λW=>Za7 (i:Int) 0 ((n:Int)-1) Zo Zo W;have hi':(i:Int)<n:=Zo;generalize hb1:hasS (sAt l i) k=b1 at *;have hsA:=hsL (sAt l i) (cp i) (cl i);generalize (sAt l i).cs (cp i) (cl i)=A at *;clear hb1;go_enter Tryz.func179,Tryz.ntmps179
 go_wp2_with first|(go_at_call 111;refine(hwi _).mono ?_;rintro e w5 ⟨rfl,h5⟩;rw[h5];clear h5 w5)|(refine Zbd (by rfl) 115 (.tmp 15) rfl b (off+i*22) rfl A.toList _ hrgi Tryz.underlying115 rfl hsA ?_)
 refine(hhas w (Yae _ _)).mono ?_;rintro e w1 ⟨rfl,hb1⟩;clear hhas hwi hrgi hsA hsL;cases b1 with
 | false =>
   go_wp2
   go_ret
   exact⟨rfl,hb1⟩
 | true =>
   go_wp2
   all_goals
    go_ret
    refine⟨?_,hb1⟩;show Ending.returned (Value.bool _)=Ending.returned (Value.bool _);congr 2
    clear hb1 hs;simp only[beq_iff_eq,beq_eq_false_iff_ne,ne_eq]at *;rw[Ycx];simp;try omega
theorem Zji {l:List Srf} {i:Nat} (hi:i<l.length):l[i]? = some (sAt l i):=by
 unfold sAt;rw[Yac,Yao hi];rfl
theorem Zmp {l:List Srf} {i:Nat} {t:Srf} (hi:i<l.length) (k:Nat):sAt (l.set i t) k=if k=i then t else sAt l k:=by
 unfold sAt;rw[Yac,Yac];by_cases h:k=i
 ·subst h
  rw[if_pos rfl,List.getElem?_set_self hi];rfl
 ·rw[if_neg h,List.getElem?_set_ne (λe=>h e.symm)]
theorem Zsd (l:List Srf) (hl:l.length<=16) (hs:∀s∈l,s.ok) (p:Option Addr) (c:Nat) (cp:Nat->Option Addr) (cl:Nat->Nat) (i:Nat) (hi:i<l.length) (k v:Int) (hv:In 32768000 v) (w:World) (h:SrfsAt w p c l cp cl) :
  Calls Tryz.prog 149 #[.slice p l.length c,.int .i64 (i:Int),.int .i64 k,.int .i64 v] w λe w'=>Below w.heap.size w w'∧(withS l (i,k,v)=none->e=.returned (.tuple #[.slice none 0 0,.bool false]))∧
   ∀m,withS l (i,k,v)=some m->∃p' c' cp' cl',e=.returned (.tuple #[.slice p' m.length c',.bool true])∧SrfsOwn w' w.heap.size p' c' m m.length cp' cl':=by
 have hsA:∀(s:Srf) p c,(Tryz.prog.info? 115).map (·.size)=some (s.cs p c).size:=λ_ _ _=>Zk;have hsL:∀(s:Srf) p c,(Tryz.prog.info? 115).map (·.size)=some (s.cs p c).toList.length:=λ_ _ _=>Zk;have hi0:(Tryz.prog.info? 115).map (·.size)=some srf0.size:=Zk;have hhas:=λW (hW:Below w.heap.size w W)=>Zuw l hl hs p c cp cl i hi k W (h.below hW);have hset:=λW (hW:Below w.heap.size w W)=>Zuv (sAt l i) (Zig hs hi) (cp i) (cl i) (h.nil i hi) k v hv W ((h.coat i hi).below hW);have hcopy:=λW (hW:Below w.heap.size w W)=>Zla l hl hs p c cp cl W (h.below hW);obtain⟨b,off,rfl,hb,hrg⟩:=h.range Zo;have hrgi:=λW hW=>hrg i hi W hW;have hcap:=h.row.1;have hget:=Zji hi;have hlen:∀t,(l.set i t).length=l.length:=λt=>List.length_set;have hsat:∀t k,sAt (l.set i t) k=if k=i then t else sAt l k:=λt k=>Zmp hi k
 have hwith:withS l (i,k,v)=if k=9∧i+1=l.length then none else(setS (sAt l i) k v).map λt=>l.set i t:=by
  unfold withS;dsimp only;rw[hget]
 clear hrg h hget;generalize hn:l.length=n at *;have hi':(i:Int)<n:=Zo;by_cases hok:hasS (sAt l i) k=true∧¬(k=9∧i+1=n)
 ·have e1:(hasS (sAt l i) k&&(decide (k≠9) || decide (i+1<n)))=true:=by
   rw[hok.1,Bool.true_and,Ybo,decide_eq_true_eq,decide_eq_true_eq];have:=hok.2;omega
  rw[e1]at hhas;rw[if_neg hok.2]at hwith;go_enter Tryz.func149,Tryz.ntmps149
  go_wp2_with fail
  refine(hhas w (Yae _ _)).mono ?_;rintro e W1 ⟨rfl,hB1⟩;have hrg1:=hrgi W1 hB1;go_wp2_with (refine wpList_load_mid rfl 115 (.tmp 21) rfl b (off+i*22) rfl _ _ hrg1 Tryz.underlying115 rfl (hsL _ _ _) ?_)
  refine(hset W1 hB1).mono ?_;rintro e W2 ⟨hb2,hno,hyes⟩;have hB2:=Zaa hB1 hb2;cases hst:setS (sAt l i) k v with
  | none =>
    obtain rfl:=hno hst;rw[hst]at hwith;clear hno hyes hset hcopy hrgi;go_wp2_with first|(refine Zan rfl 115 rfl _ Zav ?_;intro W3 B1 hle3 hB3 b1)|(refine Zab rfl 115 (.tmp 10) (.tmp 26) rfl B1 0 115 _ srf0 srf0 rfl rfl b1 hi0 (Yaa rfl) (by decide +kernel) rfl ?_;intro W4 hk4 b4)
    go_ret2
    exact⟨Zaa hB2 (hk4.below hB3 hle3 hB3.size),λ_=>rfl,λm hm=>by rw[hwith]at hm;cases hm⟩
  | some t =>
    obtain⟨p2,c2,rfl,hco2⟩:=hyes t hst;rw[hst]at hwith;clear hno hyes hset hrgi;go_wp2_with first|(refine Zan rfl 115 rfl _ Zav ?_;intro W3 B1 hle3 hB3 b1)|(refine Zab rfl 115 (.tmp 10) (.tmp 26) rfl B1 0 115 _ (t.cs p2 c2) (t.cs p2 c2) rfl rfl b1 (hsA _ _ _) (Yaa rfl) (Zbv _ _ _) rfl ?_;intro W4 hk4 b4)
    have hb4:=hk4.below hB3 hle3 hB3.size;have hB4:=Zaa hB2 hb4;refine(hcopy W4 hB4).mono ?_;rintro e W5 ⟨p5,c5,cp5,cl5,rfl,hown5,hb5⟩;have hB5:=Zaa hB4 hb5;have b5:=b4.below hb5;have hrow5:=hown5.row;obtain⟨hl5,⟨h50,h51⟩|⟨g,cap,cur,hv5,hbg,hg5,hc5,hm5,hs5,ht5⟩⟩:=id hrow5
    ·omega
    obtain⟨rfl,_,rfl⟩:p5=some ⟨g,0,none⟩∧True∧cap=c5:=by
     cases hv5;exact⟨rfl,trivial,rfl⟩
    have bg:Box W5 g 115 cur:=⟨hg5⟩
    have hcz:(t.cs p2 c2).size=22:=rfl;have hin:i*22+22<=cap*22:=Zo;have hnew:cur.toList.take (i*22)++(t.cs p2 c2).toList++cur.toList.drop (i*22+(t.cs p2 c2).size)=(cur.toList.take (i*22)++(t.cs p2 c2).toList++cur.toList.drop (i*22+22)).toArray.toList:=by rw[hcz]
    have hlt5:i<cap:=Zo;clear hcopy;go_wp2_with first|(refine Zac rfl 115 (.tmp 10) rfl B1 rfl 115 _ b5 _ Tryz.underlying115 rfl (hsA _ _ _) ?_)|(refine Zab rfl 115 (.tmp 35) (.tmp 34) rfl g (i*22) 115 cur (t.cs p2 c2) _ rfl rfl bg (hsA _ _ _) (by rw[hcz,hs5];exact hin) (Zbv _ _ _) hnew ?_;intro W6 hk6 b6)
    go_ret2
    have hwb:w.heap.size<=g:=Yak hB4.size hbg;have hB6:=hk6.below hB5 hwb hB5.size;refine⟨hB6,(λhm=>by rw[hwith]at hm;cases hm),λm hm=>?_⟩;rw[hwith]at hm;cases hm;refine⟨some ⟨g,0,none⟩,cap,λq=>if q=i then p2 else cp5 q,λq=>if q=i then c2 else cl5 q,by rw[hlen];rfl,?_⟩;rw[hlen];refine⟨?_,λh=>(by cases h),λq hq=>?_⟩
    ·have hu:=Zg9 (C:=scell l cp5 cl5) (t:=(t.cs p2 c2).toList) (λ_=>rfl) rfl (Zau hrow5 hB4.size) bg hi hnew b6
     rw[<-Zas (C:=cupd (scell l cp5 cl5) i (t.cs p2 c2).toList)]
     ·exact hu
     ·intro q hq
      unfold cupd scell;dsimp only;rw[hsat];by_cases hqi:q=i
      ·rw[if_pos hqi,if_pos hqi,if_pos hqi,if_pos hqi]
      ·rw[if_neg hqi,if_neg hqi,if_neg hqi,if_neg hqi]
    ·rw[hsat]
     by_cases hqi:q=i
     ·rw[if_pos hqi,if_pos hqi,if_pos hqi]
      exact⟨Zau (Zax (Zak hco2.1 (Zaa hb4 hb5)) bg Zd hk6) hB1.size,hco2.2⟩
     ·rw[if_neg hqi,if_neg hqi,if_neg hqi]
      have:=hown5.coat q hq;exact⟨Zau (Zax this.1 bg Zd hk6) hB4.size,this.2⟩
 ·have e1:(hasS (sAt l i) k&&(decide (k≠9) || decide (i+1<n)))=false:=by
   cases hh:hasS (sAt l i) k with
   | false=>rfl
   | true =>
     rw[Bool.true_and,Bool.or_eq_false_iff,decide_eq_false_iff_not,decide_eq_false_iff_not];have:=Classical.not_not.1 λh2=>hok ⟨hh,h2⟩;omega
  have hw0:withS l (i,k,v)=none:=by
   rw[hwith];split
   ·rfl
   ·rename_i h2
    have h3:¬hasS (sAt l i) k=true:=λhh=>hok ⟨hh,h2⟩;unfold setS;rw[if_neg λh=>h3 h.1];rfl
  rw[e1]at hhas;clear hset hcopy hrgi hwith;go_enter Tryz.func149,Tryz.ntmps149
  go_wp2_with fail
  refine(hhas w (Yae _ _)).mono ?_;rintro e W1 ⟨rfl,hB1⟩;go_wp2
  go_ret2
  exact⟨hB1,λ_=>rfl,λm hm=>by rw[hw0]at hm;cases hm⟩
def chgC (c:Chg):Array Value:=#[.int .i64 (c.1:Int),.int .i64 c.2.1,.int .i64 c.2.2]
def cAt (cs:List Chg) (i:Nat):Chg:=cs.getD i (0,0,0)
def ChgsAt (w:World) (p:Option Addr) (c:Nat) (cs:List Chg):Prop:=RdC w p cs.length c 3 (λi j=>(chgC (cAt cs i)).getD j undef)
theorem ChgsAt.below {w w':World} {p:Option Addr} {c:Nat} {cs:List Chg} (h:ChgsAt w p c cs) (hB:Below w.heap.size w w'):ChgsAt w' p c cs:=RdC.below h hB
theorem Zlb (w:World):(Instr.alloc 188 true (.tuple #[])).run Tryz.prog w=.ok (.pointer (some ⟨w.heap.size,0,none⟩)) (w.alloc (.cells #[.int .i64 0,.int .i64 0,.int .i64 0] 188)):=by
 go_simp
theorem Zx7 {w:World} {b off:Nat} {c:Chg} {i:Nat} (h:∀j,j<3->w.cell? ⟨b,off+i*3+j,none⟩=some ((chgC c).getD j undef)):w.rangeAt b (off+i*3) (chgC c).toList:=λj v hv=>by
 have hj:j<3:=(Yan.1 hv).1;refine(h j hj).trans ?_;rw[Yaq]at hv;rw[Yax,hv];rfl
theorem SrfsOwn.low {w:World} {base base':Nat} {p:Option Addr} {c:Nat} {l:List Srf} {i:Nat} {cp:Nat->Option Addr} {cl:Nat->Nat} (h:SrfsOwn w base p c l i cp cl) (hb:base'<=base):SrfsOwn w base' p c l i cp cl:=
 ⟨Zau h.row hb,h.nil,λk hk=>⟨Zau (h.coat k hk).1 hb,(h.coat k hk).2⟩⟩
theorem SrfsOwn.below {w w':World} {base:Nat} {p:Option Addr} {c:Nat} {l:List Srf} {i:Nat} {cp:Nat->Option Addr} {cl:Nat->Nat} (h:SrfsOwn w base p c l i cp cl) (hB:Below w.heap.size w w'):SrfsOwn w' base p c l i cp cl:=
 ⟨Zak h.row hB,h.nil,λk hk=>⟨Zak (h.coat k hk).1 hB,(h.coat k hk).2⟩⟩
theorem Zhb (l:List Srf) (hl:l.length<=16) (hs:∀s∈l,s.ok) (p:Option Addr) (c:Nat) (cp:Nat->Option Addr) (cl:Nat->Nat) (cs:List Chg) (hcn:cs.length<=12) (hci:∀i,i<cs.length->(cAt cs i).1<l.length∧In 32768000 (cAt cs i).2.2)
  (pc:Option Addr) (cc:Nat) (w:World) (h:SrfsAt w p c l cp cl) (hc:ChgsAt w pc cc cs) :
  Calls Tryz.prog 109 #[.slice p l.length c,.slice pc cs.length cc] w λe w'=>Below w.heap.size w w'∧(madeS l cs=none->e=.returned (.tuple #[.slice none 0 0,.bool false]))∧
   ∀m,madeS l cs=some m->∃p' c' cp' cl',e=.returned (.tuple #[.slice p' m.length c',.bool true])∧SrfsOwn w' w.heap.size p' c' m m.length cp' cl':=by
 have hzc:∀c:Chg,(Tryz.prog.info? 188).map (·.size)=some (chgC c).size:=λ_=>Zk;have hzl:∀c:Chg,(Tryz.prog.info? 188).map (·.size)=some (chgC c).toList.length:=λ_=>Zk;have h1c:∀c:Chg,(chgC c).all (·.oneCell')=true:=λc=>by simp[chgC,Value.oneCell']
 have hcopy:=λW (hW:Below w.heap.size w W)=>Zla l hl hs p c cp cl W (h.below hW);have hkept:∀{n:Nat} {m:List Srf},n<=cs.length->madeN l cs n=some m->KeptL l m:=λhn e=>Zfq hs (λi hi=>(hci i hi).2) hn e;have hfull:madeN l cs cs.length=madeS l cs:=rfl;generalize hS:madeS l cs=S at *;clear hS h;obtain⟨hcc,hcm,hcx⟩:=hc;have hdup:∀i m,madeN l cs i=some m->dupS cs i->madeN l cs (i+1)=none:=λi m e hd=>by
  show(madeN l cs i).bind _=_;rw[e,Yfq,if_pos hd]
 have hnew:∀i m,madeN l cs i=some m->¬dupS cs i->madeN l cs (i+1)=withS m (cAt cs i):=λi m e hd=>by
  show(madeN l cs i).bind _=_;rw[e,Yfq,if_neg hd];rfl
 generalize hn:cs.length=n at *;go_enter Tryz.func109,Tryz.ntmps109
 go_wp2_with fail
 refine(hcopy w (Yae _ _)).mono ?_;rintro e W1 ⟨p1,c1,cp1,cl1,rfl,hown1,hB1⟩;clear hcopy;go_wp2
 go_loopw [6,7] (λv x wr=>∃i:Nat,i<=n∧x=.int .i64 (i:Int)∧Below w.heap.size w wr∧∃m p' c' cp' cl',madeN l cs i=some m∧v=.slice p' m.length c'∧SrfsOwn wr w.heap.size p' c' m m.length cp' cl') (λ_ x _=>(n-intOf x).toNat)
 case atStart=>exact⟨0,Yat _,rfl,hB1,l,p1,c1,cp1,cl1,rfl,rfl,hown1⟩
 case round=>
  obtain⟨i,hi,rfl,hB,m,p',c',cp',cl',hm,rfl,hown⟩:=hrel;by_cases hin:i<n
  ·obtain⟨b,off,rfl,hb,hcell⟩:=hcx Zo
   have hi':(i:Int)<n:=Zo;have hce:=λW (hW:Below w.heap.size w W) k (hk:k<n) j (hj:j<3)=>(hW.cell (p:=⟨b,off+k*3+j,none⟩) hb).trans (hcell k j hk hj);have hrg:=Zx7 (hce wr hB i hin);have hkm:=hkept Zo hm;clear hcell hcx;go_wp2_with first|(refine wpList_load_mid rfl 188 (.tmp 22) rfl b (off+i*3) rfl (chgC (cAt cs i)).toList _ hrg Tryz.underlying188 rfl (hzl _) ?_)|(refine Zan rfl 188 rfl _ Zlb ?_;intro W2 B2 hle2 hB2 b2)|(refine Zab rfl 188 (.tmp 8) (.tmp 23) rfl B2 0 188 _ (chgC (cAt cs i)) (chgC (cAt cs i)) rfl rfl b2 (hzc _) (Yaa rfl) (h1c _) rfl ?_;intro W3 hk3 b3)
   have hw3:=hk3.below hB2 hle2 hB2.size;have hB3:=Zaa hB hw3;go_loopw [9] (λx w6=>∃j:Nat,j<=i∧x=.int .i64 (j:Int)∧(∀k,k<j->¬((cAt cs k).1=(cAt cs i).1∧(cAt cs k).2.1=(cAt cs i).2.1))∧∃q,w6=W3.drewN q) (λx _=>(i-intOf x).toNat)
   case atStart=>exact⟨0,Yat _,rfl,λk hk=>Zo,0,rfl⟩
   case round=>
    obtain⟨j,hj,rfl,hne,q,rfl⟩:=hrel;have hBq:Below w.heap.size w (W3.drewN q):=below_drewN hB3 q;have k0:W3.cell? ⟨B2,0,none⟩=some (.int .i64 ((cAt cs i).1:Int)):=b3.cell 0;have k1:W3.cell? ⟨B2,1,none⟩=some (.int .i64 (cAt cs i).2.1):=b3.cell 1;have k2:W3.cell? ⟨B2,2,none⟩=some (.int .i64 (cAt cs i).2.2):=b3.cell 2;have lq:=b3.lt;by_cases hji:j<i
    ·have a0:W3.cell? ⟨b,off+j*3+0,none⟩=some (.int .i64 ((cAt cs j).1:Int)):=hce _ hB3 j Zo 0 Zd
     have a1:W3.cell? ⟨b,off+j*3+1,none⟩=some (.int .i64 (cAt cs j).2.1):=hce _ hB3 j Zo 1 Zd;rw[Yce]at a0;have hji':(j:Int)<i:=Zo;have hjn':(j:Int)<n:=Zo;by_cases e0:(cAt cs j).1=(cAt cs i).1
     ·by_cases e1 : (cAt cs j).2.1 = (cAt cs i).2.1
      ·have hS0:S=none:=by rw[<-hfull];exact Zfp (show i+1<=n by omega) (hdup i m hm ⟨j,hji,e0,e1⟩)
       rw[e0]at a0;rw[e1]at a1;clear hce hkept hdup hnew hne;generalize (((cAt cs i).1:Nat):Int)=z0 at *;generalize (cAt cs i).2.1=z1 at *;go_wp2
       go_quiet (fail)
       go_wp2
       go_ret2
       exact⟨below_drewN hBq _,λ_=>rfl,λm hm=>by rw[hS0]at hm;cases hm⟩
      ·rw[e0]at a0
       have hne':∀k,k<j+1->¬((cAt cs k).1=(cAt cs i).1∧(cAt cs k).2.1=(cAt cs i).2.1):=λk hk=>by
        by_cases hkj:k=j
        ·subst hkj
         exact λh=>e1 h.2
        ·exact hne k Zo
       replace hne':=Yah hne';clear hce hkept hdup hnew hne;generalize (((cAt cs i).1:Nat):Int)=z0 at *;generalize (cAt cs i).2.1=z1 at *;generalize (cAt cs j).2.1=z2 at *;have e2:(z2==z1)=false:=beq_eq_false_iff_ne.2 e1;go_wp2
       go_quiet (fail)
       go_wp2
       go_roundw
       case rel=>exact⟨j+1,Zo,Zs,hne'.out,_,rfl⟩
       case measure=>simp[intOf];omega
     ·have hne':∀k,k<j+1->¬((cAt cs k).1=(cAt cs i).1∧(cAt cs k).2.1=(cAt cs i).2.1):=λk hk=>by
       by_cases hkj:k=j
       ·subst hkj
        exact λh=>e0 h.1
       ·exact hne k Zo
      replace hne':=Yah hne';have e2:(((cAt cs j).1:Int)==((cAt cs i).1:Int))=false:=beq_eq_false_iff_ne.2 Zo;have e3:¬(((cAt cs j).1:Int)=((cAt cs i).1:Int)):=Zo;clear hce hkept hdup hnew hne;generalize (((cAt cs i).1:Nat):Int)=z0 at *;generalize (((cAt cs j).1:Nat):Int)=z1 at *;go_wp2
      go_quiet (fail)
      go_wp2
      go_roundw
      case rel=>exact⟨j+1,Zo,Zs,hne'.out,_,rfl⟩
      case measure=>simp[intOf];omega
    ·obtain rfl:j=i:=by omega
     have hnd:¬dupS cs j:=by
      rintro⟨k,hk,h1,h2⟩;exact hne k hk ⟨h1,h2⟩
     have hstep:=hnew j m hm hnd;have hlen:=hkm.len;have hA:=hown.at Zo hkm.ok;have hlt:=(hci j hin).1;have hvv:=(hci j hin).2;have hW:=λW (hW:Below W3.heap.size W3 W)=>Zsd m Zo hkm.ok p' c' cp' cl' (cAt cs j).1 Zo (cAt cs j).2.1 (cAt cs j).2.2 hvv W (hA.below (Zaa hw3 hW));have hmN:=@Zfp l cs (j+1) n Zo;clear hce hkept hdup hnew hne hci hkm hA hown hcc hcm hlt hvv hlen;generalize hc':cAt cs j=cj at *;go_wp2_with fail
     refine(hW _ (below_drewN (Yae _ _) q)).mono ?_;rintro e W4 ⟨hb4,hno,hyes⟩;have hB4:=Zaa hBq hb4;cases hst:withS m cj with
     | none =>
       obtain rfl:=hno hst;have hS0:S=none:=by rw[<-hfull];exact hmN (hstep.trans hst)
       go_wp2
       go_ret2
       exact⟨hB4,λ_=>rfl,λm hm=>by rw[hS0]at hm;cases hm⟩
     | some m2 =>
       obtain⟨p5,c5,cp5,cl5,rfl,hown5⟩:=hyes m2 hst;go_wp2
       go_roundw
       case rel=>exact⟨j+1,Zo,Zs,hB4,m2,p5,c5,cp5,cl5,hstep.trans hst,rfl,hown5.low hBq.size⟩
       case measure=>simp[intOf];omega
  ·obtain rfl:i=n:=by omega
   have hS0:S=some m:=by rw[<-hfull];exact hm
   have hn12:(i:Int)<=12:=Zo;clear hcx;go_wp2
   go_ret2
   refine⟨hB,(λh=>by rw[hS0]at h;cases h),λm' hm'=>?_⟩;rw[hS0]at hm';cases hm';exact⟨p',c',cp',cl',rfl,hown⟩
end Go.Proofs.W
