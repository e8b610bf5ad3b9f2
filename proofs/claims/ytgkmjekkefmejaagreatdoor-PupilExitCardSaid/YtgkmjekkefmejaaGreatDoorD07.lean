/- The drafted optics of chapter 13: what it is and that it is valid. Part 7 of 16. No condition beside the row. -/
import Derived.Test.YtgkmjekkefmejaaGreatDoorD06
set_option linter.unusedVariables false
set_option linter.unusedSimpArgs false
set_option maxRecDepth 100000
set_option maxHeartbeats 4000000
namespace Go.Proofs.W
open Go.RowKit Go.Mono
def ParAt (k:Int) (off:Nat):Prop:=
 k=1∧off=1∨k=2∧off=2∨k=3∧off=3∨k=4∧off=4∨k=5∧off=5∨k=6∧off=6∨k=7∧off=7∨k=8∧off=8∨k=9∧off=12∨k=10∧off=14∨k=11∧off=16∨k=12∧off=17∨k=13∧off=18∨k=14∧off=19∨k=15∧off=20∨k=16∧off=9∨k=17∧off=10
theorem Zlz {w:World} {p:Option Addr} {n c:Nat} {F:Nat->Flm} (h:FilmsAt w p n c F):RdC w p n c 3 (λi j=>((F i).vals.toList).getD j undef):=by
 obtain⟨h1,h2,h3⟩:=h;refine⟨h1,h2,λh0=>?_⟩;obtain⟨b,off,hp,hb,hc⟩:=h3 h0;refine⟨b,off,hp,hb,λi j hi hj=>(hc i j hi hj).trans ?_⟩;rcases(by omega:j=0∨j=1∨j=2) with rfl|rfl|rfl<;>rfl
theorem Zvw (k v:Int) (off:Nat) (hko:ParAt k off) (A:Array Value) (hA:A.size=22) (h1:A.all (·.oneCell')=true) (p:Option Addr) (n c:Nat) (hn:n<=8) (g21:A[21]? = some (.slice p n c)) (F:Nat->Flm) (b:Bool) (w:World)
  (hfs:FilmsAt w p n c F) (hnil:p=none->n=0∧c=0)
  (hr:∀W,Below w.heap.size w W->Calls Tryz.prog 199 #[.agg A] W λe w'=>e=.returned (.bool true)∧Below W.heap.size W w')
  (hh:∀W,Below w.heap.size w W->Calls Tryz.prog 246 #[.agg A,.int .i64 k] W λe w'=>e=.returned (.bool true)∧Below W.heap.size W w')
  (hr2:∀W,Below w.heap.size w W->Calls Tryz.prog 199 #[.agg (A.setIfInBounds off (.int .i64 v))] W λe w'=>e=.returned (.bool b)∧Below W.heap.size W w') :
  Calls Tryz.prog 222 #[.agg A,.int .i64 k,.int .i64 v] w λe w'=>Below w.heap.size w w'∧(b=false->e=.returned (.tuple #[.agg srf0,.int .i64 2]))∧
   (b=true->∃p' c',e=.returned (.tuple #[.agg ((A.setIfInBounds off (.int .i64 v)).setIfInBounds 21 (.slice p' n c')),.int .i64 0])∧w'.ownsRow w.heap.size 270 3 (.slice p' n c') n (crow (λi=>(F i).vals.toList) n)∧(p'=none->n=0∧c'=0)):=by
 have hi:(Tryz.prog.info? 85).map (·.size)=some A.size:=by rw[hA];kernel_rfl
 have hi0:(Tryz.prog.info? 85).map (·.size)=some srf0.size:=Zk;have hge:∀i,i<22->∃x,A[i]? = some x:=λi hi=>⟨A[i],Yby Zo⟩
 go_enter Tryz.func222,Tryz.ntmps222
 go_wp2_with (refine Zb6 (T0:=85) λW hB hsz b0 b1=>?_;refine Zac rfl 85 (.tmp 3) rfl w.heap.size rfl 85 A b0 _ Tryz.underlying85 rfl hi ?_)
 refine(hr W hB).mono ?_;rintro e W1 ⟨rfl,hb⟩;replace hB:=Zaa hB hb;replace b0:=b0.below hb;replace b1:=b1.below hb;go_wp2_with (refine Zac rfl 85 (.tmp 3) rfl w.heap.size rfl 85 A b0 _ Tryz.underlying85 rfl hi ?_)
 refine(hh W1 hB).mono ?_;rintro e W2 ⟨rfl,hb2⟩;replace hB:=Zaa hB hb2;replace b0:=b0.below hb2;replace b1:=b1.below hb2;have hfW:=hfs.below hB;have f0:=b0.frozen;have l0:=b0.lt;clear hr hh hb hb2 hsz;unfold ParAt at hko;have hset:∀o x,Below w.heap.size w (W2.setCell ⟨w.heap.size,o,none⟩ x):=λo x=>hB.setCell (p:=⟨w.heap.size,o,none⟩) (Yab _) x;have hiS:∀o x,(Tryz.prog.info? 85).map (·.size)=some (A.setIfInBounds o x).size:=λo x=>by rw[Yea];exact hi
 have hiT:∀o x o' x',(Tryz.prog.info? 85).map (·.size)=some ((A.setIfInBounds o x).setIfInBounds o' x').size:=λo x o' x'=>by rw[Yea,Yea];exact hi
 have hzT:∀o x o' x',((A.setIfInBounds o x).setIfInBounds o' x').size=srf0.size:=λo x o' x'=>by rw[Yea,Yea];exact hA
 have h1T:∀o x p' c',x.oneCell'=true->((A.setIfInBounds o x).setIfInBounds 21 (.slice p' n c')).all (·.oneCell')=true:=λo x p' c' hx=>by
  rw[Array.all_eq_true']at h1 ⊢;intro u hu;rcases Array.mem_or_eq_of_mem_setIfInBounds hu with hu|rfl
  ·rcases Array.mem_or_eq_of_mem_setIfInBounds hu with hu|rfl
   ·exact h1 u hu
   ·exact hx
  ·rfl
 have g21':∀o x,o<21->(A.setIfInBounds o x)[21]? = some (.slice p n c):=λo x ho=>by rw[Array.getElem?_setIfInBounds_ne Zo];exact g21
 have e1:∀i,i<22->∃x,W2.cell? ⟨w.heap.size,i,none⟩=some x:=λi hi=>by
  obtain⟨x,hx⟩:=hge i hi;exact⟨x,(b0.cell i).trans hx⟩
 obtain⟨fi,hfi,hfz,hfs',hfb⟩:=Zbb Zhl;have htf:Tryz.prog.underlying 83=some (.slice 270):=Tryz.underlying83;have hvl:∀i,((F i).vals.toList).length=3:=λ_=>rfl;have hv1:∀i,i<n->∀u∈(F i).vals.toList,u.oneCell'=true:=λi _ u hu=>by
  simp[Flm.vals]at hu;rcases hu with rfl|rfl|rfl<;>rfl
 have ho:off<21:=Zo;obtain⟨x1,c1⟩:=e1 off Zo;clear hA hge e1 ho;rcases hko with ⟨rfl,rfl⟩|⟨rfl,rfl⟩|⟨rfl,rfl⟩|⟨rfl,rfl⟩|⟨rfl,rfl⟩|⟨rfl,rfl⟩|⟨rfl,rfl⟩|⟨rfl,rfl⟩|⟨rfl,rfl⟩|⟨rfl,rfl⟩|⟨rfl,rfl⟩|⟨rfl,rfl⟩|⟨rfl,rfl⟩|⟨rfl,rfl⟩|⟨rfl,rfl⟩|⟨rfl,rfl⟩|⟨rfl,rfl⟩
 all_goals
  go_wp2_with (refine Zac rfl 85 (.tmp 3) rfl w.heap.size rfl 85 _ (b0.set _ (.int .i64 v)) _ Tryz.underlying85 rfl (hiS _ _) ?_)
  refine(hr2 _ (hset _ _)).mono ?_;rintro e W3 ⟨rfl,hb3⟩;have hB3:=Zaa (hset _ _) hb3;have b03:=(b0.set _ _).below hb3;have b13:=(b1.other _ _ Zs).below hb3;clear hb3 b0 b1 hB c1 f0 l0 hset;cases b with
  | false =>
    go_wp2_with first|(refine Zao rfl 85 _ rfl srf0 Zx ?_)|(refine Zab rfl 85 (.tmp 6) _ rfl (w.heap.size+1) 0 85 _ srf0 srf0 rfl rfl b13 hi0 (Yaa rfl) (by decide +kernel) rfl ?_;intro W4 hk4 b4)
    refine bodyPost_ret (b4.resultsT rfl _ _ rfl Tryz.underlying85 rfl hi0) rfl ?_;exact⟨hk4.below hB3 Zo hB3.size,rfl⟩
  | true =>
    go_wp2_with first|(refine Za0 (ps:=#[]) 83 0 #[] rfl rfl Zs Zwl ?_;intro W4 B4 hle4 hB4 b4;have hB4':=Zaa hB3 hB4;have b04:=b03.below hB4;have b14:=b13.below hB4;have cs4:=(b04.cell 21).trans (g21' _ _ Zd);have lw4:=b04.lt;have hown4:W4.ownsRow w.heap.size 270 3 (.slice (some ⟨B4,0,none⟩) 0 0) 0 (crow (λi=>(F i).vals.toList) 0):=Zcu b4 (Yak hB3.size hle4) Zd hvl rfl)|(refine Zan rfl (.tmp 79) (.tmp 81) (ts:=83) (te:=270) rfl htf hfi hfz hfs' hfb rfl Zd rfl rfl hown4 hvl hv1 (Zlz (hfs.below hB4')) hnil hB4'.size Zo Zo ?_;intro p' c' W5 hown5 hg5 hn5;have b05:=b04.appended hown4 hg5 (Zd);have b15:=b14.appended hown4 hg5 (Zd);have hB5:=Below.appended hown4 hg5 hB4' (Yab _);have cs5:=(b05.cell 21).trans (g21' _ _ Zd);have fr5:=b05.frozen;have lw5:=b05.lt;clear cs4 lw4)|(refine Zac rfl 85 (.tmp 3) rfl w.heap.size rfl 85 _ (b05.set 21 (.slice p' n c')) _ Tryz.underlying85 rfl (hiT _ _ _ _) ?_)|(refine Zab rfl 85 (.tmp 6) _ rfl (w.heap.size+1) 0 85 _ _ _ rfl rfl (b15.other ⟨w.heap.size,21,none⟩ (.slice p' n c') Zs) (hiT _ _ _ _) (Ybl (by rw[hzT];rfl)) (h1T _ _ _ _ rfl) (Zag (hzT _ _ _ _).symm) ?_;intro W7 hk7 b7)
    rw[Yba]at hown5 hn5;rw[Zas (D:=λi=>(F i).vals.toList) (λi hi=>by unfold ccat;rw[if_neg Zo];rfl)]at hown5;have hB6:=hB5.setCell (p:=⟨w.heap.size,21,none⟩) (Yab _) (.slice p' n c');have hown6:=Zay hown5 b05 Zd ((KeepBut.refl w.heap.size W5).set 21 (.slice p' n c'));have hown7:=Zay hown6 (b15.other ⟨w.heap.size,21,none⟩ (.slice p' n c') Zs) Zd hk7;refine bodyPost_ret (b7.resultsT rfl _ _ rfl Tryz.underlying85 rfl (hiT _ _ _ _)) rfl ?_;exact⟨hk7.below hB6 Zo hB6.size,p',c',rfl,hown7,hn5⟩
end Go.Proofs.W
