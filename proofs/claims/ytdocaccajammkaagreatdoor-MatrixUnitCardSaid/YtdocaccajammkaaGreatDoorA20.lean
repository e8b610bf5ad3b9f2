/- Contracts of package matrix,and a verified evaluator. Part 20 of 28. No condition beside the row. -/
import Derived.Test.YtdocaccajammkaaGreatDoorA02
import Derived.Test.YtdocaccajammkaaGreatDoorA13
import Derived.Test.YtdocaccajammkaaGreatDoorA17
import Derived.Test.YtdocaccajammkaaGreatDoorA18
set_option linter.unusedVariables false
set_option linter.unusedSimpArgs false
set_option maxRecDepth 100000
set_option maxHeartbeats 4000000
namespace Go.Proofs.W
open Go.RowKit Go.Mono
theorem Zpg (s:Srf) (hs:s.ok) (p:Option Addr) (c B:Nat) (w:World) (b0:Box w B 160 (s.cs p c)) (hco:CoatAt w p c s.co) :
  Calls Tryz.prog 292 #[.pointer (some ⟨B,0,none⟩)] w λe w'=>e=.returned (.bool true)∧Below w.heap.size w w':=by
 have hsz:(Tryz.prog.info? 160).map (·.size)=some (s.cs p c).size:=Zk;have f0:w.cell? ⟨B,0,none⟩=some (.int .i64 s.kind):=b0.cell 0;have lb0:=b0.lt;have hkept:=λW=>Zwk s hs p c W;have hsame:=λp' c' W (hW:Below w.heap.size w W) (h:s.co=[]∨p'=p∧c'=c)=>Zwl s hs p p' c c' W (hco.below hW) ((hco.below hW).alt h);have k1:=hs.k1;have k2:=hs.k2;clear hs hco;generalize s.kind=kd at *;generalize s.cs p c=A at *;go_enter Tryz.func292,Tryz.ntmps292
 go_wp2_with fail
 refine wp_region_held_drew (S:=λw'=>(∀b o,b<w.heap.size->w'.cell? ⟨b,o,none⟩=w.cell? ⟨b,o,none⟩)∧Below w.heap.size w w') Zk (Za2 (Yae _ _).drew) (λhHeld=>?_);refine tk 0 (some 2) ?_;refine tk 1 (some 3) ?_;refine Mono.st 2 ?_;intro K hK;go_simp
 refine kp hK (Za2 (Zad hHeld.2 _)) (λhHeld=>?_);clear hK K;refine Mono.st 3 ?_;intro K hK;go_simp
 (refine(Zfk 1 4 1 _ _ (λ_=>kd) _ (.box (Box.new w 3 #[.int .i64 kd]).drew 0 1 _ (λi hi=>by obtain rfl:i=0:=(Zo);rfl) Zo) (λ_ _=>⟨k1,k2⟩)).mono ?_;rintro e W1 ⟨rfl,hb⟩)
 refine kp hK (Za2 (Zaa hHeld.2 hb)) (λhHeld=>?_);clear hK K;clear hb;refine tk 4 (some 6) ?_;refine tl 5 (some 7) rfl (.agg A) (Zaj 160 _ rfl B 0 rfl A (λw h=>(b0.below h.2).range) _ Tryz.underlying160 rfl hsz) ?_;refine tl 6 (some 8) rfl (.agg A) (Zaj 160 _ rfl B 0 rfl A (λw h=>(b0.below h.2).range) _ Tryz.underlying160 rfl hsz) ?_;refine Mono.st 7 ?_;intro K hK;go_simp
 (refine(hkept _).mono ?_;rintro e W2 ⟨⟨p',c',rfl,hpc⟩,hb⟩)
 refine kp hK (Za2 (Zaa hHeld.2 hb)) (λhHeld=>?_);clear hK K;clear hb;refine Mono.st 8 ?_;intro K hK;go_simp
 (refine(hsame p' c' _ hHeld.2 hpc).mono ?_;rintro e W3 ⟨rfl,hb⟩)
 refine kp hK (Za2 (Zaa hHeld.2 hb)) (λhHeld=>?_);clear hK K;clear hb;refine tk 9 (some 11) ?_;refine tk 10 (some 1) ?_;refine wpAnyH_done Zk ?_ _;go_wp2
 go_ret
 exact⟨rfl,hHeld.2⟩
theorem Zrp (w:World):(Instr.alloc 331 true (.tuple #[])).run Tryz.prog w=.ok (.pointer (some ⟨w.heap.size,0,none⟩)) (w.alloc (.cells #[.nilFunc,.nilFunc,.nilFunc,.nilFunc,.nilFunc,.nilFunc,.nilFunc] 331)):=by
 go_simp
def tests7 (B:Nat):Array Value:=#[.func (.func 292) #[] #[.pointer (some ⟨B,0,none⟩)],.func (.func 296) #[] #[.pointer (some ⟨B,0,none⟩)],.func (.func 298) #[] #[.pointer (some ⟨B,0,none⟩)],.func (.func 299) #[] #[.pointer (some ⟨B,0,none⟩)],.func (.func 300) #[] #[.pointer (some ⟨B,0,none⟩)],.func (.func 301) #[] #[.pointer (some ⟨B,0,none⟩)],.func (.func 302) #[] #[.pointer (some ⟨B,0,none⟩)]]
theorem Zk8:(∀args w,(callFunc 292 args).run Tryz.prog w=.ok (.enter 292 args) w)∧(∀args w,(callFunc 296 args).run Tryz.prog w=.ok (.enter 296 args) w)∧(∀args w,(callFunc 298 args).run Tryz.prog w=.ok (.enter 298 args) w)∧(∀args w,(callFunc 299 args).run Tryz.prog w=.ok (.enter 299 args) w)∧(∀args w,(callFunc 300 args).run Tryz.prog w=.ok (.enter 300 args) w)∧(∀args w,(callFunc 301 args).run Tryz.prog w=.ok (.enter 301 args) w)∧(∀args w,(callFunc 302 args).run Tryz.prog w=.ok (.enter 302 args) w):=
 ⟨Go.Proofs.enters_of Tryz.func292 Zk rfl,Go.Proofs.enters_of Tryz.func296 Zk rfl,Go.Proofs.enters_of Tryz.func298 Zk rfl,Go.Proofs.enters_of Tryz.func299 Zk rfl,Go.Proofs.enters_of Tryz.func300 Zk rfl,Go.Proofs.enters_of Tryz.func301 Zk rfl,Go.Proofs.enters_of Tryz.func302 Zk rfl⟩
theorem Zk9 (A:Array Value) (p:Option Addr) (c n:Nat) (F:Nat->Flm) (hF:∀i,i<n->(F i).ok) (hn8:n<=8) (a21:A[21]? = some (.slice p n c)) (w:World) (hfs:FilmsAt w p n c F)
  (h1:∀W B,Below w.heap.size w W->Box W B 160 A->Calls Tryz.prog 292 #[.pointer (some ⟨B,0,none⟩)] W λe w'=>e=.returned (.bool true)∧Below W.heap.size W w')
  (h2:∀W B,Below w.heap.size w W->Box W B 160 A->Calls Tryz.prog 296 #[.pointer (some ⟨B,0,none⟩)] W λe w'=>e=.returned (.bool true)∧Below W.heap.size W w')
  (h3:∀W B,Below w.heap.size w W->Box W B 160 A->Calls Tryz.prog 298 #[.pointer (some ⟨B,0,none⟩)] W λe w'=>e=.returned (.bool true)∧Below W.heap.size W w')
  (h4:∀W B,Below w.heap.size w W->Box W B 160 A->Calls Tryz.prog 299 #[.pointer (some ⟨B,0,none⟩)] W λe w'=>e=.returned (.bool true)∧Below W.heap.size W w')
  (h5:∀W B,Below w.heap.size w W->Box W B 160 A->Calls Tryz.prog 300 #[.pointer (some ⟨B,0,none⟩)] W λe w'=>e=.returned (.bool true)∧Below W.heap.size W w')
  (h6:∀W B,Below w.heap.size w W->Box W B 160 A->Calls Tryz.prog 301 #[.pointer (some ⟨B,0,none⟩)] W λe w'=>e=.returned (.bool true)∧Below W.heap.size W w')
  (h7:∀W B,Below w.heap.size w W->Box W B 160 A->Calls Tryz.prog 302 #[.pointer (some ⟨B,0,none⟩)] W λe w'=>e=.returned (.bool true)∧Below W.heap.size W w')
  : Calls Tryz.prog 280 #[.agg A] w λe w'=>e=.returned (.int .i64 0)∧Below w.heap.size w w':=by
 have hmf:∀(fn:Fn) (first cap:Array Value) (w:World),(Instr.makeFunc fn first cap).run Tryz.prog w=.ok (.func fn first cap) w:=λ_ _ _ _=>rfl;go_enter Tryz.func280,Tryz.ntmps280
 go_wp2
 refine Zbs λW hB hs b0=>?_;have hi7:(Tryz.prog.info? 331).map (·.size)=some 7:=Zk;go_step3
 go_wp2_with first|(refine Zan rfl 331 rfl _ Zrp ?_;intro W1 B1 hle hB1 b1)|(refine Zab rfl 331 (.tmp 3) (.tmp 16) rfl B1 0 331 _ (tests7 w.heap.size) (tests7 w.heap.size) rfl rfl b1 hi7 (Yaa rfl) (by simp[tests7,Value.oneCell']) rfl ?_;intro W2 hk2 b2)|(refine Zac rfl 331 (.tmp 3) rfl B1 rfl 331 _ b2 _ Tryz.underlying331 rfl hi7 ?_)
 have lb0:=b0.lt;have hBW:Below w.heap.size w W2:=hk2.below (Zaa hB hB1) Zo (by have:=hB1.size;omega);have b02:Box W2 w.heap.size 160 A:=hk2.box (b0.below hB1) (by have:=hB1.size;omega) Zo;clear hk2;go_step3
 go_wp2_with first|(refine Zac rfl 331 (.tmp 3) rfl B1 rfl 331 _ b2 _ Tryz.underlying331 rfl hi7 ?_)
 clear b0 b1 b2 hB1 hle hB;obtain⟨g1,g2,g3,g4,g5,g6,g7⟩:=Zk8;go_loopw [4,18] (λl a wr=>∃k:Nat,k<=7∧l=.int .i64 0∧a=.int .i64 (k:Int)∧Below W2.heap.size W2 wr) (λ_ a _=>(7-intOf a).toNat)
 case atStart=>exact⟨0,Yat _,rfl,rfl,Yae _ _⟩
 case round=>
  obtain⟨k,hk,rfl,rfl,hBr⟩:=hrel;have hb0:=b02.below hBr;by_cases h0:k<7
  ·rcases(by omega:k=0∨k=1∨k=2∨k=3∨k=4∨k=5∨k=6) with rfl|rfl|rfl|rfl|rfl|rfl|rfl
   ·have hx:∀w0,(Instr.index 331 (.agg (tests7 w.heap.size)) (.int .i64 0)).run Tryz.prog w0=.ok (.func (.func 292) #[] #[.pointer (some ⟨w.heap.size,0,none⟩)]) w0:=λ_=>by kernel_rfl
    go_wp2_with fail
    refine(h1 _ _ (Zaa hBW hBr) hb0).mono ?_;rintro e w' ⟨rfl,hb⟩;go_wp2
    go_roundw
    case rel=>exact⟨1,Zo,rfl,rfl,Zaa hBr hb⟩
    case measure=>simp[intOf]
   ·have hx:∀w0,(Instr.index 331 (.agg (tests7 w.heap.size)) (.int .i64 1)).run Tryz.prog w0=.ok (.func (.func 296) #[] #[.pointer (some ⟨w.heap.size,0,none⟩)]) w0:=λ_=>by kernel_rfl
    go_wp2_with fail
    refine(h2 _ _ (Zaa hBW hBr) hb0).mono ?_;rintro e w' ⟨rfl,hb⟩;go_wp2
    go_roundw
    case rel=>exact⟨2,Zo,rfl,rfl,Zaa hBr hb⟩
    case measure=>simp[intOf]
   ·have hx:∀w0,(Instr.index 331 (.agg (tests7 w.heap.size)) (.int .i64 2)).run Tryz.prog w0=.ok (.func (.func 298) #[] #[.pointer (some ⟨w.heap.size,0,none⟩)]) w0:=λ_=>by kernel_rfl
    go_wp2_with fail
    refine(h3 _ _ (Zaa hBW hBr) hb0).mono ?_;rintro e w' ⟨rfl,hb⟩;go_wp2
    go_roundw
    case rel=>exact⟨3,Zo,rfl,rfl,Zaa hBr hb⟩
    case measure=>simp[intOf]
   ·have hx:∀w0,(Instr.index 331 (.agg (tests7 w.heap.size)) (.int .i64 3)).run Tryz.prog w0=.ok (.func (.func 299) #[] #[.pointer (some ⟨w.heap.size,0,none⟩)]) w0:=λ_=>by kernel_rfl
    go_wp2_with fail
    refine(h4 _ _ (Zaa hBW hBr) hb0).mono ?_;rintro e w' ⟨rfl,hb⟩;go_wp2
    go_roundw
    case rel=>exact⟨4,Zo,rfl,rfl,Zaa hBr hb⟩
    case measure=>simp[intOf]
   ·have hx:∀w0,(Instr.index 331 (.agg (tests7 w.heap.size)) (.int .i64 4)).run Tryz.prog w0=.ok (.func (.func 300) #[] #[.pointer (some ⟨w.heap.size,0,none⟩)]) w0:=λ_=>by kernel_rfl
    go_wp2_with fail
    refine(h5 _ _ (Zaa hBW hBr) hb0).mono ?_;rintro e w' ⟨rfl,hb⟩;go_wp2
    go_roundw
    case rel=>exact⟨5,Zo,rfl,rfl,Zaa hBr hb⟩
    case measure=>simp[intOf]
   ·have hx:∀w0,(Instr.index 331 (.agg (tests7 w.heap.size)) (.int .i64 5)).run Tryz.prog w0=.ok (.func (.func 301) #[] #[.pointer (some ⟨w.heap.size,0,none⟩)]) w0:=λ_=>by kernel_rfl
    go_wp2_with fail
    refine(h6 _ _ (Zaa hBW hBr) hb0).mono ?_;rintro e w' ⟨rfl,hb⟩;go_wp2
    go_roundw
    case rel=>exact⟨6,Zo,rfl,rfl,Zaa hBr hb⟩
    case measure=>simp[intOf]
   ·have hx:∀w0,(Instr.index 331 (.agg (tests7 w.heap.size)) (.int .i64 6)).run Tryz.prog w0=.ok (.func (.func 302) #[] #[.pointer (some ⟨w.heap.size,0,none⟩)]) w0:=λ_=>by kernel_rfl
    go_wp2_with fail
    refine(h7 _ _ (Zaa hBW hBr) hb0).mono ?_;rintro e w' ⟨rfl,hb⟩;go_wp2
    go_roundw
    case rel=>exact⟨7,Zo,rfl,rfl,Zaa hBr hb⟩
    case measure=>simp[intOf]
  ·obtain rfl:k=7:=by omega
   rw[show((7:Nat):Int)=7 from rfl];have f21:wr.cell? ⟨w.heap.size,21,none⟩=some (.slice p n c):=(hb0.cell 21).trans a21;have lwr:=hb0.lt;obtain⟨w5,hw5⟩:∃w5,w5=wr:=⟨wr,rfl⟩
   rw[<-hw5]at hBr hb0 f21 lwr ⊢;clear hw5 h1 h2 h3 h4 h5 h6 h7;have hf5:=hfs.below (Zaa hBW hBr);clear hfs;have hsz:∀f:Flm,(Tryz.prog.info? 271).map (·.size)=some f.vals.size:=λ_=>Zk;have h1c:∀f:Flm,f.vals.all (·.oneCell')=true:=λf=>by simp[Flm.vals,Value.oneCell']
   have hcs:∀f:Flm,f.vals.size=3:=λ_=>rfl;have hfl:=λi (hi:i<n) W=>Zul (F i) W;replace hF:=Yah hF;go_wp2
   go_loopw [4,28] (λl a w6=>∃j:Nat,j<=n∧l=.int .i64 0∧a=.int .i64 (j:Int)∧Below w5.heap.size w5 w6) (λ_ a _=>(n-intOf a).toNat)
   case atStart=>exact⟨0,Yat _,rfl,rfl,Yae _ _⟩
   case round=>
    obtain⟨j,hj,rfl,rfl,hB6⟩:=hrel;by_cases hjn:j<n
    ·obtain⟨b,off,rfl,lb,hrg⟩:=hf5.range Zo
     have hrgw:=hrg j hjn wr hB6;have lbw:=Yaf lb hB6.size;have hflj:=hfl j hjn;rw[decide_eq_true (hF.out j hjn)]at hflj;have hszj:=hsz (F j);have hslj:(Tryz.prog.info? 271).map (·.size)=some (F j).vals.toList.length:=hszj;have h1j:=h1c (F j);have hcj:=hcs (F j);have hj':(j:Int)<n:=Zo;generalize (F j).vals=A3 at *;clear hfl hsz h1c hcs hrg hf5 hF;go_wp2_with first|(refine wpList_load_mid rfl 271 _ rfl b (off+j*3) rfl A3.toList _ hrgw Tryz.underlying271 rfl hslj ?_)|(refine Zan rfl 271 rfl _ Zph ?_;intro W1 B1 hle hB1 b1)|(refine Zab rfl 271 _ _ rfl B1 0 271 _ A3 A3 rfl rfl b1 hszj (Ybl (by rw[hcj];rfl)) h1j (Zah (by rw[hcj];rfl)) ?_;intro W2 hk2 b2)|(refine Zbe (by rfl) 271 (.tmp 8) rfl B1 0 rfl A3.toList _ b2.range Tryz.underlying271 rfl hslj ?_)
     have hB2:Below w5.heap.size w5 W2:=Zaa hB6 (hk2.below hB1 hle hB1.size);refine(hflj W2).mono ?_;rintro e W3 ⟨rfl,hb3⟩;go_wp2
     go_roundw
     case rel=>exact⟨j+1,Zo,rfl,Zs,Zaa hB2 hb3⟩
     case measure=>simp[intOf];omega
    ·obtain rfl:j=n:=by omega
     clear hfl hsz h1c hcs hf5 hF;go_wp2
     try rw[Exit.noGoto_ret]
     go_ret
     exact⟨rfl,Zaa (Zaa hBW hBr) hB6⟩
theorem Zrq (s:Srf) (hs:s.ok) (p:Option Addr) (c:Nat) (w:World) (hco:CoatAt w p c s.co) :
  Calls Tryz.prog 280 #[.agg (s.cs p c)] w λe w'=>e=.returned (.int .i64 0)∧Below w.heap.size w w':=
 Zk9 (s.cs p c) p c s.co.length _ (λi hi=>hs.films _ (by rw[Yac,Yao hi];exact Ybw hi)) hs.coats rfl w hco (λW B hW b=>Zpg s hs p c B W b (hco.below hW)) (λW B _ b=>Zo6 s hs p c B W b) (λW B _ b=>Zo7 s hs p c B W b) (λW B _ b=>Zo8 s hs p c B W b) (λW B _ b=>Zo5 s hs p c B W b) (λW B _ b=>Zo4 s hs p c B W b) (λW B _ b=>Zo3 s hs p c B W b)
theorem Zrr (a:Lns) (ha:a.ok) (q:Plc) (w:World) (h:LnsAt w a q) :
  Calls Tryz.prog 200 #[.agg (a.lvals q)] w λe w'=>e=.returned (.int .i64 0)∧Below w.heap.size w w':=by
 have hns:=ha.ns;have hst:=ha.st;obtain⟨m,hm⟩:∃m,a.ns=m+1:=⟨a.ns-1,Zo⟩
 obtain⟨k,hk⟩:∃k:Nat,a.st=(k:Int):=⟨a.st.toNat,Zo⟩
 have hsr:=h.surfs;obtain⟨b,off,hps,_⟩:=hsr.2.2 Zo;refine Zk1 a.nm a.di a.pu a.st a.pr q.pf q.pw q.ps q.pc a.nf q.cf a.nw q.cw a.ns q.cs 0 q.cc w λB W hB b0=>?_;have hW:=h.below hB;refine Zuh B W (λA W' hW' a0=>?_) (λA W' hW' a0=>?_) (λW' hW'=>?_) (λW' hW'=>?_) (λW' hW'=>?_) (λW' hW'=>?_)
 ·exact Zrl A B a.nm W' a0 ((b0.below hW').cell 0) ha.name.1 ha.name.2.1 ha.name.2.2
 ·exact Zrm A B a.di a.pu W' a0 ((b0.below hW').cell 1) ((b0.below hW').cell 2) ha.di.1 ha.di.2 ha.pu.1 ha.pu.2
 ·exact Zrk B a.nm a.di a.pu a.st a.pr q.pf q.pw q.ps q.pc a.nf q.cf a.nw q.cw a.ns q.cs 0 q.cc a.X a.Y W' (b0.below hW') (hW.below hW').fields ha.nf.1 ha.nf.2 _ rfl (λi hi=>⟨(ha.fr i hi).1,(ha.fr i hi).2⟩) ha.fd
 ·exact Zuf B a.nm a.di a.pu a.st a.pr q.pf q.pw q.ps q.pc a.nf q.cf a.nw q.cw a.ns q.cs 0 q.cc a.L a.W W' (b0.below hW') (hW.below hW').waves ha.nw.1 ha.nw.2 ha.pr.1 ha.pr.2 ha.wl ha.wm ha.ww
 ·have hr:=(hW.below hW').surfs
  have hbx:=b0.below hW';rw[hps,hm]at hr;rw[hps,hm,hk]at hbx;refine Zg3 B a.nm a.di a.pu a.pr k q.pf q.pw q.pc a.nf q.cf a.nw q.cw m q.cs q.cc b off (λi=>(a.S i).cs (q.cp i) (q.cl i)) (λ_=>rfl) W' hbx hr Zo Zo Zo (λi hi W2 hW2=>Zrq (a.S i) (ha.sok i Zo) _ _ W2 (((hW.below hW').coat i Zo).below hW2)) (λW2=>?_) (a.S k).kind rfl ?_
  ·have hi:=ha.image
   rw[hm,Ybf]at hi;exact Zug (a.S m) _ _ W2 hi.1 hi.2.1 hi.2.2.1 hi.2.2.2.1 hi.2.2.2.2
  ·have:=ha.stop
   rw[hk]at this;simpa using this
 ·exact Zo9 B a.nm a.di a.pu a.st a.pr q.pf q.pw q.ps q.pc a.nf q.cf a.nw q.cw a.ns q.cs q.cc W' (b0.below hW')
end Go.Proofs.W
