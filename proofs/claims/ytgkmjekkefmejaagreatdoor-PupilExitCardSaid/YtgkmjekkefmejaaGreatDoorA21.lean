/- Contracts of package matrix,and a verified evaluator. Part 21 of 27. No condition beside the row. -/
import Derived.Test.YtgkmjekkefmejaaGreatDoorA02
import Derived.Test.YtgkmjekkefmejaaGreatDoorA14
import Derived.Test.YtgkmjekkefmejaaGreatDoorA18
import Derived.Test.YtgkmjekkefmejaaGreatDoorA19
set_option linter.unusedVariables false
set_option linter.unusedSimpArgs false
set_option maxRecDepth 100000
set_option maxHeartbeats 4000000
namespace Go.Proofs.W
open Go.RowKit Go.Mono
theorem Zvb (p q:Option Addr) (n m c1 c2:Nat) (f g:Nat->Int) (w:World) (h1:RdF w p n c1 f) (h2:RdF w q m c2 g) :
  Calls Tryz.prog 95 #[.slice p n c1,.slice q m c2] w λe w'=>∃r:Bool,e=.returned (.bool r)∧(r=true↔n=m∧∀i,i<n->f i=g i)∧∃k,w'=w.drewN k:=by
 obtain⟨hc1,hn1,hx1⟩:=h1;obtain⟨hc2,hn2,hx2⟩:=h2;by_cases hnm:n=m
 ·subst hnm
  go_enter Tryz.func95,Tryz.ntmps95
  go_wp2
  go_loopw [13] (λa wr=>∃k:Nat,k<=n∧a=.int .i64 (k:Int)∧(∀i,i<k->f i=g i)∧∃j,wr=w.drewN j) (λa _=>(n-intOf a).toNat)
  case atStart=>exact⟨0,Yat _,rfl,λi hi=>Zo,0,rfl⟩
  case round=>
   obtain⟨k,hk,rfl,ht,j,rfl⟩:=hrel;have HT:=Yah ht;clear ht;by_cases h0:k<n
   ·obtain⟨b,off,rfl,hb,hcell⟩:=hx1 Zo
    obtain⟨b2,off2,rfl,hb2,hcell2⟩:=hx2 Zo;have a1:=hcell k Zo;have a2:=hcell2 k Zo;clear hcell hcell2 hx1 hx2;have h0':(k:Int)<n:=Zo;by_cases hfg:f k=g k
    ·have hq:(f k != g k)=false:=by simpa using hfg
     have HF:=Yah hfg;clear hfg;go_wp2
     go_quiet (fail)
     go_wp2
     go_roundw
     case rel=>
      refine⟨k+1,Zo,Zs,λi hi=>?_,_,rfl⟩;by_cases h:i<k
      ·exact HT.out i h
      ·obtain rfl:i=k:=by omega
       exact HF.out
     case measure=>simp[intOf];omega
    ·have hq:(f k != g k)=true:=by simpa using hfg
     have HF:=Yah hfg;clear hfg;go_wp2
     go_quiet (fail)
     go_wp2
     go_ret
     exact⟨false,rfl,⟨Zs,λh=>absurd (h.2 k h0) HF.out⟩,_,by rw[Ydc]⟩
   ·obtain rfl:k=n:=by omega
    go_wp2
    go_ret
    refine⟨true,rfl,?_,_,rfl⟩;simp only[true_and];first|exact HT.out|exact⟨trivial,HT.out⟩|(simp;exact HT.out)
 ·have hq:((n:Int) != m)=true:=by simp;omega
  have HN:=Yah hnm;clear hnm;go_enter Tryz.func95,Tryz.ntmps95
  go_wp2
  go_ret
  exact⟨false,rfl,⟨Zs,λh=>absurd h.1 HN.out⟩,0,rfl⟩
theorem Zr6 (w:World):(Instr.alloc 317 true (.tuple #[])).run Tryz.prog w=.ok (.pointer (some ⟨w.heap.size,0,none⟩)) (w.alloc (.cells #[.nilFunc,.nilFunc,.nilFunc,.nilFunc,.nilFunc,.nilFunc,.nilFunc] 317)):=by
 go_simp
def tests7 (B:Nat):Array Value:=#[.func (.func 261) #[] #[.pointer (some ⟨B,0,none⟩)],.func (.func 265) #[] #[.pointer (some ⟨B,0,none⟩)],.func (.func 267) #[] #[.pointer (some ⟨B,0,none⟩)],.func (.func 268) #[] #[.pointer (some ⟨B,0,none⟩)],.func (.func 269) #[] #[.pointer (some ⟨B,0,none⟩)],.func (.func 270) #[] #[.pointer (some ⟨B,0,none⟩)],.func (.func 271) #[] #[.pointer (some ⟨B,0,none⟩)]]
theorem Zll:(∀args w,(callFunc 261 args).run Tryz.prog w=.ok (.enter 261 args) w)∧(∀args w,(callFunc 265 args).run Tryz.prog w=.ok (.enter 265 args) w)∧(∀args w,(callFunc 267 args).run Tryz.prog w=.ok (.enter 267 args) w)∧(∀args w,(callFunc 268 args).run Tryz.prog w=.ok (.enter 268 args) w)∧(∀args w,(callFunc 269 args).run Tryz.prog w=.ok (.enter 269 args) w)∧(∀args w,(callFunc 270 args).run Tryz.prog w=.ok (.enter 270 args) w)∧(∀args w,(callFunc 271 args).run Tryz.prog w=.ok (.enter 271 args) w):=
 ⟨Go.Proofs.enters_of Tryz.func261 Zk rfl,Go.Proofs.enters_of Tryz.func265 Zk rfl,Go.Proofs.enters_of Tryz.func267 Zk rfl,Go.Proofs.enters_of Tryz.func268 Zk rfl,Go.Proofs.enters_of Tryz.func269 Zk rfl,Go.Proofs.enters_of Tryz.func270 Zk rfl,Go.Proofs.enters_of Tryz.func271 Zk rfl⟩
theorem Zlm (A:Array Value) (p:Option Addr) (c n:Nat) (F:Nat->Flm) (hF:∀i,i<n->(F i).ok) (hn8:n<=8) (a21:A[21]? = some (.slice p n c)) (w:World) (hfs:FilmsAt w p n c F)
  (h1:∀W B,Below w.heap.size w W->Box W B 85 A->Calls Tryz.prog 261 #[.pointer (some ⟨B,0,none⟩)] W λe w'=>e=.returned (.bool true)∧Below W.heap.size W w')
  (h2:∀W B,Below w.heap.size w W->Box W B 85 A->Calls Tryz.prog 265 #[.pointer (some ⟨B,0,none⟩)] W λe w'=>e=.returned (.bool true)∧Below W.heap.size W w')
  (h3:∀W B,Below w.heap.size w W->Box W B 85 A->Calls Tryz.prog 267 #[.pointer (some ⟨B,0,none⟩)] W λe w'=>e=.returned (.bool true)∧Below W.heap.size W w')
  (h4:∀W B,Below w.heap.size w W->Box W B 85 A->Calls Tryz.prog 268 #[.pointer (some ⟨B,0,none⟩)] W λe w'=>e=.returned (.bool true)∧Below W.heap.size W w')
  (h5:∀W B,Below w.heap.size w W->Box W B 85 A->Calls Tryz.prog 269 #[.pointer (some ⟨B,0,none⟩)] W λe w'=>e=.returned (.bool true)∧Below W.heap.size W w')
  (h6:∀W B,Below w.heap.size w W->Box W B 85 A->Calls Tryz.prog 270 #[.pointer (some ⟨B,0,none⟩)] W λe w'=>e=.returned (.bool true)∧Below W.heap.size W w')
  (h7:∀W B,Below w.heap.size w W->Box W B 85 A->Calls Tryz.prog 271 #[.pointer (some ⟨B,0,none⟩)] W λe w'=>e=.returned (.bool true)∧Below W.heap.size W w')
  : Calls Tryz.prog 238 #[.agg A] w λe w'=>e=.returned (.int .i64 0)∧Below w.heap.size w w':=by
 have hmf:∀(fn:Fn) (first cap:Array Value) (w:World),(Instr.makeFunc fn first cap).run Tryz.prog w=.ok (.func fn first cap) w:=λ_ _ _ _=>rfl;go_enter Tryz.func238,Tryz.ntmps238
 go_wp2
 refine Zb3 λW hB hs b0=>?_;have hi7:(Tryz.prog.info? 317).map (·.size)=some 7:=Zk;go_step3
 go_wp2_with first|(refine Zak rfl 317 rfl _ Zr6 ?_;intro W1 B1 hle hB1 b1)|(refine Zab rfl 317 (.tmp 3) (.tmp 16) rfl B1 0 317 _ (tests7 w.heap.size) (tests7 w.heap.size) rfl rfl b1 hi7 (Yaa rfl) (by simp[tests7,Value.oneCell']) rfl ?_;intro W2 hk2 b2)|(refine Zac rfl 317 (.tmp 3) rfl B1 rfl 317 _ b2 _ Tryz.underlying317 rfl hi7 ?_)
 have lb0:=b0.lt;have hBW:Below w.heap.size w W2:=hk2.below (Zaa hB hB1) Zo (by have:=hB1.size;omega);have b02:Box W2 w.heap.size 85 A:=hk2.box (b0.below hB1) (by have:=hB1.size;omega) Zo;clear hk2;go_step3
 go_wp2_with first|(refine Zac rfl 317 (.tmp 3) rfl B1 rfl 317 _ b2 _ Tryz.underlying317 rfl hi7 ?_)
 clear b0 b1 b2 hB1 hle hB;obtain⟨g1,g2,g3,g4,g5,g6,g7⟩:=Zll;go_loopw [4,18] (λl a wr=>∃k:Nat,k<=7∧l=.int .i64 0∧a=.int .i64 (k:Int)∧Below W2.heap.size W2 wr) (λ_ a _=>(7-intOf a).toNat)
 case atStart=>exact⟨0,Yat _,rfl,rfl,Yae _ _⟩
 case round=>
  obtain⟨k,hk,rfl,rfl,hBr⟩:=hrel;have hb0:=b02.below hBr;by_cases h0:k<7
  ·rcases(by omega:k=0∨k=1∨k=2∨k=3∨k=4∨k=5∨k=6) with rfl|rfl|rfl|rfl|rfl|rfl|rfl
   ·have hx:∀w0,(Instr.index 317 (.agg (tests7 w.heap.size)) (.int .i64 0)).run Tryz.prog w0=.ok (.func (.func 261) #[] #[.pointer (some ⟨w.heap.size,0,none⟩)]) w0:=λ_=>by kernel_rfl
    go_wp2_with fail
    refine(h1 _ _ (Zaa hBW hBr) hb0).mono ?_;rintro e w' ⟨rfl,hb⟩;go_wp2
    go_roundw
    case rel=>exact⟨1,Zo,rfl,rfl,Zaa hBr hb⟩
    case measure=>simp[intOf]
   ·have hx:∀w0,(Instr.index 317 (.agg (tests7 w.heap.size)) (.int .i64 1)).run Tryz.prog w0=.ok (.func (.func 265) #[] #[.pointer (some ⟨w.heap.size,0,none⟩)]) w0:=λ_=>by kernel_rfl
    go_wp2_with fail
    refine(h2 _ _ (Zaa hBW hBr) hb0).mono ?_;rintro e w' ⟨rfl,hb⟩;go_wp2
    go_roundw
    case rel=>exact⟨2,Zo,rfl,rfl,Zaa hBr hb⟩
    case measure=>simp[intOf]
   ·have hx:∀w0,(Instr.index 317 (.agg (tests7 w.heap.size)) (.int .i64 2)).run Tryz.prog w0=.ok (.func (.func 267) #[] #[.pointer (some ⟨w.heap.size,0,none⟩)]) w0:=λ_=>by kernel_rfl
    go_wp2_with fail
    refine(h3 _ _ (Zaa hBW hBr) hb0).mono ?_;rintro e w' ⟨rfl,hb⟩;go_wp2
    go_roundw
    case rel=>exact⟨3,Zo,rfl,rfl,Zaa hBr hb⟩
    case measure=>simp[intOf]
   ·have hx:∀w0,(Instr.index 317 (.agg (tests7 w.heap.size)) (.int .i64 3)).run Tryz.prog w0=.ok (.func (.func 268) #[] #[.pointer (some ⟨w.heap.size,0,none⟩)]) w0:=λ_=>by kernel_rfl
    go_wp2_with fail
    refine(h4 _ _ (Zaa hBW hBr) hb0).mono ?_;rintro e w' ⟨rfl,hb⟩;go_wp2
    go_roundw
    case rel=>exact⟨4,Zo,rfl,rfl,Zaa hBr hb⟩
    case measure=>simp[intOf]
   ·have hx:∀w0,(Instr.index 317 (.agg (tests7 w.heap.size)) (.int .i64 4)).run Tryz.prog w0=.ok (.func (.func 269) #[] #[.pointer (some ⟨w.heap.size,0,none⟩)]) w0:=λ_=>by kernel_rfl
    go_wp2_with fail
    refine(h5 _ _ (Zaa hBW hBr) hb0).mono ?_;rintro e w' ⟨rfl,hb⟩;go_wp2
    go_roundw
    case rel=>exact⟨5,Zo,rfl,rfl,Zaa hBr hb⟩
    case measure=>simp[intOf]
   ·have hx:∀w0,(Instr.index 317 (.agg (tests7 w.heap.size)) (.int .i64 5)).run Tryz.prog w0=.ok (.func (.func 270) #[] #[.pointer (some ⟨w.heap.size,0,none⟩)]) w0:=λ_=>by kernel_rfl
    go_wp2_with fail
    refine(h6 _ _ (Zaa hBW hBr) hb0).mono ?_;rintro e w' ⟨rfl,hb⟩;go_wp2
    go_roundw
    case rel=>exact⟨6,Zo,rfl,rfl,Zaa hBr hb⟩
    case measure=>simp[intOf]
   ·have hx:∀w0,(Instr.index 317 (.agg (tests7 w.heap.size)) (.int .i64 6)).run Tryz.prog w0=.ok (.func (.func 271) #[] #[.pointer (some ⟨w.heap.size,0,none⟩)]) w0:=λ_=>by kernel_rfl
    go_wp2_with fail
    refine(h7 _ _ (Zaa hBW hBr) hb0).mono ?_;rintro e w' ⟨rfl,hb⟩;go_wp2
    go_roundw
    case rel=>exact⟨7,Zo,rfl,rfl,Zaa hBr hb⟩
    case measure=>simp[intOf]
  ·obtain rfl:k=7:=by omega
   rw[show((7:Nat):Int)=7 from rfl];have f21:wr.cell? ⟨w.heap.size,21,none⟩=some (.slice p n c):=(hb0.cell 21).trans a21;have lwr:=hb0.lt;obtain⟨w5,hw5⟩:∃w5,w5=wr:=⟨wr,rfl⟩
   rw[<-hw5]at hBr hb0 f21 lwr ⊢;clear hw5 h1 h2 h3 h4 h5 h6 h7;have hf5:=hfs.below (Zaa hBW hBr);clear hfs;have hsz:∀f:Flm,(Tryz.prog.info? 270).map (·.size)=some f.vals.size:=λ_=>Zk;have h1c:∀f:Flm,f.vals.all (·.oneCell')=true:=λf=>by simp[Flm.vals,Value.oneCell']
   have hcs:∀f:Flm,f.vals.size=3:=λ_=>rfl;have hfl:=λi (hi:i<n) W=>Zva (F i) W;replace hF:=Yah hF;go_wp2
   go_loopw [4,28] (λl a w6=>∃j:Nat,j<=n∧l=.int .i64 0∧a=.int .i64 (j:Int)∧Below w5.heap.size w5 w6) (λ_ a _=>(n-intOf a).toNat)
   case atStart=>exact⟨0,Yat _,rfl,rfl,Yae _ _⟩
   case round=>
    obtain⟨j,hj,rfl,rfl,hB6⟩:=hrel;by_cases hjn:j<n
    ·obtain⟨b,off,rfl,lb,hrg⟩:=hf5.range Zo
     have hrgw:=hrg j hjn wr hB6;have lbw:=Yaf lb hB6.size;have hflj:=hfl j hjn;rw[decide_eq_true (hF.out j hjn)]at hflj;have hszj:=hsz (F j);have hslj:(Tryz.prog.info? 270).map (·.size)=some (F j).vals.toList.length:=hszj;have h1j:=h1c (F j);have hcj:=hcs (F j);have hj':(j:Int)<n:=Zo;generalize (F j).vals=A3 at *;clear hfl hsz h1c hcs hrg hf5 hF;go_wp2_with first|(refine wpList_load_mid rfl 270 _ rfl b (off+j*3) rfl A3.toList _ hrgw Tryz.underlying270 rfl hslj ?_)|(refine Zak rfl 270 rfl _ Zpt ?_;intro W1 B1 hle hB1 b1)|(refine Zab rfl 270 _ _ rfl B1 0 270 _ A3 A3 rfl rfl b1 hszj (Ybl (by rw[hcj];rfl)) h1j (Zag (by rw[hcj];rfl)) ?_;intro W2 hk2 b2)|(refine Zbe (by rfl) 270 (.tmp 8) rfl B1 0 rfl A3.toList _ b2.range Tryz.underlying270 rfl hslj ?_)
     have hB2:Below w5.heap.size w5 W2:=Zaa hB6 (hk2.below hB1 hle hB1.size);refine(hflj W2).mono ?_;rintro e W3 ⟨rfl,hb3⟩;go_wp2
     go_roundw
     case rel=>exact⟨j+1,Zo,rfl,Zs,Zaa hB2 hb3⟩
     case measure=>simp[intOf];omega
    ·obtain rfl:j=n:=by omega
     clear hfl hsz h1c hcs hf5 hF;go_wp2
     try rw[Exit.noGoto_ret]
     go_ret
     exact⟨rfl,Zaa (Zaa hBW hBr) hB6⟩
theorem Zr7 (s:Srf) (hs:s.ok) (p:Option Addr) (c:Nat) (w:World) (hco:CoatAt w p c s.co) :
  Calls Tryz.prog 238 #[.agg (s.cs p c)] w λe w'=>e=.returned (.int .i64 0)∧Below w.heap.size w w':=
 Zlm (s.cs p c) p c s.co.length _ (λi hi=>hs.films _ (by rw[Yac,Yao hi];exact Ybw hi)) hs.coats rfl w hco (λW B hW b=>Zps s hs p c B W b (hco.below hW)) (λW B _ b=>Zpi s hs p c B W b) (λW B _ b=>Zpj s hs p c B W b) (λW B _ b=>Zpk s hs p c B W b) (λW B _ b=>Zph s hs p c B W b) (λW B _ b=>Zpg s hs p c B W b) (λW B _ b=>Zpf s hs p c B W b)
theorem Zr8 (a:Lns) (ha:a.ok) (q:Plc) (w:World) (h:LnsAt w a q) :
  Calls Tryz.prog 139 #[.agg (a.lvals q)] w λe w'=>e=.returned (.int .i64 0)∧Below w.heap.size w w':=by
 have hns:=ha.ns;have hst:=ha.st;obtain⟨m,hm⟩:∃m,a.ns=m+1:=⟨a.ns-1,Zo⟩
 obtain⟨k,hk⟩:∃k:Nat,a.st=(k:Int):=⟨a.st.toNat,Zo⟩
 have hsr:=h.surfs;obtain⟨b,off,hps,_⟩:=hsr.2.2 Zo;refine Zle a.nm a.di a.pu a.st a.pr q.pf q.pw q.ps q.pc a.nf q.cf a.nw q.cw a.ns q.cs 0 q.cc w λB W hB b0=>?_;have hW:=h.below hB;refine Zu6 B W (λA W' hW' a0=>?_) (λA W' hW' a0=>?_) (λW' hW'=>?_) (λW' hW'=>?_) (λW' hW'=>?_) (λW' hW'=>?_)
 ·exact Zr2 A B a.nm W' a0 ((b0.below hW').cell 0) ha.name.1 ha.name.2.1 ha.name.2.2
 ·exact Zr3 A B a.di a.pu W' a0 ((b0.below hW').cell 1) ((b0.below hW').cell 2) ha.di.1 ha.di.2 ha.pu.1 ha.pu.2
 ·exact Zr1 B a.nm a.di a.pu a.st a.pr q.pf q.pw q.ps q.pc a.nf q.cf a.nw q.cw a.ns q.cs 0 q.cc a.X a.Y W' (b0.below hW') (hW.below hW').fields ha.nf.1 ha.nf.2 _ rfl (λi hi=>⟨(ha.fr i hi).1,(ha.fr i hi).2⟩) ha.fd
 ·exact Zu4 B a.nm a.di a.pu a.st a.pr q.pf q.pw q.ps q.pc a.nf q.cf a.nw q.cw a.ns q.cs 0 q.cc a.L a.W W' (b0.below hW') (hW.below hW').waves ha.nw.1 ha.nw.2 ha.pr.1 ha.pr.2 ha.wl ha.wm ha.ww
 ·have hr:=(hW.below hW').surfs
  have hbx:=b0.below hW';rw[hps,hm]at hr;rw[hps,hm,hk]at hbx;refine Zg2 B a.nm a.di a.pu a.pr k q.pf q.pw q.pc a.nf q.cf a.nw q.cw m q.cs q.cc b off (λi=>(a.S i).cs (q.cp i) (q.cl i)) (λ_=>rfl) W' hbx hr Zo Zo Zo (λi hi W2 hW2=>Zr7 (a.S i) (ha.sok i Zo) _ _ W2 (((hW.below hW').coat i Zo).below hW2)) (λW2=>?_) (a.S k).kind rfl ?_
  ·have hi:=ha.image
   rw[hm,Ybf]at hi;exact Zu5 (a.S m) _ _ W2 hi.1 hi.2.1 hi.2.2.1 hi.2.2.2.1 hi.2.2.2.2
  ·have:=ha.stop
   rw[hk]at this;simpa using this
 ·exact Zpl B a.nm a.di a.pu a.st a.pr q.pf q.pw q.ps q.pc a.nf q.cf a.nw q.cw a.ns q.cs q.cc W' (b0.below hW')
end Go.Proofs.W
