/- The drafted optics of chapter 13: what it is and that it is valid. Part 9 of 16. No condition beside the row. -/
import Derived.Test.YtgkmjekkefmejaaGreatDoorA02
import Derived.Test.YtgkmjekkefmejaaGreatDoorD08
set_option linter.unusedVariables false
set_option linter.unusedSimpArgs false
set_option maxRecDepth 100000
set_option maxHeartbeats 4000000
namespace Go.Mono
open Go.RowKit
theorem Zbo {P:Program} {S:World->Prop} {oi:Oper} {a:Act} (t:TypeId) (x ix:Operand) (ho:oi.op=.indexAddr t x ix) {b off len cap:Nat} {k:IntKind} {i:Int} (hx:a.eval x=.slice (some ⟨b,off,none⟩) len cap) (hix:a.eval ix=.int k i) {e:TypeId} {n:Nat} (hs:P.underlying t=some (.slice e)) (hz:(P.info? e).map (·.size)=some n) (hi:0<=i∧i<len) :
  ∀w,S w->(execOp a.eval oi).run P w=.ok (.value (.pointer (some ⟨b,off+i.toNat*n,none⟩))) w:=λw _=>by
 obtain⟨ie,he,rfl⟩:=Yad.1 hz;have h1:(Instr.indexAt t (.slice (some ⟨b,off,none⟩) len cap) (.int k i)).run P w=.ok (.pointer (some ⟨b,off+i.toNat*ie.size,none⟩)) w:=by
  unfold Instr.indexAt;simp only[Yar,asIntOf,run_underlying hs,Yag,Yau,if_pos hi,sizeOf,typeInfo];simp[he,Yem]
 unfold execOp;simp only[ho,hx,hix,Yar,h1,Yag,Yau]
end Go.Mono
namespace Go.Proofs.W
open Go.RowKit Go.Mono
theorem Zng (nm:ByteArray) (di pu st pr:Int) (pf:Option Addr) (nf cf:Nat) (pw:Option Addr) (n cw:Nat) (ps:Option Addr) (ns cs:Nat) (pc:Option Addr) (nc cc:Nat) (L G:Nat->Int) (hn:1<=n∧n<=5) (hp:0<=pr∧pr<=n-1)
  (hl:∀i,i<n->300000<=L i∧L i<=2500000) (hg:∀i,i<n->1<=G i∧G i<=100) (hs:∀i,i+1<n->L i<L (i+1)) (w:World) (h:RdC w pw n cw 2 (λi j=>if j=0 then .int .i64 (L i) else .int .i64 (G i))) :
  Calls Tryz.prog 176 #[.agg (lcs nm di pu st pr pf nf cf pw n cw ps ns cs pc nc cc)] w λe w'=>e=.returned (.bool true)∧Below w.heap.size w w':=by
 obtain⟨hcap,_,hx⟩:=h;obtain⟨b,off,rfl,hb,hcell⟩:=hx Zo;have hce:=λW (hW:Below w.heap.size w W) k (hk:k<n) j (hj:j<2)=>(hW.cell (p:=⟨b,off+k*2+j,none⟩) hb).trans (hcell k j hk hj);clear hcell hx;have hzw:(Tryz.prog.info? 138).map (·.size)=some 2:=Zk;unfold lcs;go_enter Tryz.func176,Tryz.ntmps176
 go_wp2_with fail
 refine Zb3 λW hB hsz bS=>?_;go_loopw [3] (λx wr=>∃i:Nat,i<=n∧x=.int .i64 (i:Int)∧Below W.heap.size W wr) (λx _=>(n-intOf x).toNat)
 case atStart=>exact⟨0,Zo,rfl,Yae _ _⟩
 case round=>
  obtain⟨i,hi,rfl,hBr⟩:=hrel;have hBw:=Zaa hB hBr;have bSr:=bS.below hBr;have cS:=bSr.cell;have lS:=bSr.lt;have hbW:=Yaf hb hBw.size;by_cases hin:i<n
  ·have x0:wr.cell? ⟨b,off+i*2,none⟩=some (.int .i64 (L i)):=by simpa using hce wr hBw i hin 0 Zd
   have y0:wr.cell? ⟨b,off+i*2+1,none⟩=some (.int .i64 (G i)):=by simpa using hce wr hBw i hin 1 Zd
   have hi':(i:Int)<n:=Zo;have q1:=λV=>Za5 (L i) 300000 2500000 (hl i hin).1 (hl i hin).2 V;have q2:=λV=>Za5 (G i) 1 100 (hg i hin).1 (hg i hin).2 V;have hst:∀k,i=k+1->¬(L i<=L k)∧wr.cell? ⟨b,off+k*2,none⟩=some (.int .i64 (L k)):=λk hk=>by
    subst hk;exact⟨by have:=hs k hin;omega,by simpa using hce wr hBw k Zo 0 Zd⟩
   clear hce hl hg hs;have hi5:i<5:=Zo;rcases(by omega:i=0∨i=1∨i=2∨i=3∨i=4) with rfl|rfl|rfl|rfl|rfl
   ·simp only[Yez,Yce]at x0 y0
    clear hst;generalize L 0=li at *;generalize G 0=gi at *;go_wp2_with fail
    refine Zb3 λW2 hB2 hs2 bW=>?_;have cW:=bW.cell;have lW:=bW.lt;refine wp_region_held_drew (S:=λw'=>(∀b o,b<W2.heap.size->w'.cell? ⟨b,o,none⟩=W2.cell? ⟨b,o,none⟩)∧Below W2.heap.size W2 w') Zk (Za2 (Yae _ _).drew) (λhHeld=>?_);refine tkf 0 (some 17) ?_;refine tkf 1 (some 18) ?_;refine Mono.st 2 ?_;intro K hK;go_simp
    (refine(q1 _).mono ?_;rintro e w5 ⟨rfl,h5⟩;rw[h5];clear h5 w5)
    refine kp hK (hHeld) (λhHeld=>?_);clear hK K;refine tkf 3 (some 20) ?_;refine tkf 4 (some 21) ?_;refine tkf 5 (some 22) ?_;refine tkf 6 (some 23) ?_;refine Mono.st 7 ?_;intro K hK;go_simp
    (refine(q2 _).mono ?_;rintro e w5 ⟨rfl,h5⟩;rw[h5];clear h5 w5)
    refine kp hK (hHeld) (λhHeld=>?_);clear hK K;refine tkf 8 (some 25) ?_;refine tkf 9 (some 26) ?_;refine tkf 10 (some 27) ?_;refine tkf 11 (some 28) ?_;refine tkf 12 (some 29) ?_;refine tkf 13 (some 30) ?_;refine tsf 14 (some 31) ?_;refine tsf 15 (some 32) ?_;refine tsf 16 (some 33) ?_;refine tsf 17 (some 34) ?_;refine tsf 18 (some 35) ?_;refine tsf 19 (some 36) ?_;refine tsf 20 (some 37) ?_;refine tsf 21 (some 38) ?_;refine tsf 22 (some 39) ?_;refine tsf 23 (some 40) ?_;refine tkf 24 (some 41) ?_;refine tkf 25 (some 42) ?_;refine wpAnyH_done Zk ?_ _;go_wp2
    go_roundw
    case rel=>exact⟨1,Zo,Zs,Zaa hBr (Zaa hB2 hHeld.2)⟩
    case measure=>simp[intOf];omega
   focus
    obtain⟨hlt,z0⟩:=hst 0 rfl;simp only[Nat.reduceMul,Yez,Yce,Nat.reduceAdd,Ybj]at x0 y0 z0;clear hst;generalize L 1=li at *;generalize L 0=lk at *;generalize G 1=gi at *;have hprev:(((1:Nat):Int)-1)=0:=Zd
   rotate_left
   focus
    obtain⟨hlt,z0⟩:=hst 1 rfl;simp only[Nat.reduceMul,Yez,Yce,Nat.reduceAdd,Ybj]at x0 y0 z0;clear hst;generalize L 2=li at *;generalize L 1=lk at *;generalize G 2=gi at *;have hprev:(((2:Nat):Int)-1)=1:=Zd
   rotate_left
   focus
    obtain⟨hlt,z0⟩:=hst 2 rfl;simp only[Nat.reduceMul,Yez,Yce,Nat.reduceAdd,Ybj]at x0 y0 z0;clear hst;generalize L 3=li at *;generalize L 2=lk at *;generalize G 3=gi at *;have hprev:(((3:Nat):Int)-1)=2:=Zd
   rotate_left
   focus
    obtain⟨hlt,z0⟩:=hst 3 rfl;simp only[Nat.reduceMul,Yez,Yce,Nat.reduceAdd,Ybj]at x0 y0 z0;clear hst;generalize L 4=li at *;generalize L 3=lk at *;generalize G 4=gi at *;have hprev:(((4:Nat):Int)-1)=3:=Zd
   all_goals
    go_wp2_with fail
    refine Zb3 λW2 hB2 hs2 bW=>?_;have cW:=bW.cell;have lW:=bW.lt;have bS2:=(bSr.below hB2)
    have cS2:=bS2.cell;have lS2:=bS2.lt;have z2:=(hB2.cell (p:=⟨b,_,none⟩) hbW).trans z0;have hb2:=Yaf hbW hB2.size;clear cS lS x0 y0 z0;refine wp_region_held_drew (S:=λw'=>(∀b o,b<W2.heap.size->w'.cell? ⟨b,o,none⟩=W2.cell? ⟨b,o,none⟩)∧Below W2.heap.size W2 w') Zk (Za2 (Yae _ _).drew) (λhHeld=>?_);refine tkf 0 (some 17) ?_;refine tkf 1 (some 18) ?_;refine Mono.st 2 ?_;intro K hK;go_simp
    (refine(q1 _).mono ?_;rintro e w5 ⟨rfl,h5⟩;rw[h5];clear h5 w5)
    refine kp hK (hHeld) (λhHeld=>?_);clear hK K;refine tkf 3 (some 20) ?_;refine tkf 4 (some 21) ?_;refine tkf 5 (some 22) ?_;refine tkf 6 (some 23) ?_;refine Mono.st 7 ?_;intro K hK;go_simp
    (refine(q2 _).mono ?_;rintro e w5 ⟨rfl,h5⟩;rw[h5];clear h5 w5)
    refine kp hK (hHeld) (λhHeld=>?_);clear hK K;refine tkf 8 (some 25) ?_;refine tkf 9 (some 26) ?_;refine tkf 10 (some 27) ?_;refine tkf 11 (some 28) ?_;refine tkf 12 (some 29) ?_;refine tkf 13 (some 30) ?_;refine tkf 14 (some 31) ?_;refine tkf 15 (some 32) ?_;refine tkf 16 (some 33) ?_;refine tkf 17 (some 34) ?_;first|(refine tlf 18 (some 35) rfl (.pointer (some ⟨b,off,none⟩)) (Zbo (i:=IntKind.i64.wrap 0) (len:=n) 33 _ _ rfl rfl rfl Tryz.underlying33 hzw ⟨Zd,by rw[show IntKind.i64.wrap 0=0 by decide];omega⟩) ?_)|(refine tlf 18 (some 35) rfl (.pointer (some ⟨b,off+2,none⟩)) (Zbo (i:=IntKind.i64.wrap 1) (len:=n) 33 _ _ rfl rfl rfl Tryz.underlying33 hzw ⟨Zd,by rw[show IntKind.i64.wrap 1=1 by decide];omega⟩) ?_)|(refine tlf 18 (some 35) rfl (.pointer (some ⟨b,off+4,none⟩)) (Zbo (i:=IntKind.i64.wrap 2) (len:=n) 33 _ _ rfl rfl rfl Tryz.underlying33 hzw ⟨Zd,by rw[show IntKind.i64.wrap 2=2 by decide];omega⟩) ?_)|(refine tlf 18 (some 35) rfl (.pointer (some ⟨b,off+6,none⟩)) (Zbo (i:=IntKind.i64.wrap 3) (len:=n) 33 _ _ rfl rfl rfl Tryz.underlying33 hzw ⟨Zd,by rw[show IntKind.i64.wrap 3=3 by decide];omega⟩) ?_)
    refine tkf 19 (some 36) ?_;refine tkf 20 (some 37) ?_;refine tkf 21 (some 38) ?_;refine tkf 22 (some 39) ?_;refine tkf 23 (some 40) ?_;refine tkf 24 (some 41) ?_;refine tkf 25 (some 42) ?_;refine wpAnyH_done Zk ?_ _;go_wp2
    go_roundw
    case rel=>first|exact⟨2,Zo,rfl,Zaa hBr (Zaa hB2 hHeld.2)⟩|exact⟨3,Zo,rfl,Zaa hBr (Zaa hB2 hHeld.2)⟩|exact⟨4,Zo,rfl,Zaa hBr (Zaa hB2 hHeld.2)⟩|exact⟨5,Zo,rfl,Zaa hBr (Zaa hB2 hHeld.2)⟩
    case measure=>simp[intOf];omega
  ·obtain rfl:i=n:=by omega
   have w1:=λV=>Za5 (i:Int) 1 5 Zo Zo V;have w2:=λV=>Za5 pr 0 ((i:Int)-1) hp.1 hp.2 V;have e1:IntKind.i64.wrap ((i:Int)-1)=(i:Int)-1:=by rw[Ybi];omega
   clear hce hl hg hs;go_wp2_with (go_at_call 174;(first|with_reducible refine(w1 _).mono ?_|with_reducible refine(w2 _).mono ?_);rintro e w5 ⟨rfl,h5⟩;rw[h5];clear h5 w5)
   go_ret
   exact⟨rfl,hBw⟩
end Go.Proofs.W
