/- The drafted optics of chapter 13: what it is and that it is valid. Part 6 of 14. No condition beside the row. -/
import Derived.Test.YtpfpiecljfimjaaGreatDoorA03
import Derived.Test.YtpfpiecljfimjaaGreatDoorD05
set_option linter.unusedVariables false
set_option linter.unusedSimpArgs false
set_option maxRecDepth 100000
set_option maxHeartbeats 4000000
namespace Go.Proofs.W
open Go.RowKit Go.Mono
theorem Zmq (s:Srf) (hs:s.ok) (h1:s.kind=1) (h2:s.glass = {data:=#[]}) (h3:s.thick=0) (h4:s.order=0) (h5:s.co=[]) (p:Option Addr) (c:Nat) (w:World) :
  Calls Tryz.prog 150 #[.agg (s.cs p c)] w λe w'=>e=.returned (.bool true)∧Below w.heap.size w w':=by
 have hi:(Tryz.prog.info? 115).map (·.size)=some (s.cs p c).size:=Zk;have hr:=λW=>Zcv s hs p c W (by rw[h5];exact CoatAt.nil _ _ _);have g0:(s.cs p c)[0]? = some (.int .i64 1):=by rw[<-h1];rfl
 have g11:(s.cs p c)[11]? = some (.int .i64 0):=by rw[<-h4];rfl
 have g12:(s.cs p c)[12]? = some (.int .i64 0):=by rw[<-h3];rfl
 have g13:(s.cs p c)[13]? = some (.string {data:=#[]}):=by rw[<-h2];rfl
 have g21:(s.cs p c)[21]? = some (.slice p 0 c):=by
  have:(s.cs p c)[21]? = some (.slice p s.co.length c):=rfl;rw[this,h5];rfl
 clear h1 h2 h3 h4 h5 hs;generalize s.cs p c=A at *;go_enter Tryz.func150,Tryz.ntmps150
 go_wp2_with (refine Zdl (T0:=115) λW hB hsz b0=>?_;refine Zac rfl 115 (.tmp 1) rfl w.heap.size rfl 115 A b0 _ Tryz.underlying115 rfl hi ?_)
 refine(hr W).mono ?_;rintro e W1 ⟨rfl,hb⟩;replace hB:=Zaa hB hb;replace b0:=b0.below hb;have c0:=(b0.cell 0).trans g0;have c11:=(b0.cell 11).trans g11;have c12:=(b0.cell 12).trans g12;have c13:=(b0.cell 13).trans g13;have c21:=(b0.cell 21).trans g21;have lw:=b0.lt;clear hr g0 g11 g12 g13 g21 hi;go_wp2
 go_ret
 exact⟨rfl,hB⟩
def lcs (nm:ByteArray) (di pu st pr:Int) (pf:Option Addr) (nf cf:Nat) (pw:Option Addr) (nw cw:Nat) (ps:Option Addr) (ns cs:Nat) (pc:Option Addr) (nc cc:Nat):Array Value:=
 #[.string nm,.int .i64 di,.int .i64 pu,.int .i64 st,.int .i64 pr,.slice pf nf cf,.slice pw nw cw,.slice ps ns cs,.slice pc nc cc]
theorem Zhy (nm:ByteArray) (di pu pr:Int) (st:Nat) (pf:Option Addr) (nf cf:Nat) (pw:Option Addr) (nw cw:Nat) (pc:Option Addr) (nc cc:Nat) (l:List Srf) (hl:2<=l.length∧l.length<=16) (hs:∀s∈l,s.ok) (hst:st+2<=l.length) (hk:(sAt l st).kind≠3)
  (hm:(sAt l (l.length-1)).kind=1∧(sAt l (l.length-1)).glass = {data:=#[]}∧(sAt l (l.length-1)).thick=0∧(sAt l (l.length-1)).order=0∧(sAt l (l.length-1)).co=[])
  (p:Option Addr) (c:Nat) (cp:Nat->Option Addr) (cl:Nat->Nat) (w:World) (h:SrfsAt w p c l cp cl) :
  Calls Tryz.prog 114 #[.agg (lcs nm di pu (st:Int) pr pf nf cf pw nw cw p l.length c pc nc cc)] w λe w'=>e=.returned (.bool true)∧Below w.heap.size w w':=by
 have hsL:∀(s:Srf) p c,(Tryz.prog.info? 115).map (·.size)=some (s.cs p c).toList.length:=λ_ _ _=>Zk;obtain⟨b,off,rfl,hb,hrg⟩:=h.range Zo;have hcap:=h.row.1;have hright:=λi (hi:i<l.length) W (hW:Below w.heap.size w W)=>Zcv (sAt l i) (Zig hs hi) (cp i) (cl i) W ((h.coat i hi).below hW);have him:=λW=>Zmq (sAt l (l.length-1)) (Zig hs Zo) hm.1 hm.2.1 hm.2.2.1 hm.2.2.2.1 hm.2.2.2.2 (cp (l.length-1)) (cl (l.length-1)) W;have hkd:∀W,Below w.heap.size w W->W.cell? ⟨b,off+st*22,none⟩=some (.int .i64 (sAt l st).kind):=λW hW=>by
  have:=hrg st Zo W hW 0 _ rfl;simpa using this
 clear h;generalize hn:l.length=n at *;obtain⟨m,rfl⟩:∃m,n=m+1:=⟨n-1,Zo⟩
 rw[Ybf]at him hm;have e1:IntKind.i64.wrap ((m:Int)+1-2)=(m:Int)-1:=by rw[Ybi];omega
 have e2:IntKind.i64.wrap ((m:Int)+1-1)=(m:Int):=by rw[Ybi];omega
 have w1:=λW=>Za7 ((m:Int)+1) 2 16 Zo Zo W;have w2:=λW=>Za7 (st:Int) 0 ((m:Int)-1) Zo Zo W;have hk':((sAt l st).kind==3)=false:=beq_eq_false_iff_ne.2 hk;have hst':(st:Int)<(m:Int)+1:=Zo;have hmm:(m:Int)<(m:Int)+1:=Zo;have hmr:=hrg m Zo;have hsm:=hsL (sAt l m) (cp m) (cl m);generalize hkz:(sAt l st).kind=kz at *;replace hm:=Yah hm;replace hn:=Yah hn;unfold lcs;go_enter Tryz.func114,Tryz.ntmps114
 go_wp2_with fail
 refine Zbg λW hB hsz bS=>?_;have cS:=bS.cell;have lS:=bS.lt;have hkw:=hkd W hB;have hmw:=hmr W hB;have hbW:=Yaf hb hB.size;clear hkd hmr;refine(w1 W).mono ?_;rintro e w5 ⟨rfl,h5⟩;rw[h5];clear h5 w5;go_wp2_with first|(go_at_call 111;with_reducible refine(w2 _).mono ?_;rintro e w5 ⟨rfl,h5⟩;rw[h5];clear h5 w5)|(refine Zbd (by rfl) 115 (.tmp 34) rfl b (off+m*22) rfl _ _ hmw Tryz.underlying115 rfl hsm ?_)
 refine(him W).mono ?_;rintro e W2 ⟨rfl,hb2⟩;have hB2:=Zaa hB hb2;replace bS:=bS.below hb2;clear cS lS hkw hmw hbW him;have cS:=bS.cell;have lS:=bS.lt;go_wp2
 go_loopw [4] (λx wr=>∃i:Nat,i<=m+1∧x=.int .i64 (i:Int)∧Below W2.heap.size W2 wr) (λx _=>(m+1-intOf x).toNat)
 case atStart=>exact⟨0,Zo,rfl,Yae _ _⟩
 case round=>
  obtain⟨i,hi,rfl,hBr⟩:=hrel;have hBw:=Zaa hB2 hBr;have bSr:=bS.below hBr;have cSr:=bSr.cell;have lSr:=bSr.lt;clear cS lS;by_cases hin:i<m+1
  ·have hrgi:=hrg i hin wr hBw
   have hri:=hright i hin;have hi':(i:Int)<(m:Int)+1:=Zo;have hsi:=hsL (sAt l i) (cp i) (cl i);clear hrg hright;go_wp2_with (refine wpList_load_mid rfl 115 (.tmp 47) rfl b (off+i*22) rfl _ _ hrgi Tryz.underlying115 rfl hsi ?_)
   refine(hri wr hBw).mono ?_;rintro e W4 ⟨rfl,hb4⟩;go_wp2
   go_roundw
   case rel=>exact⟨i+1,Zo,Zs,Zaa hBr hb4⟩
   case measure=>simp[intOf];omega
  ·obtain rfl:i=m+1:=by omega
   have hi':¬(((m+1:Nat):Int)<(m:Int)+1):=Zo;clear hrg hright;go_wp2
   go_ret
   exact⟨rfl,hBw⟩
theorem Zfz (nm:ByteArray) (di pu st pr:Int) (pf:Option Addr) (n cf:Nat) (pw:Option Addr) (nw cw:Nat) (ps:Option Addr) (ns cs:Nat) (pc:Option Addr) (nc cc:Nat) (X Y:Nat->Int) (hn:1<=n∧n<=5) (M:Int) (hM:M=if di=0 then 1000000 else 1000000000)
  (hr:∀i,i<n->In M (X i)∧In M (Y i)) (hd:∀i k,k<i->i<n->¬(X i=X k∧Y i=Y k)) (w:World) (h:RdC w pf n cf 2 (λi j=>if j=0 then .int .i64 (X i) else .int .i64 (Y i))) :
  Calls Tryz.prog 112 #[.agg (lcs nm di pu st pr pf n cf pw nw cw ps ns cs pc nc cc)] w λe w'=>e=.returned (.bool true)∧Below w.heap.size w w':=by
 obtain⟨hcap,_,hx⟩:=h;obtain⟨b,off,rfl,hb,hcell⟩:=hx Zo;have hce:=λW (hW:Below w.heap.size w W) k (hk:k<n) j (hj:j<2)=>(hW.cell (p:=⟨b,off+k*2+j,none⟩) hb).trans (hcell k j hk hj);clear hcell hx;have hcs:di=0∧M=1000000∨(di==0)=false∧M=1000000000:=by
  rw[hM];by_cases h0:di=0
  ·exact .inl ⟨h0,by rw[if_pos h0]⟩
  ·exact .inr ⟨beq_eq_false_iff_ne.2 h0,by rw[if_neg h0]⟩
 clear hM;replace hd:=Yah hd;unfold lcs;rcases hcs with ⟨rfl,rfl⟩|⟨hdi,rfl⟩
 all_goals
  go_enter Tryz.func112,Tryz.ntmps112
  go_wp2_with fail
  refine Zb1 λW hB hsz bS=>?_;have cS:=bS.cell;have lS:=bS.lt;have hbW:=Yaf hb hB.size;have ce0:∀k,k<n->W.cell? ⟨b,off+k*2,none⟩=some (.int .i64 (X k)):=λk hk=>by simpa using hce W hB k hk 0 Zd
  have ce1:∀k,k<n->W.cell? ⟨b,off+k*2+1,none⟩=some (.int .i64 (Y k)):=λk hk=>by simpa using hce W hB k hk 1 Zd
  clear hce;go_loopw [4] (λx wr=>∃i:Nat,i<=n∧x=.int .i64 (i:Int)∧∃q,wr=W.drewN q) (λx _=>(n-intOf x).toNat)
  case atStart=>exact⟨0,Zo,rfl,0,rfl⟩
  case round=>
   obtain⟨i,hi,rfl,q,rfl⟩:=hrel;by_cases hin:i<n
   ·have x0:=ce0 i hin
    have y0:=ce1 i hin;have hi':(i:Int)<n:=Zo;have q1:=λV=>Za7 (X i) _ _ (hr i hin).1.1 (hr i hin).1.2 V;have q2:=λV=>Za7 (Y i) _ _ (hr i hin).2.1 (hr i hin).2.2 V;clear hr;go_wp2_with (go_at_call 111;(first|with_reducible refine(q1 _).mono ?_|with_reducible refine(q2 _).mono ?_);rintro e w5 ⟨rfl,h5⟩;rw[h5];clear h5 w5)
    clear q1 q2;go_loopw [5] (λx w6=>∃j:Nat,j<=i∧x=.int .i64 (j:Int)∧∃q',w6=W.drewN q') (λx _=>(i-intOf x).toNat)
    case atStart=>exact⟨0,Zo,rfl,q,rfl⟩
    case round=>
     obtain⟨j,hj,rfl,q',rfl⟩:=hrel;by_cases hji:j<i
     ·have x1:=ce0 j Zo
      have y1:=ce1 j Zo;have hji':(j:Int)<i:=Zo;have hjn':(j:Int)<n:=Zo;have hne:=hd.out i j hji hin;clear ce0 ce1 hd;generalize X i=xi at *;generalize Y i=yi at *;generalize X j=xj at *;generalize Y j=yj at *;by_cases hx:xi=xj
      ·subst hx
       have hy:(yi==yj)=false:=beq_eq_false_iff_ne.2 λe=>hne ⟨rfl,e⟩;have hy':¬yi=yj:=λe=>hne ⟨rfl,e⟩;clear hne;go_wp2
       go_quiet (fail)
       go_wp2
       go_roundw
       case rel=>exact⟨j+1,Zo,Zs,_,rfl⟩
       case measure=>simp[intOf];omega
      ·have hx':(xi==xj)=false:=beq_eq_false_iff_ne.2 hx
       clear hne;go_wp2
       go_quiet (fail)
       go_wp2
       go_roundw
       case rel=>exact⟨j+1,Zo,Zs,_,rfl⟩
       case measure=>simp[intOf];omega
     ·obtain rfl:j=i:=by omega
      clear ce0 ce1 hd;go_wp2
      go_roundw
      case rel=>exact⟨j+1,Zo,Zs,_,rfl⟩
      case measure=>simp[intOf];omega
   ·obtain rfl:i=n:=by omega
    have w1:=λV=>Za7 (i:Int) 1 5 Zo Zo V;clear ce0 ce1 hd hr;go_wp2_with (go_at_call 111;with_reducible refine(w1 _).mono ?_;rintro e w5 ⟨rfl,h5⟩;rw[h5];clear h5 w5)
    go_ret
    exact⟨rfl,below_drewN hB _⟩
end Go.Proofs.W
namespace Go.Mono
open Go.RowKit
theorem Zbr {P:Program} {S:World->Prop} {oi:Oper} {a:Act} (t:TypeId) (x ix:Operand) (ho:oi.op=.indexAddr t x ix) {b off len cap:Nat} {k:IntKind} {i:Int} (hx:a.eval x=.slice (some ⟨b,off,none⟩) len cap) (hix:a.eval ix=.int k i) {e:TypeId} {n:Nat} (hs:P.underlying t=some (.slice e)) (hz:(P.info? e).map (·.size)=some n) (hi:0<=i∧i<len) :
  ∀w,S w->(execOp a.eval oi).run P w=.ok (.value (.pointer (some ⟨b,off+i.toNat*n,none⟩))) w:=λw _=>by
 obtain⟨ie,he,rfl⟩:=Yad.1 hz;have h1:(Instr.indexAt t (.slice (some ⟨b,off,none⟩) len cap) (.int k i)).run P w=.ok (.pointer (some ⟨b,off+i.toNat*ie.size,none⟩)) w:=by
  unfold Instr.indexAt;simp only[Yar,asIntOf,run_underlying hs,Yag,Yau,if_pos hi,sizeOf,typeInfo];simp[he,Yem]
 unfold execOp;simp only[ho,hx,hix,Yar,h1,Yag,Yau]
end Go.Mono
namespace Go.Proofs.W
open Go.RowKit Go.Mono
theorem Zhc (nm:ByteArray) (di pu st pr:Int) (pf:Option Addr) (nf cf:Nat) (pw:Option Addr) (n cw:Nat) (ps:Option Addr) (ns cs:Nat) (pc:Option Addr) (nc cc:Nat) (L G:Nat->Int) (hn:1<=n∧n<=5) (hp:0<=pr∧pr<=n-1)
  (hl:∀i,i<n->300000<=L i∧L i<=2500000) (hg:∀i,i<n->1<=G i∧G i<=100) (hs:∀i,i+1<n->L i<L (i+1)) (w:World) (h:RdC w pw n cw 2 (λi j=>if j=0 then .int .i64 (L i) else .int .i64 (G i))) :
  Calls Tryz.prog 113 #[.agg (lcs nm di pu st pr pf nf cf pw n cw ps ns cs pc nc cc)] w λe w'=>e=.returned (.bool true)∧Below w.heap.size w w':=by
 obtain⟨hcap,_,hx⟩:=h;obtain⟨b,off,rfl,hb,hcell⟩:=hx Zo;have hce:=λW (hW:Below w.heap.size w W) k (hk:k<n) j (hj:j<2)=>(hW.cell (p:=⟨b,off+k*2+j,none⟩) hb).trans (hcell k j hk hj);clear hcell hx;have hzw:(Tryz.prog.info? 129).map (·.size)=some 2:=Zk;unfold lcs;go_enter Tryz.func113,Tryz.ntmps113
 go_wp2_with fail
 refine Zb1 λW hB hsz bS=>?_;go_loopw [3] (λx wr=>∃i:Nat,i<=n∧x=.int .i64 (i:Int)∧Below W.heap.size W wr) (λx _=>(n-intOf x).toNat)
 case atStart=>exact⟨0,Zo,rfl,Yae _ _⟩
 case round=>
  obtain⟨i,hi,rfl,hBr⟩:=hrel;have hBw:=Zaa hB hBr;have bSr:=bS.below hBr;have cS:=bSr.cell;have lS:=bSr.lt;have hbW:=Yaf hb hBw.size;by_cases hin:i<n
  ·have x0:wr.cell? ⟨b,off+i*2,none⟩=some (.int .i64 (L i)):=by simpa using hce wr hBw i hin 0 Zd
   have y0:wr.cell? ⟨b,off+i*2+1,none⟩=some (.int .i64 (G i)):=by simpa using hce wr hBw i hin 1 Zd
   have hi':(i:Int)<n:=Zo;have q1:=λV=>Za7 (L i) 300000 2500000 (hl i hin).1 (hl i hin).2 V;have q2:=λV=>Za7 (G i) 1 100 (hg i hin).1 (hg i hin).2 V;have hst:∀k,i=k+1->¬(L i<=L k)∧wr.cell? ⟨b,off+k*2,none⟩=some (.int .i64 (L k)):=λk hk=>by
    subst hk;exact⟨by have:=hs k hin;omega,by simpa using hce wr hBw k Zo 0 Zd⟩
   clear hce hl hg hs;have hi5:i<5:=Zo;rcases(by omega:i=0∨i=1∨i=2∨i=3∨i=4) with rfl|rfl|rfl|rfl|rfl
   ·simp only[Yez,Yce]at x0 y0
    clear hst;generalize L 0=li at *;generalize G 0=gi at *;go_wp2_with fail
    refine Zb1 λW2 hB2 hs2 bW=>?_;have cW:=bW.cell;have lW:=bW.lt;refine wp_region_held_drew (S:=λw'=>(∀b o,b<W2.heap.size->w'.cell? ⟨b,o,none⟩=W2.cell? ⟨b,o,none⟩)∧Below W2.heap.size W2 w') Zk (Za1 (Yae _ _).drew) (λhHeld=>?_);refine tkf 0 (some 17) ?_;refine tkf 1 (some 18) ?_;refine Mono.st 2 ?_;intro K hK;go_simp
    (refine(q1 _).mono ?_;rintro e w5 ⟨rfl,h5⟩;rw[h5];clear h5 w5)
    refine kp hK (hHeld) (λhHeld=>?_);clear hK K;refine tkf 3 (some 20) ?_;refine tkf 4 (some 21) ?_;refine tkf 5 (some 22) ?_;refine tkf 6 (some 23) ?_;refine Mono.st 7 ?_;intro K hK;go_simp
    (refine(q2 _).mono ?_;rintro e w5 ⟨rfl,h5⟩;rw[h5];clear h5 w5)
    refine kp hK (hHeld) (λhHeld=>?_);clear hK K;refine tkf 8 (some 25) ?_;refine tkf 9 (some 26) ?_;refine tkf 10 (some 27) ?_;refine tkf 11 (some 28) ?_;refine tkf 12 (some 29) ?_;refine tkf 13 (some 30) ?_;refine tsf 14 (some 31) ?_;refine tsf 15 (some 32) ?_;refine tsf 16 (some 33) ?_;refine tsf 17 (some 34) ?_;refine tsf 18 (some 35) ?_;refine tsf 19 (some 36) ?_;refine tsf 20 (some 37) ?_;refine tsf 21 (some 38) ?_;refine tsf 22 (some 39) ?_;refine tsf 23 (some 40) ?_;refine tkf 24 (some 41) ?_;refine tkf 25 (some 42) ?_;refine wpAnyH_done Zk ?_ _;go_wp2
    go_roundw
    case rel=>exact⟨1,Zo,Zs,Zaa hBr (Zaa hB2 hHeld.2)⟩
    case measure=>simp[intOf];omega
   focus
    obtain⟨hlt,z0⟩:=hst 0 rfl;simp only[Nat.reduceMul,Yez,Yce,Nat.reduceAdd,Ybj]at x0 y0 z0;clear hst;generalize L 1=li at *;generalize L 0=lk at *;generalize G 1=gi at *;have hprev:(((1:Nat):Int)-1)=0:=Zd
   rotate_left
   focus
    obtain⟨hlt,z0⟩:=hst 1 rfl;simp only[Nat.reduceMul,Yez,Yce,Nat.reduceAdd,Ybj]at x0 y0 z0;clear hst;generalize L 2=li at *;generalize L 1=lk at *;generalize G 2=gi at *;have hprev:(((2:Nat):Int)-1)=1:=Zd
   rotate_left
   focus
    obtain⟨hlt,z0⟩:=hst 2 rfl;simp only[Nat.reduceMul,Yez,Yce,Nat.reduceAdd,Ybj]at x0 y0 z0;clear hst;generalize L 3=li at *;generalize L 2=lk at *;generalize G 3=gi at *;have hprev:(((3:Nat):Int)-1)=2:=Zd
   rotate_left
   focus
    obtain⟨hlt,z0⟩:=hst 3 rfl;simp only[Nat.reduceMul,Yez,Yce,Nat.reduceAdd,Ybj]at x0 y0 z0;clear hst;generalize L 4=li at *;generalize L 3=lk at *;generalize G 4=gi at *;have hprev:(((4:Nat):Int)-1)=3:=Zd
   all_goals
    go_wp2_with fail
    refine Zb1 λW2 hB2 hs2 bW=>?_;have cW:=bW.cell;have lW:=bW.lt;have bS2:=(bSr.below hB2)
    have cS2:=bS2.cell;have lS2:=bS2.lt;have z2:=(hB2.cell (p:=⟨b,_,none⟩) hbW).trans z0;have hb2:=Yaf hbW hB2.size;clear cS lS x0 y0 z0;refine wp_region_held_drew (S:=λw'=>(∀b o,b<W2.heap.size->w'.cell? ⟨b,o,none⟩=W2.cell? ⟨b,o,none⟩)∧Below W2.heap.size W2 w') Zk (Za1 (Yae _ _).drew) (λhHeld=>?_);refine tkf 0 (some 17) ?_;refine tkf 1 (some 18) ?_;refine Mono.st 2 ?_;intro K hK;go_simp
    (refine(q1 _).mono ?_;rintro e w5 ⟨rfl,h5⟩;rw[h5];clear h5 w5)
    refine kp hK (hHeld) (λhHeld=>?_);clear hK K;refine tkf 3 (some 20) ?_;refine tkf 4 (some 21) ?_;refine tkf 5 (some 22) ?_;refine tkf 6 (some 23) ?_;refine Mono.st 7 ?_;intro K hK;go_simp
    (refine(q2 _).mono ?_;rintro e w5 ⟨rfl,h5⟩;rw[h5];clear h5 w5)
    refine kp hK (hHeld) (λhHeld=>?_);clear hK K;refine tkf 8 (some 25) ?_;refine tkf 9 (some 26) ?_;refine tkf 10 (some 27) ?_;refine tkf 11 (some 28) ?_;refine tkf 12 (some 29) ?_;refine tkf 13 (some 30) ?_;refine tkf 14 (some 31) ?_;refine tkf 15 (some 32) ?_;refine tkf 16 (some 33) ?_;refine tkf 17 (some 34) ?_;first|(refine tlf 18 (some 35) rfl (.pointer (some ⟨b,off,none⟩)) (Zbr (i:=IntKind.i64.wrap 0) (len:=n) 34 _ _ rfl rfl rfl Tryz.underlying34 hzw ⟨Zd,by rw[show IntKind.i64.wrap 0=0 by decide];omega⟩) ?_)|(refine tlf 18 (some 35) rfl (.pointer (some ⟨b,off+2,none⟩)) (Zbr (i:=IntKind.i64.wrap 1) (len:=n) 34 _ _ rfl rfl rfl Tryz.underlying34 hzw ⟨Zd,by rw[show IntKind.i64.wrap 1=1 by decide];omega⟩) ?_)|(refine tlf 18 (some 35) rfl (.pointer (some ⟨b,off+4,none⟩)) (Zbr (i:=IntKind.i64.wrap 2) (len:=n) 34 _ _ rfl rfl rfl Tryz.underlying34 hzw ⟨Zd,by rw[show IntKind.i64.wrap 2=2 by decide];omega⟩) ?_)|(refine tlf 18 (some 35) rfl (.pointer (some ⟨b,off+6,none⟩)) (Zbr (i:=IntKind.i64.wrap 3) (len:=n) 34 _ _ rfl rfl rfl Tryz.underlying34 hzw ⟨Zd,by rw[show IntKind.i64.wrap 3=3 by decide];omega⟩) ?_)
    refine tkf 19 (some 36) ?_;refine tkf 20 (some 37) ?_;refine tkf 21 (some 38) ?_;refine tkf 22 (some 39) ?_;refine tkf 23 (some 40) ?_;refine tkf 24 (some 41) ?_;refine tkf 25 (some 42) ?_;refine wpAnyH_done Zk ?_ _;go_wp2
    go_roundw
    case rel=>first|exact⟨2,Zo,rfl,Zaa hBr (Zaa hB2 hHeld.2)⟩|exact⟨3,Zo,rfl,Zaa hBr (Zaa hB2 hHeld.2)⟩|exact⟨4,Zo,rfl,Zaa hBr (Zaa hB2 hHeld.2)⟩|exact⟨5,Zo,rfl,Zaa hBr (Zaa hB2 hHeld.2)⟩
    case measure=>simp[intOf];omega
  ·obtain rfl:i=n:=by omega
   have w1:=λV=>Za7 (i:Int) 1 5 Zo Zo V;have w2:=λV=>Za7 pr 0 ((i:Int)-1) hp.1 hp.2 V;have e1:IntKind.i64.wrap ((i:Int)-1)=(i:Int)-1:=by rw[Ybi];omega
   clear hce hl hg hs;go_wp2_with (go_at_call 111;(first|with_reducible refine(w1 _).mono ?_|with_reducible refine(w2 _).mono ?_);rintro e w5 ⟨rfl,h5⟩;rw[h5];clear h5 w5)
   go_ret
   exact⟨rfl,hBw⟩
structure ConfsAt (w:World) (p:Option Addr) (c n:Nat) (nm:Nat->ByteArray) (cs:Nat->List Chg) (pp:Nat->Option Addr) (cc:Nat->Nat):Prop where
 row:RdC w p n c 2 (λi j=>if j=0 then .string (nm i) else .slice (pp i) (cs i).length (cc i))
 chg:∀i,i<n->ChgsAt w (pp i) (cc i) (cs i)
theorem ConfsAt.below {w w':World} {p:Option Addr} {c n:Nat} {nm:Nat->ByteArray} {cs:Nat->List Chg} {pp:Nat->Option Addr} {cc:Nat->Nat} (h:ConfsAt w p c n nm cs pp cc) (hB:Below w.heap.size w w'):ConfsAt w' p c n nm cs pp cc:=
 ⟨h.row.below hB,λi hi=>(h.chg i hi).below hB⟩
structure ConfsOk (l:List Srf) (n:Nat) (nm:Nat->ByteArray) (cs:Nat->List Chg):Prop where
 most:n<=4
 name:∀i,i<n->NameOk (nm i)
 diff:∀i k,k<i->i<n->nm k≠nm i
 len:∀i,i<n->(cs i).length<=12
 chg:∀i,i<n->∀k,k<(cs i).length->(cAt (cs i) k).1<l.length∧In 32768000 (cAt (cs i) k).2.2
 made:∀i,i<n->madeS l (cs i)≠none
theorem Zse {a b:ByteArray} (h:a≠b):(a.toList==b.toList)=false:=beq_eq_false_iff_ne.2 λe=>h (by
 have e':a.data.toList=b.data.toList:=by simpa[Ycs]using e
 cases a;cases b;simp only[Ydw];exact Yfo e')
theorem Zjj (nm0:ByteArray) (di pu st pr:Int) (pf:Option Addr) (nf cf:Nat) (pw:Option Addr) (nw cw:Nat) (l:List Srf) (hl:l.length<=16) (hs:∀s∈l,s.ok) (p:Option Addr) (c:Nat) (cp:Nat->Option Addr) (cl:Nat->Nat) (n:Nat) (nm:Nat->ByteArray) (cs:Nat->List Chg)
  (hk:ConfsOk l n nm cs) (pc:Option Addr) (cc:Nat) (pp:Nat->Option Addr) (cq:Nat->Nat) (w:World) (h:SrfsAt w p c l cp cl) (hc:ConfsAt w pc cc n nm cs pp cq) :
  Calls Tryz.prog 115 #[.agg (lcs nm0 di pu st pr pf nf cf pw nw cw p l.length c pc n cc)] w λe w'=>e=.returned (.bool true)∧Below w.heap.size w w':=by
 obtain⟨hcap,_,hx⟩:=hc.row;have hmade:=λi (hi:i<n) W (hW:Below w.heap.size w W)=>Zhb l hl hs p c cp cl (cs i) (hk.len i hi) (hk.chg i hi) (pp i) (cq i) W (h.below hW) ((hc.chg i hi).below hW);have hn4:=hk.most;have hnmk:=λi (hi:i<n) W=>Ze6 (nm i) (hk.name i hi) W;have hdf:=hk.diff;have hmd:=hk.made;clear hk hc h;replace hdf:=Yah hdf;replace hmd:=Yah hmd;unfold lcs;go_enter Tryz.func115,Tryz.ntmps115
 go_wp2_with fail
 refine Zb1 λW hB hsz bS=>?_;go_loopw [3] (λx wr=>∃i:Nat,i<=n∧x=.int .i64 (i:Int)∧Below W.heap.size W wr) (λx _=>(n-intOf x).toNat)
 case atStart=>exact⟨0,Zo,rfl,Yae _ _⟩
 case round=>
  obtain⟨i,hi,rfl,hBr⟩:=hrel;have hBw:=Zaa hB hBr;have bSr:=bS.below hBr;have cS:=bSr.cell;have lS:=bSr.lt;by_cases hin:i<n
  ·obtain⟨b,off,rfl,hb,hcell⟩:=hx Zo
   have hce:=λV (hV:Below w.heap.size w V) k (hk:k<n) j (hj:j<2)=>(hV.cell (p:=⟨b,off+k*2+j,none⟩) hb).trans (hcell k j hk hj);have hbW:=Yaf hb hBw.size;have x0:wr.cell? ⟨b,off+i*2,none⟩=some (.string (nm i)):=by simpa using hce wr hBw i hin 0 Zd
   have y0:wr.cell? ⟨b,off+i*2+1,none⟩=some (.slice (pp i) (cs i).length (cq i)):=by simpa using hce wr hBw i hin 1 Zd
   have hi':(i:Int)<n:=Zo;have qn:=hnmk i hin;clear hx hcell hnmk;go_wp2_with fail
   refine Zbg λW2 hB2 hs2 bF=>?_;have hBw2:=Zaa hBw hB2;have bS2:=bSr.below hB2;have cS2:=bS2.cell;have lS2:=bS2.lt;have cF:=bF.cell;have lF:=bF.lt;have hb2:=Yaf hbW hB2.size;have xk:∀k,k<n->W2.cell? ⟨b,off+k*2,none⟩=some (.string (nm k)):=λk hk=>by simpa using hce W2 hBw2 k hk 0 Zd
   clear cS lS x0 y0 hce hbW;refine(qn W2).mono ?_;rintro e w5 ⟨rfl,h5⟩;rw[h5];clear h5 w5;go_wp2_with fail
   go_loopw [5] (λx w6=>∃j:Nat,j<=i∧x=.int .i64 (j:Int)∧∃q,w6=W2.drewN q) (λx _=>(i-intOf x).toNat)
   case atStart=>exact⟨0,Zo,rfl,0,rfl⟩
   case round=>
    obtain⟨j,hj,rfl,q,rfl⟩:=hrel;by_cases hji:j<i
    ·have xj:=xk j Zo
     have hji':(j:Int)<i:=Zo;have hjn':(j:Int)<n:=Zo;have hne:=Zse (hdf.out i j hji hin);clear xk hmade;generalize nm j=nj at *;generalize nm i=ni at *;go_wp2
     go_quiet (fail)
     go_wp2
     go_roundw
     case rel=>exact⟨j+1,Zo,Zs,_,rfl⟩
     case measure=>simp[intOf];omega
    ·obtain rfl:j=i:=by omega
     have hBq:Below w.heap.size w (W2.drewN q):=below_drewN hBw2 q;have hm:=hmade j hin;have hmj:=hmd.out j hin;clear xk hmade;go_wp2_with fail
     refine(hm _ hBq).mono ?_;rintro e W4 ⟨hb4,_,hyes⟩;obtain⟨m,hmm⟩:=Ygb.1 hmj;obtain⟨p5,c5,cp5,cl5,rfl,_⟩:=hyes m hmm;have hB4:Below W.heap.size W W4:=Zaa (below_drewN (Zaa hBr hB2) q) hb4;go_wp2
     go_roundw
     case rel=>exact⟨j+1,Zo,Zs,hB4⟩
     case measure=>simp[intOf];omega
  ·obtain rfl:i=n:=by omega
   have hn':(i:Int)<=4:=Zo;clear hx hmade hnmk;go_wp2
   go_ret
   exact⟨rfl,hBw⟩
end Go.Proofs.W
namespace Go.Mono
structure Len where
 nm:ByteArray
 di:Int
 pu:Int
 st:Nat
 pr:Int
 nf:Nat
 X:Nat->Int
 Y:Nat->Int
 nw:Nat
 L:Nat->Int
 G:Nat->Int
 l:List Srf
 nc:Nat
 nms:Nat->ByteArray
 css:Nat->List Chg
structure LenP where
 pf:Option Addr
 cf:Nat
 pw:Option Addr
 cw:Nat
 p:Option Addr
 c:Nat
 cp:Nat->Option Addr
 cl:Nat->Nat
 pc:Option Addr
 cc:Nat
 pp:Nat->Option Addr
 cq:Nat->Nat
end Go.Mono
namespace Go.Proofs.W
open Go.RowKit Go.Mono
def lenC (a:Len) (q:LenP):Array Value:=lcs a.nm a.di a.pu (a.st:Int) a.pr q.pf a.nf q.cf q.pw a.nw q.cw q.p a.l.length q.c q.pc a.nc q.cc
structure LenAt (w:World) (a:Len) (q:LenP):Prop where
 fields:RdC w q.pf a.nf q.cf 2 (λi j=>if j=0 then .int .i64 (a.X i) else .int .i64 (a.Y i))
 waves:RdC w q.pw a.nw q.cw 2 (λi j=>if j=0 then .int .i64 (a.L i) else .int .i64 (a.G i))
 srfs:SrfsAt w q.p q.c a.l q.cp q.cl
 confs:ConfsAt w q.pc q.cc a.nc a.nms a.css q.pp q.cq
theorem LenAt.below {w w':World} {a:Len} {q:LenP} (h:LenAt w a q) (hB:Below w.heap.size w w'):LenAt w' a q:=
 ⟨h.fields.below hB,h.waves.below hB,h.srfs.below hB,h.confs.below hB⟩
structure LenOk (a:Len):Prop where
 name:NameOk a.nm
 di:0<=a.di∧a.di<=1000000000
 pu:1<=a.pu∧a.pu<=1000000000
 nf:1<=a.nf∧a.nf<=5
 fr:∀i,i<a.nf->In (if a.di=0 then 1000000 else 1000000000) (a.X i)∧In (if a.di=0 then 1000000 else 1000000000) (a.Y i)
 fd:∀i k,k<i->i<a.nf->¬(a.X i=a.X k∧a.Y i=a.Y k)
 nw:1<=a.nw∧a.nw<=5
 pr:0<=a.pr∧a.pr<=a.nw-1
 wl:∀i,i<a.nw->300000<=a.L i∧a.L i<=2500000
 wg:∀i,i<a.nw->1<=a.G i∧a.G i<=100
 ws:∀i,i+1<a.nw->a.L i<a.L (i+1)
 ns:2<=a.l.length∧a.l.length<=16
 sok:∀s∈a.l,s.ok
 st:a.st+2<=a.l.length
 stop:(sAt a.l a.st).kind≠3
 image:(sAt a.l (a.l.length-1)).kind=1∧(sAt a.l (a.l.length-1)).glass = {data:=#[]}∧(sAt a.l (a.l.length-1)).thick=0∧(sAt a.l (a.l.length-1)).order=0∧(sAt a.l (a.l.length-1)).co=[]
 confs:ConfsOk a.l a.nc a.nms a.css
theorem Zec (a:Len) (ha:LenOk a) (q:LenP) (w:World) (h:LenAt w a q) :
  Calls Tryz.prog 72 #[.agg (lenC a q)] w λe w'=>e=.returned (.bool true)∧Below w.heap.size w w':=by
 have q1:=λW=>Ze6 a.nm ha.name W;have q2:=λW=>Za7 a.di 0 1000000000 ha.di.1 ha.di.2 W;have q3:=λW=>Za7 a.pu 1 1000000000 ha.pu.1 ha.pu.2 W;have q4:=λW (hW:Below w.heap.size w W)=>Zfz a.nm a.di a.pu a.st a.pr q.pf a.nf q.cf q.pw a.nw q.cw q.p a.l.length q.c q.pc a.nc q.cc a.X a.Y ha.nf _ rfl ha.fr ha.fd W (h.fields.below hW);have q5:=λW (hW:Below w.heap.size w W)=>Zhc a.nm a.di a.pu a.st a.pr q.pf a.nf q.cf q.pw a.nw q.cw q.p a.l.length q.c q.pc a.nc q.cc a.L a.G ha.nw ha.pr ha.wl ha.wg ha.ws W (h.waves.below hW);have q6:=λW (hW:Below w.heap.size w W)=>Zhy a.nm a.di a.pu a.pr a.st q.pf a.nf q.cf q.pw a.nw q.cw q.pc a.nc q.cc a.l ha.ns ha.sok ha.st ha.stop ha.image q.p q.c q.cp q.cl W (h.srfs.below hW);have q7:=λW (hW:Below w.heap.size w W)=>Zjj a.nm a.di a.pu a.st a.pr q.pf a.nf q.cf q.pw a.nw q.cw a.l ha.ns.2 ha.sok q.p q.c q.cp q.cl a.nc a.nms a.css ha.confs q.pc q.cc q.pp q.cq W (h.srfs.below hW) (h.confs.below hW);have hz:(Tryz.prog.info? 38).map (·.size)=some (lenC a q).size:=Zk;have g0:(lenC a q)[0]? = some (.string a.nm):=rfl;have g1:(lenC a q)[1]? = some (.int .i64 a.di):=rfl;have g2:(lenC a q)[2]? = some (.int .i64 a.pu):=rfl;clear h ha;change ∀W,Below w.heap.size w W->Calls Tryz.prog 112 #[.agg (lenC a q)] W _ at q4;change ∀W,Below w.heap.size w W->Calls Tryz.prog 113 #[.agg (lenC a q)] W _ at q5;change ∀W,Below w.heap.size w W->Calls Tryz.prog 114 #[.agg (lenC a q)] W _ at q6;change ∀W,Below w.heap.size w W->Calls Tryz.prog 115 #[.agg (lenC a q)] W _ at q7;generalize lenC a q=A at *;go_enter Tryz.func72,Tryz.ntmps72
 go_wp2_with fail
 refine Zbg λW hB hsz bS=>?_;have c0:=(bS.cell 0).trans g0;have c1:=(bS.cell 1).trans g1;have c2:=(bS.cell 2).trans g2;have lS:=bS.lt;have hzl:(Tryz.prog.info? 38).map (·.size)=some A.toList.length:=hz;refine(q1 W).mono ?_;rintro e w5 ⟨rfl,h5⟩;rw[h5];clear h5 w5;go_wp2_with first|(go_at_call 111;(first|with_reducible refine(q2 _).mono ?_|with_reducible refine(q3 _).mono ?_);rintro e w5 ⟨rfl,h5⟩;rw[h5];clear h5 w5)|(refine Zac rfl 38 (.tmp 1) rfl w.heap.size rfl 38 A bS _ Tryz.underlying38 rfl hz ?_)
 refine(q4 W hB).mono ?_;rintro e W1 ⟨rfl,hb1⟩;have hB1:=Zaa hB hb1;have bS1:=bS.below hb1;clear c0 c1 c2 q1 q2 q3 q4;go_wp2_with (refine Zbd (by rfl) 38 (.tmp 1) rfl w.heap.size 0 rfl A.toList _ bS1.range Tryz.underlying38 rfl hzl ?_)
 refine(q5 W1 hB1).mono ?_;rintro e W2 ⟨rfl,hb2⟩;have hB2:=Zaa hB1 hb2;have bS2:=bS1.below hb2;go_wp2_with (refine Zbd (by rfl) 38 (.tmp 1) rfl w.heap.size 0 rfl A.toList _ bS2.range Tryz.underlying38 rfl hzl ?_)
 refine(q6 W2 hB2).mono ?_;rintro e W3 ⟨rfl,hb3⟩;have hB3:=Zaa hB2 hb3;have bS3:=bS2.below hb3;go_wp2_with (refine Zbd (by rfl) 38 (.tmp 1) rfl w.heap.size 0 rfl A.toList _ bS3.range Tryz.underlying38 rfl hzl ?_)
 refine(q7 W3 hB3).mono ?_;rintro e W4 ⟨rfl,hb4⟩;go_wp2
 go_ret
 exact⟨rfl,Zaa hB3 hb4⟩
end Go.Proofs.W
