/- Contracts of package paraxial,and a verified evaluator. Part 11 of 26. No condition beside the row. -/
import Derived.Test.YtpfpiecljfimjaaGreatDoorA03
import Derived.Test.YtpfpiecljfimjaaGreatDoorA10
set_option linter.unusedVariables false
set_option linter.unusedSimpArgs false
set_option maxRecDepth 100000
set_option maxHeartbeats 4000000
namespace Go.Mono
open Go.RowKit
theorem Zg5 (x:Int):(x.tmod 1000000000<0->x.tmod 1000000000+1000000000=x%1000000000∧x.tdiv 1000000000-1=x/1000000000)∧(¬x.tmod 1000000000<0->x.tmod 1000000000=x%1000000000∧x.tdiv 1000000000=x/1000000000):=by
 by_cases h:0<=x
 ·rw[Ybr h,Ybk h]
  omega
 ·obtain⟨y,rfl⟩:∃y,x = -y:=⟨-x,Zo⟩
  rw[Int.neg_tmod,Int.neg_tdiv,Ybr Zo,Ybk Zo];omega
structure TInv (w0 wr:World) (base G n:Nat) (f:Nat->Int):Prop where
 row:RowF wr G n f
 lo:base<=G
 low:w0.heap.size<=base
 below:Below w0.heap.size w0 wr
 size:base<=wr.heap.size
theorem TInv.set {w0 wr:World} {base G n:Nat} {f:Nat->Int} (h:TInv w0 wr base G n f) (j:Nat) (x:Int):TInv w0 (wr.setCell ⟨G,j,none⟩ (.int .i64 x)) base G n (λi=>if i=j then x else f i):=
 ⟨h.row.set j x,h.lo,h.low,Zag h.below (Yak h.low h.lo) _ _,by simp only[World.size_setCell];exact h.size⟩
theorem TInv.drew {w0 wr:World} {base G n:Nat} {f:Nat->Int} (h:TInv w0 wr base G n f):TInv w0 wr.drew base G n f:=⟨h.row.drewN 1,h.lo,h.low,h.below.drew,h.size⟩
theorem TInv.congr {w0 wr:World} {base G n:Nat} {f f':Nat->Int} (h:TInv w0 wr base G n f) (he:∀i,i<n->f i=f' i):TInv w0 wr base G n f':=⟨h.row.congr he,h.lo,h.low,h.below,h.size⟩
end Go.Mono
namespace Go.Proofs.W
open Go.RowKit Go.Mono
theorem Zpf (base:Nat) (v:Value) (n:Nat) (f:Nat->Int) (q:Option Addr) (m c2:Nat) (g:Nat->Int) (w0 w:World) (ho:OwnF w base v n f) (hlow:w0.heap.size<=base) (hbase:base<=w.heap.size) (hB0:Below w0.heap.size w0 w) (h2:SlF w0 (.slice q (m+1) c2) (m+1) g) (d1:Digs f n) (d2:Digs g (m+1)) (hm6:m<=100000) (hlt:vf f n<vf g (m+1)*1000000000) :
  Calls Tryz.prog 208 #[v,.slice q (m+1) c2] w λe w'=>∃v' n' f' k,e=.returned (.tuple #[v',.int .i64 k])∧OwnF w' base v' n' f'∧Digs f' n'∧vf f' n'=vf f n%vf g (m+1)∧k=vf f n/vf g (m+1)∧Below w0.heap.size w0 w'∧base<=w'.heap.size:=by
 obtain⟨hc2,hn2,hx2⟩:=h2.opens;have hB1:0<vf g (m+1):=d2.pos.2 Zo;obtain⟨BB,hBB⟩:∃BB,vf g (m+1)=BB:=⟨_,rfl⟩
 obtain⟨RR,hRR⟩:∃RR,vf f n=RR:=⟨_,rfl⟩
 rw[hBB,hRR];rw[hBB,hRR]at hlt;rw[hBB]at hB1;replace hBB:=Yah hBB;go_enter Tryz.func208,Tryz.ntmps208
 go_wp2
 go_loopw [0,6] (λa b wr=>∃(n:Nat) (f:Nat->Int) (k:Int),OwnF wr base a n f∧b=.int .i64 k∧Digs f n∧vf f n+k*BB=RR∧0<=k∧Below w0.heap.size w0 wr∧base<=wr.heap.size) (λ_ b _=>(1000000000-intOf b).toNat)
 case atStart=>exact⟨n,f,0,ho,rfl,d1,by rw[hRR];simp,Yek _,hB0,hbase⟩
 case round=>
  clear ho d1 hRR hB0 hbase f n v;obtain⟨n,f,k,ho,rfl,d1,hv,hk0,hB0,hbase⟩:=hrel;obtain⟨p,c,rfl⟩:=ho.shape;have hf0:=d1.nonneg;have hk1:k*BB<1000000000*BB:=by rw[Ydh 1000000000];omega
  have hk9:k<1000000000:=Ygc hk1 Zo;have hnm:n<=m+2:=by
   by_cases hn:n<=m+2
   ·exact hn
   ·have h3:=d1.ge Zo
    have h4:=Zbs (show m+2<=n-1 by omega);have h5:=d2.lt;have h6:pw (m+2)=pw (m+1)*1000000000:=rfl;have h7:=Ycg hk0 (Yap hB1);rw[hBB.out]at h5;omega
  have hsl:=ho.sl Zo;have hless:=λ(W:World) (hW:Ext wr W)=>Ze3 p q n (m+1) c c2 f g W (hsl.ext hW) ((h2.ext (.of_below hB0)).ext hW) d1 d2;rw[hBB.out]at hless;by_cases hge:BB<=vf f n
  ·rw[decide_eq_false Zo]at hless
   have hnm1:m+1<=n:=d2.len_le d1 (by rw[hBB.out];exact hge);have hmn:m<n:=Zo;have hmul:=Ycg hk0 (Yap hB1);obtain⟨tk0,tk1⟩:=Zun d1.lo d2 (by rw[hBB.out];exact hge) hnm hmn;have tk2:=Zr0 d1.lo d2 (by rw[hBB.out];omega) hnm hmn;have f0:=d1.lo m hmn;have f9:=d1.hi m hmn;have g0:=d2.lo m Zo;have g9:=d2.hi m Zo;have x0:=Zjd d1.lo (m+1);have x9:=Zo8 d1.hi (m+1);rw[hBB.out]at tk1;obtain⟨b',off',rfl,hb',hcell'⟩:=hx2 Zo;have a2:=(hB0.cell (p:=⟨b',off'+m,none⟩) hb').trans (hcell' m Zo);obtain⟨G,cap,hp1,hGb,hcap,hrow⟩:∃g cap,Value.slice p n c=.slice (some ⟨g,0,none⟩) n cap∧base<=g∧n<=cap∧RowF wr g n f:=by
    rcases ho.open with ⟨_,h0⟩|h
    ·omega
    ·exact h
   obtain⟨rfl,rfl⟩:p=some ⟨G,0,none⟩∧c=cap:=by simpa using hp1
   have a1:=hrow.cell m hmn;have hgl:=hrow.lt;have hTI:TInv w0 wr base G n f:=⟨hrow,hGb,hlow,hB0,hbase⟩
   have hat1:=λ(W:World) (hW:Ext wr W)=>Zfn (some ⟨G,0,none⟩) n c (m+1) f W (hsl.ext hW);have hm1':(m:Int)<n:=Zo;have hm2':(m:Int)<m+1:=Zo;clear hcell' hp1 ho hsl;go_wp2_with fail
   refine(hless wr (Ext.refl _)).mono ?_;rintro e W1 ⟨rfl,kl,rfl⟩;replace hTI:TInv w0 (wr.drewN kl) base G n f:=⟨hrow.drewN kl,hGb,hlow,below_drewN hB0 _,hbase⟩
   have hx1:Ext wr (wr.drewN kl):=.of_below (below_drewN (Yae _ _) kl);replace a1:(wr.drewN kl).cell? ⟨G,m,none⟩=some (.int .i64 (f m)):=a1;replace a2:(wr.drewN kl).cell? ⟨b',off'+m,none⟩=some (.int .i64 (g m)):=a2;clear hless hrow hB0 hbase hgl;generalize wr.drewN kl=V at *;go_wp2
   refine wp_region_held_drew (S:=λw'=>w'.cell? ⟨G,m,none⟩=some (.int .i64 (f m))∧w'.cell? ⟨b',off'+m,none⟩=some (.int .i64 (g m))∧Ext wr w') Zx ⟨a1,a2,hx1.drew⟩ (λhHeld=>?_);have hTX:=hTI.drew;generalize V.drew=X0 at *;refine tk 0 (some 19) ?_;refine tk 1 (some 20) ?_;refine tk 2 (some 21) ?_;refine tk 5 (some 24) ?_;refine tk 6 (some 25) ?_;refine tk 7 (some 26) ?_;refine tk 8 (some 27) ?_;refine tk 10 (some 29) ?_;refine tk 11 (some 30) ?_;refine tk 12 (some 31) ?_;refine tk 13 (some 32) ?_;refine tk 14 (some 33) ?_;rw[show IntKind.i64.wrap ((m:Int)+1)=((m+1:Nat):Int) from by rw[Zct Zo Zo];rfl,Zct (z:=g m+1) Zo Zo];refine Mono.stc 3 (some 22) (hat1 X0 hHeld.2.2) (λe X1 hR=>?_);obtain⟨rfl,rfl⟩:=hR;refine⟨(hHeld),λhHeld=>Mono.pt ?_⟩;generalize xt f n (m+1)=x at *;generalize f m=y at *;generalize g m=t at *;refine tk 4 (some 23) ?_;refine tk 9 (some 28) ?_;rw[Zct (z:=x*1000000000) Zo Zo,Zct (z:=x*1000000000+y) Zo Zo];have ht0:(t+1==0)=false:=by simp;omega
   have ht1:t+1≠0:=Zo;refine tk 15 (some 34) ?_;have hH:0<=x*1000000000+y:=Zo;rw[Ybk hH,Zct (z:=(x*1000000000+y)/(t+1)) Zo Zo];generalize (x*1000000000+y)/(t+1)=kk at *;refine tk 16 (some 8) ?_;refine wpAnyH_done Zx ?_ _;clear hHeld hat1 hTI a1 a2 hx1 ht0 ht1 hH x0 x9 f0 f9 g0 g9;obtain⟨K,hK,hK1,hK9,hKB⟩:∃K:Int,(K=if kk=0 then 1 else kk)∧1<=K∧K<1000000000∧K*BB<=vf f n:=by
    by_cases h:kk=0
    ·exact⟨1,by rw[if_pos h],Zo,Zo,Zo⟩
    ·exact⟨kk,by rw[if_neg h],Zo,Zo,tk1⟩
   replace hK:=Yah hK;replace hKB:=Yah hKB;have hkK:(k+K)*BB<=RR:=by
    have:=hKB.out;rw[Yel];omega
   have hkK9:k+K<1000000000:=Ygc (a:=BB) (by rw[Ydh 1000000000];omega) Zo;by_cases hkz:kk=0
   ·subst hkz
    have hKv:=hK.out;rw[if_pos rfl]at hKv;obtain rfl:K=1:=hKv;clear hK;go_wp2
    go_loopw [9,10] (λa b wr=>∃(i:Nat) (c:Int) (h:Nat->Int),i<=n∧a=.int .i64 c∧b=.int .i64 (i:Int)∧TakI f (xt g (m+1)) 1 i h c∧TInv w0 wr base G n (λj=>if j<i then h j else f j)) (λ_ b _=>(n-intOf b).toNat)
    case atStart=>exact⟨0,0,λ_=>0,Yat _,rfl,rfl,TakI.start _ _ _ _,hTX.congr λj _=>by rw[if_neg Zo]⟩
    case round=>
     clear hTX hHeld;obtain⟨i,c',h,hi,rfl,rfl,hT,hTI⟩:=hrel;have hrow:=hTI.row;by_cases hin:i<n
     ·have hin':(i:Int)<n:=by omega
      have x0:=d1.lo i hin;have x9:=d1.hi i hin;have y0:=Zjd d2.lo i;have y9:=Zo8 d2.hi i;have hnx:=hT.next x0 x9 y0 y9 Zo hK9;obtain⟨q0,q9⟩:=Zjf y0 y9 (show 0<=1 by omega) hK9;have r0:=hT.c0;have r9:=hT.c1;have a1:=hrow.cell i hin;rw[if_neg (Yfw i)]at a1;have hat2:=λ(W:World) (hW:Below w0.heap.size w0 W)=>Zfn (some ⟨b',off',none⟩) (m+1) c2 i g W (h2.ext (.of_below hW));go_wp2
      refine wp_region_held_drew (S:=λw'=>w'.cell? ⟨G,i,none⟩=some (.int .i64 (f i))∧Below w0.heap.size w0 w') Zx ⟨a1,hTI.below.drew⟩ (λhHeld=>?_);have hTX:=hTI.drew;generalize wr.drew=X0 at *;refine tk 0 (some 46) ?_;refine tk 1 (some 47) ?_;refine tk 2 (some 48) ?_;refine tk 3 (some 49) ?_;refine tk 4 (some 50) ?_;refine tk 5 (some 51) ?_;refine tk 7 (some 53) ?_;refine tk 10 (some 56) ?_;refine Mono.stc 6 (some 52) (hat2 X0 hHeld.2) (λe X1 hR=>?_);obtain⟨rfl,rfl⟩:=hR;refine⟨(hHeld),λhHeld=>Mono.pt ?_⟩;generalize xt g (m+1) i=y at *;generalize hfi:f i=x at *;refine tk 8 (some 54) ?_;refine tk 9 (some 55) ?_;refine tk 11 (some 57) ?_;refine tk 12 (some 11) ?_;rw[Zct (z:=y) Zo Zo,Zct (z:=x-y) Zo Zo,Zct (z:=x-y+c') Zo Zo];rw[Int.mul_one]at hnx;refine wpAnyH_done Zx ?_ _;have hHB:=hHeld.2;have e1 : -2000000000000000000<=x-y+c':=Zo;have e2:x-y+c'<=1000000000:=Zo;clear hHeld hat2 q0 q9 hT hTI a1 hrow;generalize x-y+c'=e at *;obtain⟨p1,p2⟩:=Zg5 e;have hmm:(e.tmod 1000000000).natAbs<1000000000:=by rw[Ydy];exact Nat.mod_lt _ Zd
      have t1 : -1000000000<e.tmod 1000000000:=Zo;have t2:e.tmod 1000000000<1000000000:=Zo;have hw:wrap64 (e.tdiv 1000000000)=e.tdiv 1000000000:=by
       have:=Yfg e 1000000000;unfold wrap64;omega
      have a3:=hTX.row.cell i hin;have a4:=hTX.row.frozen i;have hst:=hTX.set i (e%1000000000);replace p1:=Yah p1;replace p2:=Yah p2;by_cases hneg:e.tmod 1000000000<0
      ·obtain⟨z1,z2⟩:=p1.out hneg
       go_wp2
       go_roundw
       case rel=>
        refine⟨i+1,e/1000000000,_,Zo,by first|rfl|rw[z2],Zs,hnx,?_⟩;try rw[z1]
        exact hst.congr λj hj=>by
         by_cases hji:j=i
         ·subst hji;simp
         ·simp only[if_neg hji]
          by_cases hlt:j<i
          ·rw[if_pos hlt,if_pos Zo]
          ·rw[if_neg hlt,if_neg Zo]
       case measure=>simp[intOf];omega
      ·obtain⟨z1,z2⟩:=p2.out hneg
       go_wp2
       go_roundw
       case rel=>
        refine⟨i+1,e/1000000000,_,Zo,by first|rfl|rw[z2],Zs,hnx,?_⟩;try rw[z1]
        exact hst.congr λj hj=>by
         by_cases hji:j=i
         ·subst hji;simp
         ·simp only[if_neg hji]
          by_cases hlt:j<i
          ·rw[if_pos hlt,if_pos Zo]
          ·rw[if_neg hlt,if_neg Zo]
       case measure=>simp[intOf];omega
     ·obtain rfl:i=n:=by omega
      have hval:=hT.done (m:=m+1) hnm1 (by rw[hBB.out];exact hKB.out);rw[hBB.out]at hval;have hsl2:SlF wr (.slice (some ⟨G,0,none⟩) i c) i h:=SlF.congr (hrow.slice Zo i (Yab _) c hcap) (λj hj=>if_pos hj);have hmm:=λW1 hW1=>Zbo false (some ⟨G,0,none⟩) i c h W1 (hsl2.ext hW1) Zo hT.lo hT.hi;have hBw:=hTI.below;have hsz:=hTI.size;replace hval:=Yah hval;clear hT hrow hsl2 hx2;go_wp2_with fail
      refine(hmm wr (Ext.refl _)).mono ?_;rintro e W2 ⟨v',rfl,ho2,d3,e3,hb⟩;have hBw2:=Zaa hBw hb;have hsz2:=hb.size;obtain⟨p',c'',rfl⟩:=ho2.shape;have hf0:∀w:World,(Instr.field 49 (.agg #[.bool false,.slice p' (trimN h i) c'']) 1).run Tryz.prog w=.ok (.slice p' (trimN h i) c'') w:=λ_=>Zk;clear hmm hTI hBw;go_wp2
      go_roundw
      case rel=>
       refine⟨trimN h i,h,k+1,ho2.lower Zo,rfl,d3,?_,Zo,hBw2,Zo⟩;rw[e3,hval.out,Yel];omega
      case measure=>simp[intOf];omega
   ·have hKv:=hK.out
    rw[if_neg hkz]at hKv;obtain rfl:K=kk:=hKv;have hkz':(K==0)=false:=by simpa using hkz
    clear hK;go_wp2
    go_loopw [9,10] (λa b wr=>∃(i:Nat) (c:Int) (h:Nat->Int),i<=n∧a=.int .i64 c∧b=.int .i64 (i:Int)∧TakI f (xt g (m+1)) K i h c∧TInv w0 wr base G n (λj=>if j<i then h j else f j)) (λ_ b _=>(n-intOf b).toNat)
    case atStart=>exact⟨0,0,λ_=>0,Yat _,rfl,rfl,TakI.start _ _ _ _,hTX.congr λj _=>by rw[if_neg Zo]⟩
    case round=>
     clear hTX hHeld;obtain⟨i,c',h,hi,rfl,rfl,hT,hTI⟩:=hrel;have hrow:=hTI.row;by_cases hin:i<n
     ·have hin':(i:Int)<n:=by omega
      have x0:=d1.lo i hin;have x9:=d1.hi i hin;have y0:=Zjd d2.lo i;have y9:=Zo8 d2.hi i;have hnx:=hT.next x0 x9 y0 y9 Zo hK9;obtain⟨q0,q9⟩:=Zjf y0 y9 (show 0<=K by omega) hK9;have r0:=hT.c0;have r9:=hT.c1;have a1:=hrow.cell i hin;rw[if_neg (Yfw i)]at a1;have hat2:=λ(W:World) (hW:Below w0.heap.size w0 W)=>Zfn (some ⟨b',off',none⟩) (m+1) c2 i g W (h2.ext (.of_below hW));go_wp2
      refine wp_region_held_drew (S:=λw'=>w'.cell? ⟨G,i,none⟩=some (.int .i64 (f i))∧Below w0.heap.size w0 w') Zx ⟨a1,hTI.below.drew⟩ (λhHeld=>?_);have hTX:=hTI.drew;generalize wr.drew=X0 at *;refine tk 0 (some 46) ?_;refine tk 1 (some 47) ?_;refine tk 2 (some 48) ?_;refine tk 3 (some 49) ?_;refine tk 4 (some 50) ?_;refine tk 5 (some 51) ?_;refine tk 7 (some 53) ?_;refine tk 10 (some 56) ?_;refine Mono.stc 6 (some 52) (hat2 X0 hHeld.2) (λe X1 hR=>?_);obtain⟨rfl,rfl⟩:=hR;refine⟨(hHeld),λhHeld=>Mono.pt ?_⟩;generalize xt g (m+1) i=y at *;generalize hfi:f i=x at *;refine tk 8 (some 54) ?_;refine tk 9 (some 55) ?_;refine tk 11 (some 57) ?_;refine tk 12 (some 11) ?_;rw[Zct (z:=y*K) Zo Zo,Zct (z:=x-y*K) Zo Zo,Zct (z:=x-y*K+c') Zo Zo];refine wpAnyH_done Zx ?_ _;have hHB:=hHeld.2;have e1 : -2000000000000000000<=x-y*K+c':=Zo;have e2:x-y*K+c'<=1000000000:=Zo;clear hHeld hat2 q0 q9 hT hTI a1 hrow;generalize x-y*K+c'=e at *;obtain⟨p1,p2⟩:=Zg5 e;have hmm:(e.tmod 1000000000).natAbs<1000000000:=by rw[Ydy];exact Nat.mod_lt _ Zd
      have t1 : -1000000000<e.tmod 1000000000:=Zo;have t2:e.tmod 1000000000<1000000000:=Zo;have hw:wrap64 (e.tdiv 1000000000)=e.tdiv 1000000000:=by
       have:=Yfg e 1000000000;unfold wrap64;omega
      have a3:=hTX.row.cell i hin;have a4:=hTX.row.frozen i;have hst:=hTX.set i (e%1000000000);replace p1:=Yah p1;replace p2:=Yah p2;by_cases hneg:e.tmod 1000000000<0
      ·obtain⟨z1,z2⟩:=p1.out hneg
       go_wp2
       go_roundw
       case rel=>
        refine⟨i+1,e/1000000000,_,Zo,by first|rfl|rw[z2],Zs,hnx,?_⟩;try rw[z1]
        exact hst.congr λj hj=>by
         by_cases hji:j=i
         ·subst hji;simp
         ·simp only[if_neg hji]
          by_cases hlt:j<i
          ·rw[if_pos hlt,if_pos Zo]
          ·rw[if_neg hlt,if_neg Zo]
       case measure=>simp[intOf];omega
      ·obtain⟨z1,z2⟩:=p2.out hneg
       go_wp2
       go_roundw
       case rel=>
        refine⟨i+1,e/1000000000,_,Zo,by first|rfl|rw[z2],Zs,hnx,?_⟩;try rw[z1]
        exact hst.congr λj hj=>by
         by_cases hji:j=i
         ·subst hji;simp
         ·simp only[if_neg hji]
          by_cases hlt:j<i
          ·rw[if_pos hlt,if_pos Zo]
          ·rw[if_neg hlt,if_neg Zo]
       case measure=>simp[intOf];omega
     ·obtain rfl:i=n:=by omega
      have hval:=hT.done (m:=m+1) hnm1 (by rw[hBB.out];exact hKB.out);rw[hBB.out]at hval;have hsl2:SlF wr (.slice (some ⟨G,0,none⟩) i c) i h:=SlF.congr (hrow.slice Zo i (Yab _) c hcap) (λj hj=>if_pos hj);have hmm:=λW1 hW1=>Zbo false (some ⟨G,0,none⟩) i c h W1 (hsl2.ext hW1) Zo hT.lo hT.hi;have hBw:=hTI.below;have hsz:=hTI.size;replace hval:=Yah hval;clear hT hrow hsl2 hx2;go_wp2_with fail
      refine(hmm wr (Ext.refl _)).mono ?_;rintro e W2 ⟨v',rfl,ho2,d3,e3,hb⟩;have hBw2:=Zaa hBw hb;have hsz2:=hb.size;obtain⟨p',c'',rfl⟩:=ho2.shape;have hf0:∀w:World,(Instr.field 49 (.agg #[.bool false,.slice p' (trimN h i) c'']) 1).run Tryz.prog w=.ok (.slice p' (trimN h i) c'') w:=λ_=>Zk;clear hmm hTI hBw;go_wp2
      go_roundw
      case rel=>
       refine⟨trimN h i,h,k+K,ho2.lower Zo,rfl,d3,?_,Zo,hBw2,Zo⟩;rw[e3,hval.out,Yel];omega
      case measure=>simp[intOf];omega
  ·rw[decide_eq_true Zo]at hless
   have hdiv:vf f n=RR%BB∧k=RR/BB:=by
    rw[<-hv,Int.add_mul_ediv_right _ _ Zo,Int.ediv_eq_zero_of_lt hf0 Zo,Int.zero_add,Int.add_mul_emod_self_right,Int.emod_eq_of_lt hf0 Zo];exact⟨rfl,rfl⟩
   replace hdiv:=Yah hdiv;go_wp2_with fail
   refine(hless wr (Ext.refl _)).mono ?_;rintro e W1 ⟨rfl,kl,rfl⟩;clear hv hx2;go_wp2
   go_ret2
   refine⟨_,n,f,k,rfl,ho.below (below_drewN (Yae _ _) _),d1,hdiv.out.1,hdiv.out.2,below_drewN hB0 _,hbase⟩
theorem Ziq (s t:Bool) (m1 m2:Nat) (p q:Option Addr) (n m c1 c2:Nat) (N M:Int) (w wf:World) (hx:Ext wf w) (h1:Sz m1 wf (.slice p n c1) N) (h2:Sz m2 wf (.slice q m c2) M) :
  Calls Tryz.prog 66 #[.agg #[.bool s,.slice p n c1],.agg #[.bool t,.slice q m c2]] w λe w'=>e=.returned (.bool (decide (s=t∧N=M)))∧Below w.heap.size w w':=by
 replace h1:=h1.ext hx;replace h2:=h2.ext hx;clear hx;by_cases hst:s=t
 ·subst hst
  have e1:decide (s=s∧N=M)=decide (N=M):=Zs;rw[e1];clear e1;go_enter Tryz.func66,Tryz.ntmps66
  go_wp2_with fail
  refine Zbj λW hB hs b0 b1=>?_;refine(Zt1 m1 m2 p q n m c1 c2 N M W w (.of_below hB) h1 h2).mono ?_;rintro e W1 ⟨rfl,hb1⟩;go_wp2
  go_ret
  exact⟨rfl,Zaa hB hb1⟩
 ·have e1:decide (s=t∧N=M)=false:=by simp[hst]
  rw[e1];clear e1;have hss:(s==t)=false:=by simpa using hst
  clear hst;go_enter Tryz.func66,Tryz.ntmps66
  go_wp2_with fail
  go_ret
  exact⟨rfl,Zad (Zad (Yae _ _) _) _⟩
theorem Zlx (s s' t t':Bool) (m1:Nat) (p q p' q':Option Addr) (n m c1 c2 n' m' c1' c2':Nat) (N M N' M':Int) (w wf:World) (hx:Ext wf w) (h1:Sz m1 wf (.slice p n c1) N) (h2:Sz m1 wf (.slice q m c2) M) (h3:Sz m1 wf (.slice p' n' c1') N') (h4:Sz m1 wf (.slice q' m' c2') M') :
  Calls Tryz.prog 30 #[.agg #[.bool s,.slice p n c1,.bool t,.slice q m c2],.agg #[.bool s',.slice p' n' c1',.bool t',.slice q' m' c2']] w λe w'=>e=.returned (.bool (decide ((s=s'∧N=N')∧(t=t'∧M=M'))))∧Below w.heap.size w w':=by
 replace h1:=h1.ext hx;replace h2:=h2.ext hx;replace h3:=h3.ext hx;replace h4:=h4.ext hx;clear hx;by_cases hst:s=s'∧N=N'
 ·have e1:decide ((s=s'∧N=N')∧(t=t'∧M=M'))=decide (t=t'∧M=M'):=by simp[hst]
  rw[e1];clear e1;have e2:decide (s=s'∧N=N')=true:=by simp[hst]
  replace e2:=Yah e2;clear hst;go_enter Tryz.func30,Tryz.ntmps30
  go_wp2_with fail
  refine Zbj λW hB hs b0 b1=>?_;refine(Ziq s s' m1 m1 p p' n n' c1 c1' N N' _ w (.of_below hB) h1 h3).mono ?_;rintro e W1 ⟨rfl,hb1⟩;rw[e2.out];replace hB:=Zaa hB hb1;replace b0:=b0.below hb1;replace b1:=b1.below hb1;have cb0:=b0.cell;have lb0:=b0.lt;have fb0:=b0.frozen;have cb1:=b1.cell;have lb1:=b1.lt;have fb1:=b1.frozen;go_wp2_with fail
  refine(Ziq t t' m1 m1 q q' m m' c2 c2' M M' _ w (.of_below hB) h2 h4).mono ?_;rintro e W2 ⟨rfl,hb2⟩;go_wp2
  go_ret
  exact⟨Zs,Zaa hB hb2⟩
 ·have e1:decide ((s=s'∧N=N')∧(t=t'∧M=M'))=false:=by simp;intro a b;exact absurd ⟨a,b⟩ hst
  rw[e1];clear e1;have e2:decide (s=s'∧N=N')=false:=by simpa using hst
  replace e2:=Yah e2;clear hst;go_enter Tryz.func30,Tryz.ntmps30
  go_wp2_with fail
  refine Zbj λW hB hs b0 b1=>?_;refine(Ziq s s' m1 m1 p p' n n' c1 c1' N N' _ w (.of_below hB) h1 h3).mono ?_;rintro e W1 ⟨rfl,hb1⟩;rw[e2.out];go_wp2
  go_ret
  exact⟨rfl,Zaa hB hb1⟩
theorem Zt2 (u v:Value) (a b:Rat) (w wf:World) (hx:Ext wf w) (h1:QV wf u a) (h2:QV wf v b) :
  Calls Tryz.prog 30 #[u,v] w λe w'=>e=.returned (.bool (decide (a=b)))∧Below w.heap.size w w':=by
 obtain⟨p,k,c,p',k',c',rfl,x1,x2⟩:=h1;obtain⟨q,l,d,q',l',d',rfl,y1,y2⟩:=h2;have:decide ((decide (a.num<0)=decide (b.num<0)∧(a.num.natAbs:Int)=b.num.natAbs)∧(false=false∧(a.den:Int)=b.den))=decide (a=b):=by
  rw[decide_eq_decide];constructor
  ·rintro⟨⟨h1,h2⟩,_,h3⟩
   rw[decide_eq_decide]at h1;exact Rat.ext Zo Zo
  ·rintro rfl;simp
 rw[<-this];exact Zlx _ _ _ _ 600 p p' q q' k k' c c' l l' d d' _ _ _ _ w wf hx x1 x2 y1 y2
end Go.Proofs.W
namespace Go.Mono
open Go.RowKit
theorem Box.results2s {P:Program} {w:World} {B B1:Nat} {T T1:TypeId} {cs cs1:Array Value} (b:Box w B T cs) (b1:Box w B1 T1 cs1) {fn:Func} {p p1:Tmp} {ty ty1:TypeId} (h:fn.results = #[.cell p ty,.cell p1 ty1]) (tmps:Array Value) (d d1:TypeDesc)
  (ht:tmps.getD p undef=.pointer (some ⟨B,0,none⟩)) (ht1:tmps.getD p1 undef=.pointer (some ⟨B1,0,none⟩)) (hu:P.underlying ty=some d) (hd:d.isRow=true) (hi:(P.info? ty).map (·.size)=some cs.size)
  (hu1:P.underlying ty1=some d1) (hd1:d1.isRow=true) (hi1:(P.info? ty1).map (·.size)=some cs1.size):(Go.results fn tmps).run P w=.ok (.tuple #[.agg cs,.agg cs1]) w:=by
 have hp':tmps[p]?.getD undef=.pointer (some ⟨B,0,none⟩):=by simpa using ht
 have hp1:tmps[p1]?.getD undef=.pointer (some ⟨B1,0,none⟩):=by simpa using ht1
 have hld:=run_loadVar_row (P:=P) w B T ty cs (0,0) d b.blk hu (by cases d<;>simp_all [TypeDesc.isRow]) hi;have hld1:=run_loadVar_row (P:=P) w B1 T1 ty1 cs1 (0,0) d1 b1.blk hu1 (by cases d1<;>simp_all [TypeDesc.isRow]) hi1;simp[Go.results,h,hp',hp1,asAddr,hld,hld1]
theorem OwnF.lit (w:World) (x:Int):OwnF (w.alloc (.cells #[.int .i64 x] 3)) w.heap.size (.slice (some ⟨w.heap.size,0,none⟩) 1 1) 1 (λ_=>x):=
 ⟨Zs,.inr ⟨w.heap.size,1,#[.int .i64 x],rfl,Yab _,(Box.new _ _ _).blk,Yab _,by simp[maxLen],rfl,rfl⟩⟩
theorem Zde {X:World} {B R j:Nat} {u:Value} {A:Array Value} (h:∀i,X.cell? ⟨B,i,none⟩=A[i]?) (hne:B≠R):∀i,(X.setCell ⟨R,j,none⟩ u).cell? ⟨B,i,none⟩=A[i]?:=λi=>
 (World.cell?_of_block (a:=⟨B,i,none⟩) (Ydx X ⟨R,j,none⟩ u B hne)).trans (h i)
structure QInv (w wr:World) (T:TypeId) (R n:Nat) (q:Nat->Int) (A0 A1:Array Value):Prop where
 row:RowF wr R n q
 b0:Box wr w.heap.size T A0
 b1:Box wr (w.heap.size+1) T A1
 b2:Box wr (w.heap.size+1+1) T #[.bool false,.slice none 0 0]
 b3:Box wr (w.heap.size+1+1+1) T #[.bool false,.slice none 0 0]
 below:Below w.heap.size w wr
 above:w.heap.size+1+1+1+1<=R
theorem QInv.of_below {w wr w':World} {T:TypeId} {R n:Nat} {q:Nat->Int} {A0 A1:Array Value} (h:QInv w wr T R n q A0 A1) (hb:Below (R+1) wr w'):QInv w w' T R n q A0 A1:=by
 have ha:=h.above;obtain⟨cs,h1,h2⟩:=h.row;exact⟨⟨cs,(hb.block R Zo).trans h1,h2⟩,h.b0.low hb Zo,h.b1.low hb Zo,h.b2.low hb Zo,h.b3.low hb Zo,h.below.trans (hb.mono Zo),ha⟩
theorem QInv.set {w wr:World} {T:TypeId} {R n:Nat} {q:Nat->Int} {A0 A1:Array Value} (h:QInv w wr T R n q A0 A1) (j:Nat) (x:Int):QInv w (wr.setCell ⟨R,j,none⟩ (.int .i64 x)) T R n (λi=>if i=j then x else q i) A0 A1:=by
 have ha:=h.above;exact⟨h.row.set j x,h.b0.other _ _ (by show w.heap.size≠R;omega),h.b1.other _ _ (by show w.heap.size+1≠R;omega),h.b2.other _ _ (by show w.heap.size+1+1≠R;omega),h.b3.other _ _ (by show w.heap.size+1+1+1≠R;omega),Zag h.below Zo _ _,ha⟩
end Go.Mono
namespace Go.Proofs.W
open Go.RowKit Go.Mono
theorem Zhw (s t:Bool) (p q:Option Addr) (n m c1 c2:Nat) (f g:Nat->Int) (w:World) (h1:SlF w (.slice p n c1) n f) (h2:SlF w (.slice q (m+1) c2) (m+1) g) (d1:Digs f n) (d2:Digs g (m+1)) (hn6:n<=100000) (hm6:m<=100000) :
  Calls Tryz.prog 175 #[.agg #[.bool s,.slice p n c1],.agg #[.bool t,.slice q (m+1) c2]] w λe w'=>∃p1 k1 c1 h1 p2 k2 c2 h2,e=.returned (.tuple #[.agg #[.bool ((s != t)&&decide (0<vf f n/vf g (m+1))),.slice p1 k1 c1],.agg #[.bool (s&&decide (0<vf f n%vf g (m+1))),.slice p2 k2 c2]])∧
   SlF w' (.slice p1 k1 c1) k1 h1∧Digs h1 k1∧vf h1 k1=vf f n/vf g (m+1)∧k1<=n∧SlF w' (.slice p2 k2 c2) k2 h2∧Digs h2 k2∧vf h2 k2=vf f n%vf g (m+1)∧k2<=m+1∧Below w.heap.size w w':=by
 obtain⟨hc1,hn1,hx1⟩:=h1.opens;obtain⟨hc2,hn2,hx2⟩:=h2.opens;have hB1:0<vf g (m+1):=d2.pos.2 Zo;obtain⟨s1,hs1⟩:∃sg:Bool,((s != t)&&decide (0<vf f n/vf g (m+1)))=sg:=⟨_,rfl⟩
 obtain⟨s2,hs2⟩:∃sg:Bool,(s&&decide (0<vf f n%vf g (m+1)))=sg:=⟨_,rfl⟩
 rw[hs1,hs2];replace hs1:=Yah hs1;replace hs2:=Yah hs2;go_enter Tryz.func175,Tryz.ntmps175
 go_wp2_with (first
  | (at_make;refine Za0 _ rfl _ _ 47 rfl Tryz.underlying47 Zby _ _ n rfl rfl Zs Zs Zo ?_;intro W1 r1 hb1;have q0:=((((Box.new w 49 #[.bool s,.slice p n c1]).alloc (.cells #[.bool t,.slice q (m+1) c2] 49)).alloc (.cells #[.bool false,.slice none 0 0] 49)).alloc (.cells #[.bool false,.slice none 0 0] 49)).below hb1;have cq0:=q0.cell))
 have hR:((((w.alloc (.cells #[.bool s,.slice p n c1] 49)).alloc (.cells #[.bool t,.slice q (m+1) c2] 49)).alloc (.cells #[.bool false,.slice none 0 0] 49)).alloc (.cells #[.bool false,.slice none 0 0] 49)).heap.size=w.heap.size+1+1+1+1:=Zs;rw[hR]at r1;have hB:=Zaa (Zad (Zcp w (.cells #[.bool s,.slice p n c1] 49) (.cells #[.bool t,.slice q (m+1) c2] 49) (.cells #[.bool false,.slice none 0 0] 49)) (.cells #[.bool false,.slice none 0 0] 49)) hb1;have hI0:QInv w W1 49 (w.heap.size+1+1+1+1) n (λ_=>0) #[.bool s,.slice p n c1] #[.bool t,.slice q (m+1) c2]:=by
  have b1:=Box.new (w.alloc (.cells #[.bool s,.slice p n c1] 49)) 49 #[.bool t,.slice q (m+1) c2];have b3:=Box.new (((w.alloc (.cells #[.bool s,.slice p n c1] 49)).alloc (.cells #[.bool t,.slice q (m+1) c2] 49)).alloc (.cells #[.bool false,.slice none 0 0] 49)) 49 #[.bool false,.slice none 0 0];simp only[Yav]at b1 b3;exact⟨r1,q0,((b1.alloc _).alloc _).below hb1,((Zgh w _ _ _ _ _ _).alloc _).below hb1,b3.below hb1,hB,Yab _⟩
 have hs0:=hI0.row.lt;clear hb1 hB hR r1 q0 cq0;go_loopw [7,8] (λv x wr=>∃(i r:Nat) (h qf:Nat->Int) (R:Int),i<=n∧x=.int .i64 ((i:Int)-1)∧OwnF wr (w.heap.size+1+1+1+1+1) v r h∧Digs h r∧vf h r=R∧ParI f n (vf g (m+1)) i qf R∧QInv w wr 49 (w.heap.size+1+1+1+1) n qf #[.bool s,.slice p n c1] #[.bool t,.slice q (m+1) c2]∧w.heap.size+1+1+1+1+1<=wr.heap.size) (λ_ x _=>(intOf x+1).toNat)
 case atStart=>exact⟨n,0,λ_=>0,_,0,Yab _,rfl,OwnF.nil _ _ _,⟨λi hi=>Zo,λi hi=>Zo,λh=>Zo⟩,rfl,ParI.start _ _ _ hB1,hI0,Zo⟩
 case round=>
  clear hI0 hs0;obtain⟨i,r,h,qf,R,hi,rfl,ho,d3,hv,hP,hI,hsz⟩:=hrel;obtain⟨pr,cr,rfl⟩:=ho.shape;have b0:=hI.b0;have cb0:=b0.cell;have lb0:=b0.lt;have fb0:=b0.frozen;by_cases hi0:0<i
  ·obtain⟨i,rfl⟩:∃j,i=j+1:=⟨i-1,Zo⟩
   rw[show((i+1:Nat):Int)-1=(i:Int) by omega];obtain⟨b,off,rfl,hb,hcell⟩:=hx1 Zo;have ai:=(hI.below.cell (p:=⟨b,off+i,none⟩) hb).trans (hcell i Zo);have hin:(i:Int)<n:=Zo;have f0:=d1.lo i Zo;have f9:=d1.hi i Zo;have hr6:r<=m+1:=d3.len_le d2 (by have:=hP.r1;omega);generalize hfi:f i=x at *;clear hcell;go_wp2_with (at_builtin;(refine Za9 _ rfl _ _ 47 rfl Tryz.underlying47 Zby wr.heap.size (.slice (some ⟨wr.heap.size,0,none⟩) 1 1) 1 (λ_=>x) rfl (OwnF.lit wr x) pr r cr h rfl ?_ ?_ ?_ ?_);(exact(ho.sl Zo).ext ((Ext.refl _).alloc _));omega;(simp);(intro v' w1 ho' hg))
   obtain⟨p',c',rfl⟩:=ho'.shape;have hz:Below wr.heap.size wr w1:=((Yae wr.heap.size wr).alloc (Yab _) (.cells #[.int .i64 x] 3)).grown hg Zs (λk hk=>(OwnF.lit wr x).low k hk);have hnext:SlF w1 (.slice p' (r+1) c') (r+1) (shl x h):=by
    have e:OwnF w1 wr.heap.size (.slice p' (1+r) c') (1+r) (shl x h):=ho'.congr λj hj=>by
     unfold shl;by_cases h0:j=0
     ·rw[if_pos Zo,if_pos h0]
     ·rw[if_neg Zo,if_neg h0]
    rw[Yfb]at e;exact e.sl Zo
   rw[Yfb 1 r];have hmade:=λ(X:World) (hX:Ext w1 X)=>Zbo false p' (r+1) c' (shl x h) X (hnext.ext hX) Zo (λj hj=>by
    unfold shl;split
    ·exact f0
    ·exact d3.lo _ Zo) (λj hj=>by
    unfold shl;split
    ·exact f9
    ·exact d3.hi _ Zo)
   have hIz:=hI.of_below (hz.mono Zo);clear cb0 lb0 fb0 b0 ai ho hg ho';have b1:=hIz.b1;have cb1:=b1.cell;have lb1:=b1.lt;have fb1:=b1.frozen;go_wp2
   refine wp_region_held_drew (S:=λw'=>(∀i,w'.cell? ⟨w.heap.size+1,i,none⟩=(#[.bool t,.slice q (m+1) c2]:Array Value)[i]?)∧Below w.heap.size w w') Zx ⟨cb1,hIz.below.drew⟩ (λhHeld=>?_);have hz0:=hz.drew;have hx0:Ext w1 w1.drew:=(Ext.refl _).drew;have hsz0:wr.heap.size<=w1.drew.heap.size:=hz.size;generalize w1.drew=X0 at *;refine tk 0 (some 31) ?_;refine tk 1 (some 32) ?_;refine tk 2 (some 33) ?_;refine tk 5 (some 36) ?_;refine tk 6 (some 37) ?_;have hIX:=hI.of_below (hz0.mono Zo);refine Mono.stc 3 (some 34) (hmade X0 hx0) (λe X1 hR=>?_);obtain⟨v2,rfl,ho2,d4,e4,hb4⟩:=hR;refine⟨(⟨(hIX.b1.below hb4).cell,Zaa hHeld.2 hb4⟩),λhHeld=>Mono.pt ?_⟩;obtain⟨p2,c2',rfl⟩:=ho2.shape;refine tl 4 (some 35) rfl (.slice p2 (trimN (shl x h) (r+1)) c2') (λw _=>Zx) ?_;have hz1:=Zaa hz0 hb4;have hP0:=hP.r0;have hP1:=hP.r1;have hvs:vf (shl x h) (trimN (shl x h) (r+1))=x+1000000000*R:=by rw[e4,Zx4,hv]
   have htk:=Zpf wr.heap.size (.slice p2 (trimN (shl x h) (r+1)) c2') (trimN (shl x h) (r+1)) (shl x h) q m c2 g wr X1 (ho2.lower hsz0) (Yab _) (Yak hsz0 hb4.size) hz1 (h2.ext (.of_below hI.below)) d4 d2 hm6 (by rw[hvs];omega);rw[hvs]at htk;refine Mono.stc 7 (some 38) (htk) (λe X2 hR=>?_);obtain⟨v3,n3,f3,k3,rfl,ho3,d5,e5,hk3,hb5,hs5⟩:=hR;refine⟨(⟨(hI.of_below (hb5.mono Zo)).b1.cell,(hI.of_below (hb5.mono Zo)).below⟩),λhHeld=>Mono.pt ?_⟩;replace hk3:=Yah hk3;refine tk 8 (some 30) ?_;refine tk 9 (some 39) ?_;refine tk 10 (some 40) ?_;refine tk 11 (some 7) ?_;refine tk 12 (some 41) ?_;have hI3:=hI.of_below (hb5.mono Zo);have hI4:=hI3.set i k3;have a5:=hI3.row.cell i Zo;have a6:=hI3.row.frozen i;refine Mono.st 13 ?_;intro K hK;go_simp
   refine kp hK (⟨hI4.b1.cell,hI4.below⟩) (λhHeld=>?_);clear hK K;refine wpAnyH_done Zx ?_ _;have hk30:0<=k3:=by rw[hk3.out];exact Ydq Zo Zo
   have hk39:k3<1000000000:=by rw[hk3.out];exact Int.ediv_lt_of_lt_mul hB1 (by rw[Ydh];omega)
   have hdiv:=Int.emod_add_mul_ediv (x+1000000000*R) (vf g (m+1));have hr0:=Ycc (x+1000000000*R) (by omega:vf g (m+1)≠0);have hr1:=Ybu (x+1000000000*R) hB1;rw[<-hk3.out]at hdiv;have hPn:=hP.next Zo hk30 hk39 hr0 hr1 (by rw[hfi,Ydh k3];omega);have ho5:=ho3.lower hsz;have hs6:w.heap.size+1+1+1+1+1<=X2.heap.size:=Zo;have ho6:=ho5.set ⟨w.heap.size+1+1+1+1,i,none⟩ (.int .i64 k3) (by show w.heap.size+1+1+1+1<_;omega);clear hHeld htk hmade hnext hIX hIz hI3 ho3 ho2 hb5 hb4 cb1 fb1 lb1 b1 a5 a6 hz hz0 hz1 hx0;go_wp2
   go_roundw
   case rel=>
    exact⟨i,n3,f3,_,_,Zo,Zs,ho6,d5,e5,hPn,hI4,by simpa using hs6⟩
   case measure=>simp[intOf]
  ·obtain rfl:i=0:=by omega
   obtain⟨hq,hR⟩:=hP.done;have hlo:=λj (hj:j<n)=>hP.lo j (Yat _) hj;have hhi:=λj (hj:j<n)=>hP.hi j (Yat _) hj;have hr6:r<=m+1:=d3.len_le d2 (by have:=hP.r1;omega);have hm1:=λ(X:World) (hX:Ext wr X)=>Zbo (s != t) (some ⟨w.heap.size+1+1+1+1,0,none⟩) n n qf X ((hI.row.slice Zo n (Yab _) n (Yab _)).ext hX) Zo hlo hhi;have hm2:=λ(X:World) (hX:Ext wr X)=>Zbo s pr r cr h X ((ho.sl Zo).ext hX) Zo d3.lo d3.hi;rw[hq,hs1.out]at hm1;rw[hv,hR,hs2.out]at hm2;have b1:=hI.b1;have cb1:=b1.cell;have lb1:=b1.lt;have fb1:=b1.frozen;clear hx1 hx2 hP;go_wp2_with fail
   refine wp_region_held_drew (S:=λw'=>(∀i,w'.cell? ⟨w.heap.size,i,none⟩=(#[.bool s,.slice p n c1]:Array Value)[i]?)∧(∀i,w'.cell? ⟨w.heap.size+1,i,none⟩=(#[.bool t,.slice q (m+1) c2]:Array Value)[i]?)∧Below w.heap.size w w') Zx ⟨cb0,cb1,hI.below.drew⟩ (λhHeld=>?_);have hx0:Ext wr wr.drew:=(Ext.refl _).drew;have hI0:QInv w wr.drew 49 (w.heap.size+1+1+1+1) n qf #[.bool s,.slice p n c1] #[.bool t,.slice q (m+1) c2]:=hI.of_below (Yae _ _).drew;have hsz0:w.heap.size+1+1+1+1+1<=wr.drew.heap.size:=hsz;generalize wr.drew=X0 at *;refine tk 0 (some 42) ?_;refine tk 1 (some 43) ?_;refine tk 2 (some 44) ?_;refine tk 3 (some 45) ?_;refine tk 4 (some 46) ?_;refine tk 5 (some 47) ?_;refine tk 7 (some 49) ?_;refine tk 8 (some 50) ?_;refine tk 9 (some 51) ?_;refine Mono.stc 6 (some 48) (hm1 X0 hx0) (λe X1 hR=>?_);obtain⟨v1,rfl,ho1,hd1,g1,hb4⟩:=hR;refine⟨(⟨(hI0.b0.below hb4).cell,(hI0.b1.below hb4).cell,Zaa hHeld.2.2 hb4⟩),λhHeld=>Mono.pt ?_⟩;have hI1:=hI0.of_below (hb4.mono Zo);refine Mono.stc 10 (some 52) (hm2 X1 (hx0.below hb4)) (λe X2 hR=>?_);obtain⟨v2,rfl,ho2,hd2,g2,hb5⟩:=hR;refine⟨(⟨(hI1.b0.below hb5).cell,(hI1.b1.below hb5).cell,Zaa hHeld.2.2 hb5⟩),λhHeld=>Mono.pt ?_⟩;have hsz1:=hb4.size;have hI2:=hI1.of_below (hb5.mono Zo);obtain⟨p1,c1',rfl⟩:=ho1.shape;obtain⟨p2,c2',rfl⟩:=ho2.shape;have l1:=ho1.sl (by have:=Za3 qf n;omega);have l2:=ho2.sl (by have:=Za3 h r;omega);have l1':=l1.ext (.of_below hb5);have b2:=hI2.b2;have b3:=hI2.b3;have hBb:=hI2.below;clear hm1 hm2 hx0 hI0 hI1 hI hb4 hb5 ho1 ho2 l1 b0 b1 cb0 cb1 lb0 lb1 fb0 fb1 ho;refine Zb6 (w.heap.size+1+1) 49 11 rfl rfl rfl rfl 0 #[.bool s1,.slice p1 (trimN qf n) c1'] #[.bool false,.slice none 0 0] #[.bool s1,.slice p1 (trimN qf n) c1'] Zx (λX i u h=>⟨Zde h.1 Zo,Zde h.2.1 Zo,Zag h.2.2 Zo _ _⟩) Zx Zx b2 hHeld Zae (Yaa rfl) (Zal _ _ _ _) (Zaf rfl) (λY1 hk1 r2 hHeld=>?_);have b3':=hk1.box b3 b3.lt Zo;refine Zb6 (w.heap.size+1+1+1) 49 12 rfl rfl rfl rfl 0 #[.bool s2,.slice p2 (trimN h r) c2'] #[.bool false,.slice none 0 0] #[.bool s2,.slice p2 (trimN h r) c2'] Zx (λX i u h=>⟨Zde h.1 Zo,Zde h.2.1 Zo,Zag h.2.2 Zo _ _⟩) Zx Zx b3' hHeld Zae (Yaa rfl) (Zal _ _ _ _) (Zaf rfl) (λY2 hk2 r3 hHeld=>?_);have r2':=hk2.box r2 r2.lt Zo;have e1:=hk1.ext b2 Zd;have e2:=hk2.ext b3' Zd;have hBe:=hHeld.2.2;refine wpAnyH_done Zx ?_ _;clear hHeld hk1 hk2 b2 b3 b3' r2 hI2;go_wp2
   refine bodyPost_ret (r2'.results2s r3 rfl _ _ _ rfl rfl Tryz.underlying49 rfl Zae Tryz.underlying49 rfl Zae) rfl ?_;exact⟨p1,_,c1',qf,p2,_,c2',rfl,(l1'.ext e1).ext e2,hd1,g1,Za3 qf n,h,(l2.ext e1).ext e2,hd2,g2,by have:=Za3 h r;omega,hBe⟩
theorem Zvi (z:Int) (w:World) (h1 : -9223372036854775808<=z) (h2:z<=9223372036854775807) :
  Calls Tryz.prog 105 #[.int .i64 z] w λe w'=>∃p k c,e=.returned (.agg #[.bool (decide (z<0)),.slice p k c])∧Sz 600 w' (.slice p k c) z.natAbs∧Below w.heap.size w w':=by
 go_enter Tryz.func105,Tryz.ntmps105
 go_wp2_with fail
 refine Zd3 λW hB hs b0 b1=>?_;go_loopw [0] (λa wr=>∃(k:Nat) (f:Nat->Int) (r:Int) (v:Value),a=.int .i64 r∧OwnF wr (w.heap.size+1+1) v k f∧Box wr (w.heap.size+1) 49 #[.bool (decide (z<0)),v]∧Box wr w.heap.size 49 #[.bool false,.slice none 0 0]∧OfInv z r k f∧Below w.heap.size w wr∧w.heap.size+1+1<=wr.heap.size) (λa _=>(intOf a).natAbs)
 case atStart=>exact⟨0,_,z,_,rfl,OwnF.nil _ _ _,b1,b0,OfInv.start z,hB,hs⟩
 case round=>
  clear b0 b1 hB hs;obtain⟨k,f,r,v,rfl,ho,b1,b0,hI,hB,hs⟩:=hrel;have hr:=hI.bound h1 h2;obtain⟨p,c,rfl⟩:=ho.shape;by_cases h0:r=0
  ·subst h0
   have cb0:=b0.cell;have lb0:=b0.lt;have fb0:=b0.frozen;have cb1:=b1.cell;have lb1:=b1.lt;have fb1:=b1.frozen;go_wp2
   have b3':=((b0.set 0 (.bool (decide (z<0)))).set 1 (.slice p k c)).cell;have hk3:k<=600:=by
    have hv:=hI.val;have hd:Digs f k:=⟨hI.lo,hI.hi,hI.top rfl⟩
    by_cases h:k<=3
    ·omega
    ·have:=hd.ge Zo
     have h3:=Zbs (i:=3) (k:=k-1) Zo;have e3:pw 3=1000000000000000000000000000:=Zd;simp at hv;omega
   have hd:Digs f k:=⟨hI.lo,hI.hi,hI.top rfl⟩
   refine bodyPost_ret (v:=.agg #[.bool (decide (z<0)),.slice p k c]) (by simp[results,Tryz.results105,go_sem,b3']) rfl ⟨_,_,_,rfl,⟨k,f,?_,hd,?_,hk3⟩,?_⟩
   ·exact((ho.set _ _ (by show w.heap.size<_;omega)).set _ _ (by show w.heap.size<_;omega)).sl Zo
   ·have:=hI.val;simpa using this
   ·exact Zag (Zag hB Zo _ _) Zo _ _
  ·have hk:=hI.small h1 h2 h0
   have hst:=hI.step h0;have h0':(r != 0)=true:=by simpa using h0
   have hmm:(r.tmod 1000000000).natAbs<1000000000:=by rw[Ydy];exact Nat.mod_lt _ Zd
   have hm1 : -1000000000<r.tmod 1000000000:=Zo;have hm2:r.tmod 1000000000<1000000000:=Zo;have hdd:(r.tdiv 1000000000).natAbs=r.natAbs/1000000000:=by rw[Yfg];rfl
   have hw:wrap64 (r.tdiv 1000000000)=r.tdiv 1000000000:=by unfold wrap64;omega
   have cb0:=b0.cell;have lb0:=b0.lt;have fb0:=b0.frozen;have cb1:=b1.cell;have lb1:=b1.lt;have fb1:=b1.frozen;replace h0:=Yah h0;go_wp2_with (at_builtin;(refine Za9 _ rfl _ _ 47 rfl Tryz.underlying47 Zby (w.heap.size+1+1) (.slice p k c) k f rfl ?_ (some ⟨wr.heap.size,0,none⟩) 1 1 (λ_=>((r.tmod 1000000000).natAbs:Int)) rfl ?_ ?_ ?_ ?_);(exact(ho.below ((Yae _ _).alloc (Yab _) _)));(exact(Zir wr _ _ (by first|omega|(split<;>omega))));omega;(simp;omega);(intro v' w1 ho' hg);(obtain⟨p',c',rfl⟩:=ho'.shape);(have hz:=((Yae (w.heap.size+1+1) wr).alloc hs _).grown hg (by simp;omega) (λk hk=>ho.low k hk));(replace b0:=b0.low hz Zo);(replace b1:=b1.low hz Zo);(clear cb0 lb0 fb0 cb1 lb1 fb1);(have cb0:=b0.cell);(have cb1:=b1.cell);(have fb1:=b1.frozen);(have lb1:=b1.lt))
   all_goals
    go_roundw
    case rel=>
     refine⟨k+1,_,r.tdiv 1000000000,.slice p' (k+1) c',Zs,ho'.set ⟨w.heap.size+1,1,none⟩ _ (by show w.heap.size+1<_;omega),b1.set 1 _,b0.other _ _ (by show w.heap.size≠w.heap.size+1;omega),hst,?_,?_⟩
     ·exact Zag (hB.trans (hz.mono Zo)) Zo _ _
     ·have:=hz.size
      simp only[World.size_setCell];omega
    case measure=>
     have:=h0.out;first
      | (show(r.tdiv 1000000000).natAbs<r.natAbs;rw[hdd];exact Nat.div_lt_self Zo Zd)
      | fail "measure"
end Go.Proofs.W
namespace Go.Mono
open Go.RowKit
theorem LgV.unique {m m':Nat} {w:World} {v:Value} {z z':Int} (h:LgV m w v z) (h':LgV m' w v z'):z=z':=by
 obtain⟨p,n,c,f,rfl,s1,d1,e1,_⟩:=h;obtain⟨p',n',c',f',hv,s2,d2,e2,_⟩:=h';simp only[Value.agg.injEq,Array.mk.injEq,List.cons.injEq,Value.bool.injEq,Ydm,and_true]at hv;obtain⟨hs,rfl,rfl,rfl⟩:=hv;have hf:∀i,i<n->f i=f' i:=λi hi=>by
  obtain⟨_,_,x1⟩:=s1.opens;obtain⟨_,_,x2⟩:=s2.opens;obtain⟨b,off,hp,_,g1⟩:=x1 Zo;obtain⟨b',off',hp',_,g2⟩:=x2 Zo;rw[hp]at hp';simp only[Ybp,Addr.mk.injEq]at hp';obtain⟨rfl,rfl,_⟩:=hp';have:=g1 i hi;rw[g2 i hi]at this;simpa using this.symm
 have e:=Zbi hf;have h3:(z<0↔z'<0):=by simpa using hs
 omega
def IsVal (w:World) (B:Nat) (T:TypeId) (k:Nat):Prop:=∃C z m,Box w B T C∧LgV m w (.agg C) z∧z.natAbs=k
noncomputable def valAt (w:World) (B:Nat) (T:TypeId):Nat:=Classical.epsilon (IsVal w B T)
theorem Zgi {w:World} {B:Nat} {T:TypeId} {C:Array Value} {z:Int} {m:Nat} (hb:Box w B T C) (h:LgV m w (.agg C) z):valAt w B T=z.natAbs:=by
 obtain⟨C',z',m',hb',h',e⟩:=Classical.epsilon_spec (p:=IsVal w B T) ⟨z.natAbs,C,z,m,hb,h,rfl⟩;have hc:C'=C:=by
  have:=hb.blk.symm.trans hb'.blk;simp at this;exact this.symm
 subst hc;have:=h.unique h';subst this;exact e.symm
end Go.Mono
namespace Go.Proofs.W
open Go.RowKit Go.Mono
theorem Zcq {m1 m2:Nat} {v1 v2:Value} {z y:Int} (w:World) (h1:LgV m1 w v1 z) (h2:LgV m2 w v2 y) (hy:y≠0) (hm1:m1<=100000) (hm2:m2<=100000) :
  Calls Tryz.prog 175 #[v1,v2] w λe w'=>∃q r,e=.returned (.tuple #[q,r])∧LgV m1 w' q (z.tdiv y)∧LgV m2 w' r (z.tmod y)∧Below w.heap.size w w':=by
 obtain⟨p,n,c,f,rfl,s1,d1,e1,l1⟩:=h1;obtain⟨q,m,c',g,rfl,s2,d2,e2,l2⟩:=h2;have hm0:0<m:=d2.pos.1 Zo;obtain⟨m,rfl⟩:∃k,m=k+1:=⟨m-1,Zo⟩
 obtain⟨t1,t2,t3,t4⟩:=Zpa z y hy;refine(Zhw _ _ p q n m c c' f g w s1 s2 d1 d2 Zo Zo).mono ?_;rintro e w' ⟨p1,k1,c1,h1,p2,k2,c2,h2,rfl,hs1,hd1,hv1,hk1,hs2,hd2,hv2,hk2,hb⟩;rw[e1,e2]at hv1 hv2 ⊢;rw[t1]at hv1 ⊢;rw[t2]at hv2 ⊢;rw[t3,t4];exact⟨_,_,rfl,⟨p1,k1,c1,h1,rfl,hs1,hd1,hv1,Zo⟩,⟨p2,k2,c2,h2,rfl,hs2,hd2,hv2,Zo⟩,hb⟩
theorem Zg6 {m:Nat} {v1 v2:Value} {z y:Int} (w:World) (h1:LgV m w v1 z) (h2:LgV m w v2 y) (hm:m<=100000) :
  Calls Tryz.prog 172 #[v1,v2] w λe w'=>∃v,e=.returned v∧LgV m w' v (Int.gcd z y)∧Below w.heap.size w w':=by
 obtain⟨A0,rfl,hA0,hA0o⟩:=h1.cells;obtain⟨A1,rfl,hA1,hA1o⟩:=h2.cells;obtain⟨gz,hgz⟩:∃k,Int.gcd z y=k:=⟨_,rfl⟩
 rw[hgz];go_enter Tryz.func172,Tryz.ntmps172
 go_wp2_with fail
 refine Zfv λW hB hs b0 b1 b2=>?_;go_loopw [5,6] (λu v wr=>∃(A B:Array Value) (a b:Int),Box wr w.heap.size 49 A∧Box wr (w.heap.size+1) 49 B∧LgV m wr (.agg A) a∧LgV m wr (.agg B) b∧Int.gcd a b=gz∧Box wr (w.heap.size+1+1) 49 #[.bool false,.slice none 0 0]∧Below w.heap.size w wr∧w.heap.size+1+1+1<=wr.heap.size) (λ_ _ wr=>valAt wr (w.heap.size+1) 49)
 case atStart=>exact⟨A0,A1,z,y,b0,b1,h1.below hB,h2.below hB,hgz,b2,hB,hs⟩
 case round=>
  clear b0 b1 b2 hB hs h1 h2 hgz;obtain⟨A,B,a,b,b0,b1,ha,hb,hg,b2,hB,hsz⟩:=hrel;by_cases hb0:b=0
  ·subst hb0
   obtain⟨pz,cz,hBv⟩:=hb.zero;cases hBv;have hga:(Int.natAbs a)=gz:=by rw[<-hg];simp
   obtain⟨p,n,c,f,hAv,s1,d1,e1,l1⟩:=ha;cases hAv;generalize decide (a<0)=sa at *;have hmade:=λ(X:World) (hX:Ext wr X)=>Zbo false p n c f X (s1.ext hX) Zo d1.lo d1.hi;have cb0:=b0.cell;have lb0:=b0.lt;have fb0:=b0.frozen;have cb1:=b1.cell;have lb1:=b1.lt;have fb1:=b1.frozen;go_wp2_with fail
   refine(hmade wr (Ext.refl _)).mono ?_;rintro e W2 ⟨v',rfl,ho2,d3,e3,hbb⟩;replace b2:=b2.below hbb;have hB1:=Zaa hB hbb;obtain⟨p',c',rfl⟩:=ho2.shape;have hlg:LgV m W2 (.agg #[.bool false,.slice p' (trimN f n) c']) (gz:Int):=⟨p',_,c',f,by rw[decide_eq_false Zo],ho2.sl (by have:=Za3 f n;omega),d3,by rw[e3,e1,hga];rfl,by have:=Za3 f n;omega⟩
   rw[Bool.false_and];clear hmade ho2 b0 b1 cb0 cb1 fb0 fb1 lb0 lb1 hB hb;go_wp2_with first|(refine Zab rfl 49 _ _ rfl (w.heap.size+1+1) 0 49 _ #[.bool false,.slice p' (trimN f n) c'] #[.bool false,.slice p' (trimN f n) c'] rfl rfl b2 Zae (Yaa rfl) (Zal _ _ _ _) (Zaf rfl) ?_;intro W3 hk b4)
   have hb2:=hk.below hB1 Zo hB1.size;exact bodyPost_ret (b4.results rfl _ _ rfl Tryz.underlying49 rfl Zae) rfl ⟨_,rfl,hlg.ext (hk.ext b2 Zd),hb2⟩
  ·have hval:=Zgi b1 hb
   have hpt:=λ(X:World) (hX:Ext wr X)=>Zcq X (ha.ext hX) (hb.ext hX) hb0 hm hm;have hg2:Int.gcd b (a.tmod b)=gz:=by
    rw[<-hg];unfold Int.gcd;rw[Ydy,Nat.gcd_comm a.natAbs b.natAbs,Nat.gcd_comm b.natAbs (a.natAbs%b.natAbs)];exact(Nat.gcd_rec b.natAbs a.natAbs).symm
   have hlt:(a.tmod b).natAbs<b.natAbs:=by
    rw[Ydy];exact Nat.mod_lt _ Zo
   obtain⟨q,n,c,hBv,hn0⟩:=hb.nz hb0;have hn':(0:Int)<n:=Zo;cases hBv;obtain⟨sa,pa,na,ca,hAv⟩:=ha.parts;cases hAv;generalize decide (b<0)=sb at *;have cb0:=b0.cell;have lb0:=b0.lt;have fb0:=b0.frozen;have cb1:=b1.cell;have lb1:=b1.lt;have fb1:=b1.frozen;go_wp2_with fail
   refine(hpt wr (Ext.refl _)).mono ?_;rintro e W2 ⟨vq,vr,rfl,hq,hr,hbb⟩;obtain⟨sq,pq,nq,cq,rfl⟩:=hq.parts;obtain⟨sr,pr,nr,cr,rfl⟩:=hr.parts;have hsz2:=hbb.size;replace b0:=b0.below hbb;replace b1:=b1.below hbb;replace b2:=b2.below hbb;replace hb:=hb.below hbb;have hB2:=Zaa hB hbb;clear hpt ha hq cb0 lb0 fb0 cb1 lb1 fb1 hB hbb hg;go_wp2_with fail
   have h2n:=(Yae W2.heap.size W2).alloc (Yab _) (.cells #[.bool sq,.slice pq nq cq] 49);have b6:=Box.new (W2.alloc (.cells #[.bool sq,.slice pq nq cq] 49)) 49 #[.bool sr,.slice pr nr cr];rw[Yav]at b6;have hbn:Below W2.heap.size W2 ((W2.alloc (.cells #[.bool sq,.slice pq nq cq] 49)).alloc (.cells #[.bool sr,.slice pr nr cr] 49)):=Zad (Zad (Yae _ _) _) _;replace b0:=b0.below hbn;replace b1:=b1.below hbn;replace b2:=b2.below hbn;replace hb:=hb.below hbn;replace hr:=hr.below hbn;replace hB2:=Zaa hB2 hbn;have hs3:=hbn.size;generalize (W2.alloc (.cells #[.bool sq,.slice pq nq cq] 49)).alloc (.cells #[.bool sr,.slice pr nr cr] 49)=V at *;refine wp_region_held_drew (S:=λw'=>Box w' (W2.heap.size+1) 49 #[.bool sr,.slice pr nr cr]∧Below w.heap.size w w') Zx ⟨b6.drew,hB2.drew⟩ (λhHeld=>?_);have c0:=b0.drew;have c1:=b1.drew;have c2:=b2.drew;have hbX:LgV m V.drew (.agg #[.bool sb,.slice q n c]) b:=hb.ext (Ext.refl _).drew;have hrX:LgV m V.drew (.agg #[.bool sr,.slice pr nr cr]) (a.tmod b):=hr.ext (Ext.refl _).drew;have hsX:w.heap.size+1+1+1<=V.drew.heap.size:=by show _<=V.heap.size;omega
   clear b0 b1 b2 hb hr b6 hbn h2n hB2;generalize V.drew=X0 at *;refine tl 1 (some 18) rfl (.agg #[.bool sr,.slice pr nr cr]) (Zai 49 _ rfl (W2.heap.size+1) 0 rfl #[.bool sr,.slice pr nr cr] (λw h=>h.1.range) _ Tryz.underlying49 rfl Zae) ?_;refine Mono.sta 0 (some 17) (.agg #[.bool sb,.slice q n c]) X0 hHeld (λhHeld=>Mono.pt ?_) rfl rfl Zx Zx (Zai (S:=λw=>w=X0) 49 _ rfl (w.heap.size+1) 0 Zx #[.bool sb,.slice q n c] (λw hS=>by subst hS;exact c1.range) _ Tryz.underlying49 rfl Zae X0 rfl);refine Zb6 w.heap.size 49 2 rfl rfl rfl rfl 0 #[.bool sb,.slice q n c] #[.bool sa,.slice pa na ca] #[.bool sb,.slice q n c] Zx (λX i u h=>⟨h.1.other _ _ (by show W2.heap.size+1≠w.heap.size;omega),Zag h.2 Zo _ _⟩) Zx Zx c0 hHeld Zae (Yaa rfl) (Zal _ _ _ _) (Zaf rfl) (λY1 hk1 r0 hHeld=>?_);have d1:=hk1.box c1 c1.lt Zo;have d2:=hk1.box c2 c2.lt Zo;have e1:=hk1.ext c0 Zd;refine Zb6 (w.heap.size+1) 49 3 rfl rfl rfl rfl 0 #[.bool sr,.slice pr nr cr] #[.bool sb,.slice q n c] #[.bool sr,.slice pr nr cr] Zx (λX i u h=>⟨h.1.other _ _ (by show W2.heap.size+1≠w.heap.size+1;omega),Zag h.2 Zo _ _⟩) Zx Zx d1 hHeld Zae (Yaa rfl) (Zal _ _ _ _) (Zaf rfl) (λY2 hk2 r1 hHeld=>?_);have r0':=hk2.box r0 r0.lt Zo;have d2':=hk2.box d2 d2.lt Zo;have e2:=hk2.ext d1 Zd;have hbY:=(hbX.ext e1).ext e2;have hrY:=(hrX.ext e1).ext e2;have hBY:=hHeld.2;have hsY:w.heap.size+1+1+1<=Y2.heap.size:=by have:=hk1.size;have:=hk2.size;omega
   have hvn:=Zgi r1 hrY;replace hval:=Yah hval;refine wpAnyH_done Zx ?_ _;clear hHeld hk1 hk2 r0 c0 c1 c2 d1 d2 e1 e2 hbX hrX;go_wp2
   go_roundw
   case rel=>exact⟨_,_,b,a.tmod b,r0',r1,hbY,hrY,hg2,d2',hBY,hsY⟩
   case measure=>rw[hvn,hval.out];exact hlt
end Go.Proofs.W
namespace Go.Mono
open Go.RowKit
theorem Zoj (a b:Int) (hb:b≠0) :
  Sg (decide (a<0) != decide (b<0)) (Rat.divInt a b).num∧((Rat.divInt a b).num.natAbs:Int)=(a.natAbs:Int)/gcdZ a.natAbs b.natAbs∧((Rat.divInt a b).den:Int)=(b.natAbs:Int)/gcdZ a.natAbs b.natAbs:=by
 have hg:gcdZ a.natAbs b.natAbs=((b.gcd a:Nat):Int):=by
  simp only[gcdZ,Ycb,Int.gcd];rw[Nat.gcd_comm]
 have hg0:0<b.gcd a:=Int.gcd_pos_of_ne_zero_left _ hb;have hs:(b.sign*a).natAbs=a.natAbs:=by
  rw[Yde,Int.natAbs_sign_of_ne_zero hb,Nat.one_mul]
 refine⟨?_,?_,?_⟩
 ·rw[Rat.num_divInt]
  refine Sg.div ?_ Zo;rcases Yge hb with h|h
  ·rw[Yep h]
   constructor<;>intro hh<;>simp[h]at hh<;>omega
  ·rw[Yeg h]
   constructor<;>intro hh<;>simp[show ¬b<0 by omega]at hh<;>omega
 ·rw[Rat.num_divInt,hg]
  have hd:b.gcd a ∣ (b.sign*a).natAbs:=by
   rw[hs];exact Nat.gcd_dvd_right _ _
  rw[Zdv hd,hs]
 ·rw[Rat.den_divInt,if_neg hb,hg]
  simp
end Go.Mono
namespace Go.Proofs.W
open Go.RowKit Go.Mono
theorem Zcr {v:Value} {z:Int} (w:World) (h:LgV 600 w v z) :
  Calls Tryz.prog 164 #[v] w λe w'=>e=.returned (.bool true)∧Below w.heap.size w w':=by
 obtain⟨p,n,c,f,rfl,s1,d1,e1,l1⟩:=h;obtain⟨hc1,hn1,hx1⟩:=s1.opens;by_cases hn:n=0
 ·subst hn
  have hz:decide (z<0)=false:=decide_eq_false (by simp[vf]at e1;omega);rw[hz];clear hx1;go_enter Tryz.func164,Tryz.ntmps164
  go_wp2
  go_ret
  exact⟨rfl,Zad (Yae _ _) _⟩
 ·have hn':((n:Int)==0)=false:=by simp;omega
  generalize decide (z<0)=s at *;go_enter Tryz.func164,Tryz.ntmps164
  go_wp2
  refine Zb1 λW hB hs b0=>?_;go_loopw [3] (λa wr=>∃i:Nat,i<=n∧a=.int .i64 (i:Int)∧wr=W) (λa _=>(n-intOf a).toNat)
  case atStart=>exact⟨0,Yat _,rfl,rfl⟩
  case round=>
   obtain⟨i,hi,rfl,hWe⟩:=hrel;obtain rfl:W=wr:=hWe.symm;have cb0:=b0.cell;have lb0:=b0.lt;have fb0:=b0.frozen;by_cases hin:i<n
   ·obtain⟨b,off,rfl,hb,hcell⟩:=hx1 Zo
    have a1:=(hB.cell (p:=⟨b,off+i,none⟩) hb).trans (hcell i hin);have hin':(i:Int)<n:=Zo;have f0:=d1.lo i hin;have f9:=d1.hi i hin;generalize f i=x at *;clear hcell hx1;go_wp2
    go_roundw
    case rel=>exact⟨i+1,Zo,Zs,trivial⟩
    case measure=>simp[intOf];omega
   ·obtain rfl:i=n:=by omega
    have hip:0<i:=Yck hn;clear e1;obtain⟨b,off,rfl,hb,hcell⟩:=hx1 hip;have a1:=(hB.cell (p:=⟨b,off+(i-1),none⟩) hb).trans (hcell (i-1) Zo);have ht:=d1.top Zo;obtain⟨k,rfl⟩:∃k,i=k+1:=⟨i-1,Zo⟩
    simp only[Ybf]at a1 ht;have ht2:(f k != 0)=true:=by simpa using ht
    generalize f k=x at *;have hk6:(k:Int)+1<=600:=Zo;clear hcell hx1;go_wp2
    go_ret
    exact⟨rfl,hB⟩
end Go.Proofs.W
namespace Go.Mono
theorem Zd7 (a b:Int) (hb:b≠0):(Rat.divInt a b).num.natAbs<=a.natAbs∧(Rat.divInt a b).den<=b.natAbs:=by
 constructor
 ·rw[Rat.num_divInt]
  have h1:(b.sign*a/(b.gcd a:Int)).natAbs<=(b.sign*a).natAbs:=Int.natAbs_ediv_le_natAbs _ _;have h2:(b.sign*a).natAbs=a.natAbs:=by rw[Yde,Int.natAbs_sign_of_ne_zero hb,Nat.one_mul]
  omega
 ·rw[Rat.den_divInt,if_neg hb]
  exact Nat.div_le_self _ _
def Ov (N D:Nat) (x:Rat):Prop:=0<D∧∃z:Int,x=Rat.divInt z D∧z.natAbs<=N
theorem Ov.mul {N D N' D':Nat} {x y:Rat} (h:Ov N D x) (g:Ov N' D' y):Ov (N*N') (D*D') (x*y):=by
 obtain⟨h0,z,rfl,hz⟩:=h;obtain⟨g0,z',rfl,gz⟩:=g;refine⟨Nat.mul_pos h0 g0,z*z',?_,?_⟩
 ·rw[Rat.divInt_mul_divInt,Ycw]
 ·rw[Yde]
  exact Ybv hz gz
theorem Ov.add {N D N' D':Nat} {x y:Rat} (h:Ov N D x) (g:Ov N' D' y):Ov (N*D'+N'*D) (D*D') (x+y):=by
 obtain⟨h0,z,rfl,hz⟩:=h;obtain⟨g0,z',rfl,gz⟩:=g;refine⟨Nat.mul_pos h0 g0,z*D'+z'*D,?_,?_⟩
 ·rw[Rat.divInt_add_divInt _ _ Zo Zo,Ycw]
 ·refine Yak (Int.natAbs_add_le _ _) ?_
  rw[Yde,Yde,Int.natAbs_natCast,Int.natAbs_natCast];exact Nat.add_le_add (Ybd _ hz) (Ybd _ gz)
theorem Ov.neg {N D:Nat} {x:Rat} (h:Ov N D x):Ov N D (-x):=by
 obtain⟨h0,z,rfl,hz⟩:=h;exact⟨h0,-z,Rat.neg_divInt _ _,by simpa using hz⟩
theorem Ov.sub {N D N' D':Nat} {x y:Rat} (h:Ov N D x) (g:Ov N' D' y):Ov (N*D'+N'*D) (D*D') (x-y):=by
 rw[Ygd];exact h.add g.neg
theorem Zly (a b:Int) (D:Nat) (h:0<D):Rat.divInt a D+Rat.divInt b D=Rat.divInt (a+b) D:=by
 rw[Rat.divInt_add_divInt _ _ Zo Zo,<-Yel,Rat.divInt_mul_right Zo]
theorem Ov.add_same {N D N':Nat} {x y:Rat} (h:Ov N D x) (g:Ov N' D y):Ov (N+N') D (x+y):=by
 obtain⟨h0,z,rfl,hz⟩:=h;obtain⟨g0,z',rfl,gz⟩:=g;refine⟨h0,z+z',Zly _ _ _ h0,?_⟩;have:=Int.natAbs_add_le z z';omega
theorem Ov.sub_same {N D N':Nat} {x y:Rat} (h:Ov N D x) (g:Ov N' D y):Ov (N+N') D (x-y):=by
 rw[Ygd];exact h.add_same g.neg
theorem Ov.mono {N M D:Nat} {x:Rat} (h:Ov N D x) (hN:N<=M):Ov M D x:=by
 obtain⟨h0,z,rfl,hz⟩:=h;exact⟨h0,z,rfl,Yak hz hN⟩
theorem Ov.scale {N D:Nat} {x:Rat} (h:Ov N D x) (k:Nat) (hk:0<k):Ov (N*k) (D*k) x:=by
 obtain⟨h0,z,rfl,hz⟩:=h;refine⟨Nat.mul_pos h0 hk,z*k,?_,?_⟩
 ·rw[Ycw,Rat.divInt_mul_right Zo]
 ·rw[Yde,Int.natAbs_natCast]
  exact Ybd _ hz
theorem Ov.of (z:Int) (d:Nat) (hd:0<d) (N:Nat) (h:z.natAbs<=N):Ov N d (Rat.divInt z d):=⟨hd,z,rfl,h⟩
theorem Ov.self (x:Rat):Ov x.num.natAbs x.den x:=⟨x.den_pos,x.num,(Yds x).symm,Yab _⟩
theorem Ov.num_le {N D:Nat} {x:Rat} (h:Ov N D x):x.num.natAbs<=N∧x.den<=D:=by
 obtain⟨h0,z,rfl,hz⟩:=h;have:=Zd7 z D Zo;exact⟨Yak this.1 hz,by simpa using this.2⟩
def Hs (k:Nat) (x:Rat):Prop:=x.num.natAbs<=10 ^ k∧x.den<=10 ^ k
theorem Hs.mono {k l:Nat} {x:Rat} (h:Hs k x) (hl:k<=l):Hs l x:=by
 have:=Nat.pow_le_pow_right (n:=10) Zo hl;exact⟨Yak h.1 this,Yak h.2 this⟩
theorem Hs.of_ov {N D k:Nat} {x:Rat} (h:Ov N D x) (hN:N<=10 ^ k) (hD:D<=10 ^ k):Hs k x:=
 ⟨Yak h.num_le.1 hN,Yak h.num_le.2 hD⟩
theorem Hs.ov {k:Nat} {x:Rat} (h:Hs k x):Ov (10 ^ k) x.den x:=(Ov.self x).mono h.1
theorem Hs.mul {k l:Nat} {x y:Rat} (h:Hs k x) (g:Hs l y):Hs (k+l) (x*y):=by
 refine Hs.of_ov ((Ov.self x).mul (Ov.self y)) ?_ ?_
 ·rw[Ydn];exact Ybv h.1 g.1
 ·rw[Ydn];exact Ybv h.2 g.2
theorem Hs.add {k l:Nat} {x y:Rat} (h:Hs k x) (g:Hs l y):Hs (k+l+1) (x+y):=by
 refine Hs.of_ov ((Ov.self x).add (Ov.self y)) ?_ ?_
 ·have e1:=Ybv h.1 g.2
  have e2:=Ybv g.1 h.2;rw[Nat.pow_succ,Ydn];rw[Ycu (10 ^ l)]at e2;omega
 ·have:=Ybv h.2 g.2
  rw[Nat.pow_succ,Ydn];omega
theorem Hs.neg {k:Nat} {x:Rat} (h:Hs k x):Hs k (-x):=by
 refine⟨?_,h.2⟩;rw[Rat.neg_num,Int.natAbs_neg];exact h.1
theorem Hs.sub {k l:Nat} {x y:Rat} (h:Hs k x) (g:Hs l y):Hs (k+l+1) (x-y):=by
 rw[Ygd];exact h.add g.neg
theorem Hs.inv {k:Nat} {x:Rat} (h:Hs k x):Hs k x⁻¹:=by
 by_cases h0:x.num=0
 ·obtain rfl:x=0:=Rat.num_eq_zero.1 h0
  rw[Rat.inv_zero];exact h
 ·have e:x⁻¹=Rat.divInt x.den x.num:=by
   rw[<-Rat.inv_divInt,Yds]
  have:=Zd7 x.den x.num h0;rw[<-e]at this;exact⟨Yak this.1 (by simpa using h.2),Yak this.2 h.1⟩
theorem Hs.div {k l:Nat} {x y:Rat} (h:Hs k x) (g:Hs l y):Hs (k+l) (x/y):=by
 rw[Yew];exact h.mul g.inv
theorem Hs.divInt {k:Nat} (a b:Int) (hb:b≠0) (h1:a.natAbs<=10 ^ k) (h2:b.natAbs<=10 ^ k):Hs k (Rat.divInt a b):=by
 have:=Zd7 a b hb;exact⟨Yak this.1 h1,Yak this.2 h2⟩
end Go.Mono
namespace Go.Proofs.W
open Go.RowKit Go.Mono
theorem Zwe (a b:Int) (h0:b≠0) (p q:Option Addr) (k c l d:Nat) (w wf:World) (hx:Ext wf w) (x:Sz 600 wf (.slice p k c) a.natAbs) (y:Sz 600 wf (.slice q l d) b.natAbs) :
  Calls Tryz.prog 104 #[.agg #[.bool (decide (a<0)),.slice p k c],.agg #[.bool (decide (b<0)),.slice q l d]] w λe w'=>∃r,e=.returned (.tuple #[r,.int .i64 0])∧QV w' r (Rat.divInt a b)∧Below w.heap.size w w':=by
 replace x:=x.ext hx;replace y:=y.ext hx;clear hx;obtain⟨g1,g2,g3⟩:=Zoj a b h0;have hi0:∀w:World,(Instr.index 220 (.agg #[.bool (decide (a<0)),.slice p k c,.bool (decide (b<0)),.slice q l d]) (.int .i64 0)).run Tryz.prog w=.ok (.agg #[.bool (decide (a<0)),.slice p k c]) w:=λ_=>Zk;have hi1:∀w:World,(Instr.index 220 (.agg #[.bool (decide (a<0)),.slice p k c,.bool (decide (b<0)),.slice q l d]) (.int .i64 1)).run Tryz.prog w=.ok (.agg #[.bool (decide (b<0)),.slice q l d]) w:=λ_=>Zk;have hl:((l:Int)==0)=false:=by
  have:=y.len_pos.1 Zo;simp;omega
 have ha:decide (a<0)=true->(0:Int)<a.natAbs:=by intro h;simp at h;omega
 have hb':decide (b<0)=true->(0:Int)<b.natAbs:=by intro h;simp at h;omega
 go_enter Tryz.func104,Tryz.ntmps104
 go_wp2_with fail
 refine Zfv λW hB hs b0 b1 b2=>?_;replace x:=x.ext (.of_below hB);replace y:=y.ext (.of_below hB);go_loopw [12] (λa wr=>∃i:Nat,i<=2∧a=.int .i64 (i:Int)∧Below W.heap.size W wr) (λa _=>(2-intOf a).toNat)
 case atStart=>exact⟨0,Zo,rfl,Yae _ _⟩
 case round=>
  obtain⟨i,hi,rfl,hb⟩:=hrel;rcases(by omega:i=0∨i=1∨i=2) with rfl|rfl|rfl
  ·go_wp2_with (go_at_call 129;(with_reducible refine(Zc7 _ p k c _ _ W ((Ext.of_below hb).alloc _) x ha).mono ?_);rintro e W4 ⟨rfl,hb4⟩)
   go_roundw
   case rel=>exact⟨1,Zo,Zs,Zaa (Zad hb _) hb4⟩
   case measure=>simp[intOf]
  ·go_wp2_with (go_at_call 129;(with_reducible refine(Zc7 _ q l d _ _ W ((Ext.of_below hb).alloc _) y hb').mono ?_);rintro e W4 ⟨rfl,hb4⟩)
   go_roundw
   case rel=>exact⟨2,Zo,Zs,Zaa (Zad hb _) hb4⟩
   case measure=>simp[intOf]
  ·replace hB:=Zaa hB hb
   replace x:=x.ext (.of_below hb);replace y:=y.ext (.of_below hb);replace b0:=b0.below hb;try clear cb0 lb0 fb0
   have cb0:=b0.cell;have lb0:=b0.lt;have fb0:=b0.frozen;replace b1:=b1.below hb;try clear cb1 lb1 fb1
   have cb1:=b1.cell;have lb1:=b1.lt;have fb1:=b1.frozen;replace b2:=b2.below hb;try clear cb2 lb2 fb2
   have cb2:=b2.cell;have lb2:=b2.lt;have fb2:=b2.frozen;clear hi0 hi1 hi ha hb';go_wp2_with fail
   refine(Zfe _ p q k c l d 600 _ _ wr wr (Ext.refl _) x y Zo Zo).mono ?_;rintro e W1 ⟨p1,n1,c1,q1,l1,d1,rfl,z1,z2,hb1⟩;rw[<-g2]at z1;rw[<-g3]at z2;replace hB:=Zaa hB hb1;replace b2:=b2.below hb1;clear cb2 lb2 fb2;have cb2:=b2.cell;have lb2:=b2.lt;have fb2:=b2.frozen;go_wp2_with fail
   refine(Zlw 600 _ p1 q1 n1 c1 l1 d1 (Rat.divInt a b) _ W1 (Ext.refl _) g1 z1 z2 Zo).mono ?_;rintro e W2 ⟨p7,k7,c7,q7,l7,d7,rfl,z7,y7,hb7⟩;replace hB:=Zaa hB hb7;replace b2:=b2.below hb7;clear cb2 lb2 fb2;have cb2:=b2.cell;have lb2:=b2.lt;have fb2:=b2.frozen;go_wp2
   have b3':=((((b2.set 0 (.bool (decide ((Rat.divInt a b).num<0)))).set 1 (.slice p7 k7 c7)).set 2 (.bool false)).set 3 (.slice q7 l7 d7)).cell;have xE:Ext W2 _:=(((((Ext.refl W2).set b2 Zd 0 (.bool (decide ((Rat.divInt a b).num<0)))).set (b2.set 0 (.bool (decide ((Rat.divInt a b).num<0)))) Zd 1 (.slice p7 k7 c7))).set ((b2.set 0 (.bool (decide ((Rat.divInt a b).num<0)))).set 1 (.slice p7 k7 c7)) Zd 2 (.bool false)).set (((b2.set 0 (.bool (decide ((Rat.divInt a b).num<0)))).set 1 (.slice p7 k7 c7)).set 2 (.bool false)) Zd 3 (.slice q7 l7 d7);refine bodyPost_ret (v:=.tuple #[.agg #[.bool (decide ((Rat.divInt a b).num<0)),.slice p7 k7 c7,.bool false,.slice q7 l7 d7],.int .i64 0]) (by simp[results,Tryz.results104,go_sem,b3']) rfl ⟨_,rfl,⟨_,_,_,_,_,_,rfl,z7.ext xE,y7.ext xE⟩,?_⟩;exact Zag (Zag (Zag (Zag hB Zo _ _) Zo _ _) Zo _ _) Zo _ _
end Go.Proofs.W
