/- Contracts of package paraxial,and a verified evaluator. Part 13 of 28. No condition beside the row. -/
import Derived.Shelf.Abstract
import Derived.Test.YtfgmlkjibdegfaaGreatDoorA02
import Derived.Test.YtfgmlkjibdegfaaGreatDoorA05
import Derived.Test.YtfgmlkjibdegfaaGreatDoorA12
set_option linter.unusedVariables false
set_option linter.unusedSimpArgs false
set_option maxRecDepth 100000
set_option maxHeartbeats 4000000
namespace Go.Proofs.W
open Go.RowKit Go.Mono
theorem Zup (a b:Int) (h0:b≠0) (w:World) (a1 : -9223372036854775808<=a) (a2:a<=9223372036854775807) (b1 : -9223372036854775808<=b) (b2:b<=9223372036854775807) :
  Calls Tryz.prog 77 #[.int .i64 a,.int .i64 b] w λe w'=>∃r,e=.returned (.tuple #[r,.int .i64 0])∧QV w' r (Rat.divInt a b)∧Below w.heap.size w w':=by
 go_enter Tryz.func77,Tryz.ntmps77
 go_wp2_with fail
 refine Zbv λW hB hs bb=>?_;refine(Zuo a W a1 a2).mono ?_;rintro e W1 ⟨p,k,c,rfl,z1,hb1⟩;replace hB:=Zaa hB hb1;replace bb:=bb.below hb1;have cbb:=bb.cell;have lbb:=bb.lt;have fbb:=bb.frozen;go_wp2_with fail
 refine(Zuo b W1 b1 b2).mono ?_;rintro e W2 ⟨q,l,d,rfl,z2,hb2⟩;replace hB:=Zaa hB hb2;replace z1:=z1.ext (.of_below hb2);replace bb:=bb.below hb2;try clear cbb lbb fbb
 have cbb:=bb.cell;have lbb:=bb.lt;have fbb:=bb.frozen;go_wp2_with fail
 refine(Zvk a b h0 p q k c l d W2 W2 (Ext.refl _) z1 z2).mono ?_;rintro e W3 ⟨r,rfl,⟨p7,k7,c7,q7,l7,d7,rfl,z7,y7⟩,hb7⟩;replace hB:=Zaa hB hb7;replace z1:=z1.ext (.of_below hb7);replace bb:=bb.below hb7;try clear cbb lbb fbb
 have cbb:=bb.cell;have lbb:=bb.lt;have fbb:=bb.frozen;go_wp2
 have b3':=((((bb.set 0 (.bool (decide ((Rat.divInt a b).num<0)))).set 1 (.slice p7 k7 c7)).set 2 (.bool false)).set 3 (.slice q7 l7 d7)).cell;have xE:Ext W3 _:=(((((Ext.refl W3).set bb Zd 0 (.bool (decide ((Rat.divInt a b).num<0)))).set (bb.set 0 (.bool (decide ((Rat.divInt a b).num<0)))) Zd 1 (.slice p7 k7 c7))).set ((bb.set 0 (.bool (decide ((Rat.divInt a b).num<0)))).set 1 (.slice p7 k7 c7)) Zd 2 (.bool false)).set (((bb.set 0 (.bool (decide ((Rat.divInt a b).num<0)))).set 1 (.slice p7 k7 c7)).set 2 (.bool false)) Zd 3 (.slice q7 l7 d7);refine bodyPost_ret (v:=.tuple #[.agg #[.bool (decide ((Rat.divInt a b).num<0)),.slice p7 k7 c7,.bool false,.slice q7 l7 d7],.int .i64 0]) (by simp[results,Tryz.results77,go_sem,b3']) rfl ⟨_,rfl,⟨_,_,_,_,_,_,rfl,z7.ext xE,y7.ext xE⟩,?_⟩;exact Zai (Zai (Zai (Zai hB Zo _ _) Zo _ _) Zo _ _) Zo _ _
end Go.Proofs.W
namespace Go.Mono
open Go.RowKit
theorem Zgz (x:Int):(x.tmod 1000000000<0->x.tmod 1000000000+1000000000=x%1000000000∧x.tdiv 1000000000-1=x/1000000000)∧(¬x.tmod 1000000000<0->x.tmod 1000000000=x%1000000000∧x.tdiv 1000000000=x/1000000000):=by
 by_cases h:0<=x
 ·rw[Ybr h,Ybk h]
  omega
 ·obtain⟨y,rfl⟩:∃y,x = -y:=⟨-x,Zo⟩
  rw[Int.neg_tmod,Int.neg_tdiv,Ybr Zo,Ybk Zo];omega
structure TInv (w0 wr:World) (base G n:Nat) (f:Nat->Int):Prop where
 row:RowF wr G n f
 lo:base<=G
 low:w0.heap.size<=base
 below:Below w0.heap.size w0 wr
 size:base<=wr.heap.size
theorem TInv.set {w0 wr:World} {base G n:Nat} {f:Nat->Int} (h:TInv w0 wr base G n f) (j:Nat) (x:Int):TInv w0 (wr.setCell ⟨G,j,none⟩ (.int .i64 x)) base G n (λi=>if i=j then x else f i):=
 ⟨h.row.set j x,h.lo,h.low,Zai h.below (Yak h.low h.lo) _ _,by simp only[World.size_setCell];exact h.size⟩
theorem TInv.drew {w0 wr:World} {base G n:Nat} {f:Nat->Int} (h:TInv w0 wr base G n f):TInv w0 wr.drew base G n f:=⟨h.row.drewN 1,h.lo,h.low,h.below.drew,h.size⟩
theorem TInv.congr {w0 wr:World} {base G n:Nat} {f f':Nat->Int} (h:TInv w0 wr base G n f) (he:∀i,i<n->f i=f' i):TInv w0 wr base G n f':=⟨h.row.congr he,h.lo,h.low,h.below,h.size⟩
end Go.Mono
namespace Go.Proofs.W
open Go.RowKit Go.Mono
theorem Zot (base:Nat) (v:Value) (n:Nat) (f:Nat->Int) (q:Option Addr) (m c2:Nat) (g:Nat->Int) (w0 w:World) (ho:OwnF w base v n f) (hlow:w0.heap.size<=base) (hbase:base<=w.heap.size) (hB0:Below w0.heap.size w0 w) (h2:SlF w0 (.slice q (m+1) c2) (m+1) g) (d1:Digs f n) (d2:Digs g (m+1)) (hm6:m<=100000) (hlt:vf f n<vf g (m+1)*1000000000) :
  Calls Tryz.prog 214 #[v,.slice q (m+1) c2] w λe w'=>∃v' n' f' k,e=.returned (.tuple #[v',.int .i64 k])∧OwnF w' base v' n' f'∧Digs f' n'∧vf f' n'=vf f n%vf g (m+1)∧k=vf f n/vf g (m+1)∧Below w0.heap.size w0 w'∧base<=w'.heap.size:=by
 obtain⟨hc2,hn2,hx2⟩:=h2.opens;have hB1:0<vf g (m+1):=d2.pos.2 Zo;obtain⟨BB,hBB⟩:∃BB,vf g (m+1)=BB:=⟨_,rfl⟩
 obtain⟨RR,hRR⟩:∃RR,vf f n=RR:=⟨_,rfl⟩
 rw[hBB,hRR];rw[hBB,hRR]at hlt;rw[hBB]at hB1;replace hBB:=Yah hBB;go_enter Tryz.func214,Tryz.ntmps214
 go_wp2
 go_loopw [0,6] (λa b wr=>∃(n:Nat) (f:Nat->Int) (k:Int),OwnF wr base a n f∧b=.int .i64 k∧Digs f n∧vf f n+k*BB=RR∧0<=k∧Below w0.heap.size w0 wr∧base<=wr.heap.size) (λ_ b _=>(1000000000-intOf b).toNat)
 case atStart=>exact⟨n,f,0,ho,rfl,d1,by rw[hRR];simp,Yek _,hB0,hbase⟩
 case round=>
  clear ho d1 hRR hB0 hbase f n v;obtain⟨n,f,k,ho,rfl,d1,hv,hk0,hB0,hbase⟩:=hrel;obtain⟨p,c,rfl⟩:=ho.shape;have hf0:=d1.nonneg;have hk1:k*BB<1000000000*BB:=by rw[Ydh 1000000000];omega
  have hk9:k<1000000000:=Ygc hk1 Zo;have hnm:n<=m+2:=by
   by_cases hn:n<=m+2
   ·exact hn
   ·have h3:=d1.ge Zo
    have h4:=Zbt (show m+2<=n-1 by omega);have h5:=d2.lt;have h6:pw (m+2)=pw (m+1)*1000000000:=rfl;have h7:=Ycg hk0 (Yap hB1);rw[hBB.out]at h5;omega
  have hsl:=ho.sl Zo;have hless:=λ(W:World) (hW:Ext wr W)=>Ze0 p q n (m+1) c c2 f g W (hsl.ext hW) ((h2.ext (.of_below hB0)).ext hW) d1 d2;rw[hBB.out]at hless;by_cases hge:BB<=vf f n
  ·rw[decide_eq_false Zo]at hless
   have hnm1:m+1<=n:=d2.len_le d1 (by rw[hBB.out];exact hge);have hmn:m<n:=Zo;have hmul:=Ycg hk0 (Yap hB1);obtain⟨tk0,tk1⟩:=Ztq d1.lo d2 (by rw[hBB.out];exact hge) hnm hmn;have tk2:=Zq8 d1.lo d2 (by rw[hBB.out];omega) hnm hmn;have f0:=d1.lo m hmn;have f9:=d1.hi m hmn;have g0:=d2.lo m Zo;have g9:=d2.hi m Zo;have x0:=Zi1 d1.lo (m+1);have x9:=Zom d1.hi (m+1);rw[hBB.out]at tk1;obtain⟨b',off',rfl,hb',hcell'⟩:=hx2 Zo;have a2:=(hB0.cell (p:=⟨b',off'+m,none⟩) hb').trans (hcell' m Zo);obtain⟨G,cap,hp1,hGb,hcap,hrow⟩:∃g cap,Value.slice p n c=.slice (some ⟨g,0,none⟩) n cap∧base<=g∧n<=cap∧RowF wr g n f:=by
    rcases ho.open with ⟨_,h0⟩|h
    ·omega
    ·exact h
   obtain⟨rfl,rfl⟩:p=some ⟨G,0,none⟩∧c=cap:=by simpa using hp1
   have a1:=hrow.cell m hmn;have hgl:=hrow.lt;have hTI:TInv w0 wr base G n f:=⟨hrow,hGb,hlow,hB0,hbase⟩
   have hat1:=λ(W:World) (hW:Ext wr W)=>Zfl (some ⟨G,0,none⟩) n c (m+1) f W (hsl.ext hW);have hm1':(m:Int)<n:=Zo;have hm2':(m:Int)<m+1:=Zo;clear hcell' hp1 ho hsl;go_wp2_with fail
   refine(hless wr (Ext.refl _)).mono ?_;rintro e W1 ⟨rfl,kl,rfl⟩;replace hTI:TInv w0 (wr.drewN kl) base G n f:=⟨hrow.drewN kl,hGb,hlow,below_drewN hB0 _,hbase⟩
   have hx1:Ext wr (wr.drewN kl):=.of_below (below_drewN (Yae _ _) kl);replace a1:(wr.drewN kl).cell? ⟨G,m,none⟩=some (.int .i64 (f m)):=a1;replace a2:(wr.drewN kl).cell? ⟨b',off'+m,none⟩=some (.int .i64 (g m)):=a2;clear hless hrow hB0 hbase hgl;generalize wr.drewN kl=V at *;go_wp2
   refine wp_region_held_drew (S:=λw'=>w'.cell? ⟨G,m,none⟩=some (.int .i64 (f m))∧w'.cell? ⟨b',off'+m,none⟩=some (.int .i64 (g m))∧Ext wr w') Zx ⟨a1,a2,hx1.drew⟩ (λhHeld=>?_);have hTX:=hTI.drew;generalize V.drew=X0 at *;refine tk 0 (some 19) ?_;refine tk 1 (some 20) ?_;refine tk 2 (some 21) ?_;refine tk 5 (some 24) ?_;refine tk 6 (some 25) ?_;refine tk 7 (some 26) ?_;refine tk 8 (some 27) ?_;refine tk 10 (some 29) ?_;refine tk 11 (some 30) ?_;refine tk 12 (some 31) ?_;refine tk 13 (some 32) ?_;refine tk 14 (some 33) ?_;rw[show IntKind.i64.wrap ((m:Int)+1)=((m+1:Nat):Int) from by rw[Zcv Zo Zo];rfl,Zcv (z:=g m+1) Zo Zo];refine Mono.stc 3 (some 22) (hat1 X0 hHeld.2.2) (λe X1 hR=>?_);obtain⟨rfl,rfl⟩:=hR;refine⟨(hHeld),λhHeld=>Mono.pt ?_⟩;generalize xt f n (m+1)=x at *;generalize f m=y at *;generalize g m=t at *;refine tk 4 (some 23) ?_;refine tk 9 (some 28) ?_;rw[Zcv (z:=x*1000000000) Zo Zo,Zcv (z:=x*1000000000+y) Zo Zo];have ht0:(t+1==0)=false:=by simp;omega
   have ht1:t+1≠0:=Zo;refine tk 15 (some 34) ?_;have hH:0<=x*1000000000+y:=Zo;rw[Ybk hH,Zcv (z:=(x*1000000000+y)/(t+1)) Zo Zo];generalize (x*1000000000+y)/(t+1)=kk at *;refine tk 16 (some 8) ?_;refine wpAnyH_done Zx ?_ _;clear hHeld hat1 hTI a1 a2 hx1 ht0 ht1 hH x0 x9 f0 f9 g0 g9;obtain⟨K,hK,hK1,hK9,hKB⟩:∃K:Int,(K=if kk=0 then 1 else kk)∧1<=K∧K<1000000000∧K*BB<=vf f n:=by
    by_cases h:kk=0
    ·exact⟨1,by rw[if_pos h],Zo,Zo,Zo⟩
    ·exact⟨kk,by rw[if_neg h],Zo,Zo,tk1⟩
   replace hK:=Yah hK;replace hKB:=Yah hKB;have hkK:(k+K)*BB<=RR:=by
    have:=hKB.out;rw[Yel];omega
   have hkK9:k+K<1000000000:=Ygc (a:=BB) (by rw[Ydh 1000000000];omega) Zo;by_cases hkz:kk=0
   ·subst hkz
    have hKv:=hK.out;rw[if_pos rfl]at hKv;obtain rfl:K=1:=hKv;clear hK;go_wp2
    go_loopw [9,10] (λa b wr=>∃(i:Nat) (c:Int) (h:Nat->Int),i<=n∧a=.int .i64 c∧b=.int .i64 (i:Int)∧TakI f (xt g (m+1)) 1 i h c∧TInv w0 wr base G n (λj=>if j<i then h j else f j)) (λ_ b _=>(n-intOf b).toNat)
    case atStart=>exact⟨0,0,λ_=>0,Yat _,rfl,rfl,TakI.start _ _ _ _,hTX.congr λj _=>by rw[if_neg Zo]⟩
    case round=>
     clear hTX hHeld;obtain⟨i,c',h,hi,rfl,rfl,hT,hTI⟩:=hrel;have hrow:=hTI.row;by_cases hin:i<n
     ·have hin':(i:Int)<n:=by omega
      have x0:=d1.lo i hin;have x9:=d1.hi i hin;have y0:=Zi1 d2.lo i;have y9:=Zom d2.hi i;have hnx:=hT.next x0 x9 y0 y9 Zo hK9;obtain⟨q0,q9⟩:=Zi3 y0 y9 (show 0<=1 by omega) hK9;have r0:=hT.c0;have r9:=hT.c1;have a1:=hrow.cell i hin;rw[if_neg (Yfw i)]at a1;have hat2:=λ(W:World) (hW:Below w0.heap.size w0 W)=>Zfl (some ⟨b',off',none⟩) (m+1) c2 i g W (h2.ext (.of_below hW));go_wp2
      refine wp_region_held_drew (S:=λw'=>w'.cell? ⟨G,i,none⟩=some (.int .i64 (f i))∧Below w0.heap.size w0 w') Zx ⟨a1,hTI.below.drew⟩ (λhHeld=>?_);have hTX:=hTI.drew;generalize wr.drew=X0 at *;refine tk 0 (some 46) ?_;refine tk 1 (some 47) ?_;refine tk 2 (some 48) ?_;refine tk 3 (some 49) ?_;refine tk 4 (some 50) ?_;refine tk 5 (some 51) ?_;refine tk 7 (some 53) ?_;refine tk 10 (some 56) ?_;refine Mono.stc 6 (some 52) (hat2 X0 hHeld.2) (λe X1 hR=>?_);obtain⟨rfl,rfl⟩:=hR;refine⟨(hHeld),λhHeld=>Mono.pt ?_⟩;generalize xt g (m+1) i=y at *;generalize hfi:f i=x at *;refine tk 8 (some 54) ?_;refine tk 9 (some 55) ?_;refine tk 11 (some 57) ?_;refine tk 12 (some 11) ?_;rw[Zcv (z:=y) Zo Zo,Zcv (z:=x-y) Zo Zo,Zcv (z:=x-y+c') Zo Zo];rw[Int.mul_one]at hnx;refine wpAnyH_done Zx ?_ _;have hHB:=hHeld.2;have e1 : -2000000000000000000<=x-y+c':=Zo;have e2:x-y+c'<=1000000000:=Zo;clear hHeld hat2 q0 q9 hT hTI a1 hrow;generalize x-y+c'=e at *;obtain⟨p1,p2⟩:=Zgz e;have hmm:(e.tmod 1000000000).natAbs<1000000000:=by rw[Ydy];exact Nat.mod_lt _ Zd
      have t1 : -1000000000<e.tmod 1000000000:=Zo;have t2:e.tmod 1000000000<1000000000:=Zo;have hw:wrap64 (e.tdiv 1000000000)=e.tdiv 1000000000:=by
       have:=Yfg e 1000000000;unfold wrap64;omega
      have a3:=hTX.row.cell i hin;have a4:=hTX.row.frozen i;have hst:=hTX.set i (e%1000000000);replace p1:=Yah p1;replace p2:=Yah p2;by_cases hneg:e.tmod 1000000000<0
      ·obtain⟨z1,z2⟩:=p1.out hneg
       go_wp2
       go_roundw
       case rel=>
        refine⟨i+1,e/1000000000,_,Zo,by first|rfl|rw[z2],Zs,hnx,?_⟩;try rw[z1]
        exact hst.congr λj hj=>by
         by_cases hji:j=i
         ·subst hji;simp
         ·simp only[if_neg hji]
          by_cases hlt:j<i
          ·rw[if_pos hlt,if_pos Zo]
          ·rw[if_neg hlt,if_neg Zo]
       case measure=>simp[intOf];omega
      ·obtain⟨z1,z2⟩:=p2.out hneg
       go_wp2
       go_roundw
       case rel=>
        refine⟨i+1,e/1000000000,_,Zo,by first|rfl|rw[z2],Zs,hnx,?_⟩;try rw[z1]
        exact hst.congr λj hj=>by
         by_cases hji:j=i
         ·subst hji;simp
         ·simp only[if_neg hji]
          by_cases hlt:j<i
          ·rw[if_pos hlt,if_pos Zo]
          ·rw[if_neg hlt,if_neg Zo]
       case measure=>simp[intOf];omega
     ·obtain rfl:i=n:=by omega
      have hval:=hT.done (m:=m+1) hnm1 (by rw[hBB.out];exact hKB.out);rw[hBB.out]at hval;have hsl2:SlF wr (.slice (some ⟨G,0,none⟩) i c) i h:=SlF.congr (hrow.slice Zo i (Yab _) c hcap) (λj hj=>if_pos hj);have hmm:=λW1 hW1=>Zbp false (some ⟨G,0,none⟩) i c h W1 (hsl2.ext hW1) Zo hT.lo hT.hi;have hBw:=hTI.below;have hsz:=hTI.size;replace hval:=Yah hval;clear hT hrow hsl2 hx2;go_wp2_with fail
      refine(hmm wr (Ext.refl _)).mono ?_;rintro e W2 ⟨v',rfl,ho2,d3,e3,hb⟩;have hBw2:=Zaa hBw hb;have hsz2:=hb.size;obtain⟨p',c'',rfl⟩:=ho2.shape;have hf0:∀w:World,(Instr.field 52 (.agg #[.bool false,.slice p' (trimN h i) c'']) 1).run Tryz.prog w=.ok (.slice p' (trimN h i) c'') w:=λ_=>Zk;clear hmm hTI hBw;go_wp2
      go_roundw
      case rel=>
       refine⟨trimN h i,h,k+1,ho2.lower Zo,rfl,d3,?_,Zo,hBw2,Zo⟩;rw[e3,hval.out,Yel];omega
      case measure=>simp[intOf];omega
   ·have hKv:=hK.out
    rw[if_neg hkz]at hKv;obtain rfl:K=kk:=hKv;have hkz':(K==0)=false:=by simpa using hkz
    clear hK;go_wp2
    go_loopw [9,10] (λa b wr=>∃(i:Nat) (c:Int) (h:Nat->Int),i<=n∧a=.int .i64 c∧b=.int .i64 (i:Int)∧TakI f (xt g (m+1)) K i h c∧TInv w0 wr base G n (λj=>if j<i then h j else f j)) (λ_ b _=>(n-intOf b).toNat)
    case atStart=>exact⟨0,0,λ_=>0,Yat _,rfl,rfl,TakI.start _ _ _ _,hTX.congr λj _=>by rw[if_neg Zo]⟩
    case round=>
     clear hTX hHeld;obtain⟨i,c',h,hi,rfl,rfl,hT,hTI⟩:=hrel;have hrow:=hTI.row;by_cases hin:i<n
     ·have hin':(i:Int)<n:=by omega
      have x0:=d1.lo i hin;have x9:=d1.hi i hin;have y0:=Zi1 d2.lo i;have y9:=Zom d2.hi i;have hnx:=hT.next x0 x9 y0 y9 Zo hK9;obtain⟨q0,q9⟩:=Zi3 y0 y9 (show 0<=K by omega) hK9;have r0:=hT.c0;have r9:=hT.c1;have a1:=hrow.cell i hin;rw[if_neg (Yfw i)]at a1;have hat2:=λ(W:World) (hW:Below w0.heap.size w0 W)=>Zfl (some ⟨b',off',none⟩) (m+1) c2 i g W (h2.ext (.of_below hW));go_wp2
      refine wp_region_held_drew (S:=λw'=>w'.cell? ⟨G,i,none⟩=some (.int .i64 (f i))∧Below w0.heap.size w0 w') Zx ⟨a1,hTI.below.drew⟩ (λhHeld=>?_);have hTX:=hTI.drew;generalize wr.drew=X0 at *;refine tk 0 (some 46) ?_;refine tk 1 (some 47) ?_;refine tk 2 (some 48) ?_;refine tk 3 (some 49) ?_;refine tk 4 (some 50) ?_;refine tk 5 (some 51) ?_;refine tk 7 (some 53) ?_;refine tk 10 (some 56) ?_;refine Mono.stc 6 (some 52) (hat2 X0 hHeld.2) (λe X1 hR=>?_);obtain⟨rfl,rfl⟩:=hR;refine⟨(hHeld),λhHeld=>Mono.pt ?_⟩;generalize xt g (m+1) i=y at *;generalize hfi:f i=x at *;refine tk 8 (some 54) ?_;refine tk 9 (some 55) ?_;refine tk 11 (some 57) ?_;refine tk 12 (some 11) ?_;rw[Zcv (z:=y*K) Zo Zo,Zcv (z:=x-y*K) Zo Zo,Zcv (z:=x-y*K+c') Zo Zo];refine wpAnyH_done Zx ?_ _;have hHB:=hHeld.2;have e1 : -2000000000000000000<=x-y*K+c':=Zo;have e2:x-y*K+c'<=1000000000:=Zo;clear hHeld hat2 q0 q9 hT hTI a1 hrow;generalize x-y*K+c'=e at *;obtain⟨p1,p2⟩:=Zgz e;have hmm:(e.tmod 1000000000).natAbs<1000000000:=by rw[Ydy];exact Nat.mod_lt _ Zd
      have t1 : -1000000000<e.tmod 1000000000:=Zo;have t2:e.tmod 1000000000<1000000000:=Zo;have hw:wrap64 (e.tdiv 1000000000)=e.tdiv 1000000000:=by
       have:=Yfg e 1000000000;unfold wrap64;omega
      have a3:=hTX.row.cell i hin;have a4:=hTX.row.frozen i;have hst:=hTX.set i (e%1000000000);replace p1:=Yah p1;replace p2:=Yah p2;by_cases hneg:e.tmod 1000000000<0
      ·obtain⟨z1,z2⟩:=p1.out hneg
       go_wp2
       go_roundw
       case rel=>
        refine⟨i+1,e/1000000000,_,Zo,by first|rfl|rw[z2],Zs,hnx,?_⟩;try rw[z1]
        exact hst.congr λj hj=>by
         by_cases hji:j=i
         ·subst hji;simp
         ·simp only[if_neg hji]
          by_cases hlt:j<i
          ·rw[if_pos hlt,if_pos Zo]
          ·rw[if_neg hlt,if_neg Zo]
       case measure=>simp[intOf];omega
      ·obtain⟨z1,z2⟩:=p2.out hneg
       go_wp2
       go_roundw
       case rel=>
        refine⟨i+1,e/1000000000,_,Zo,by first|rfl|rw[z2],Zs,hnx,?_⟩;try rw[z1]
        exact hst.congr λj hj=>by
         by_cases hji:j=i
         ·subst hji;simp
         ·simp only[if_neg hji]
          by_cases hlt:j<i
          ·rw[if_pos hlt,if_pos Zo]
          ·rw[if_neg hlt,if_neg Zo]
       case measure=>simp[intOf];omega
     ·obtain rfl:i=n:=by omega
      have hval:=hT.done (m:=m+1) hnm1 (by rw[hBB.out];exact hKB.out);rw[hBB.out]at hval;have hsl2:SlF wr (.slice (some ⟨G,0,none⟩) i c) i h:=SlF.congr (hrow.slice Zo i (Yab _) c hcap) (λj hj=>if_pos hj);have hmm:=λW1 hW1=>Zbp false (some ⟨G,0,none⟩) i c h W1 (hsl2.ext hW1) Zo hT.lo hT.hi;have hBw:=hTI.below;have hsz:=hTI.size;replace hval:=Yah hval;clear hT hrow hsl2 hx2;go_wp2_with fail
      refine(hmm wr (Ext.refl _)).mono ?_;rintro e W2 ⟨v',rfl,ho2,d3,e3,hb⟩;have hBw2:=Zaa hBw hb;have hsz2:=hb.size;obtain⟨p',c'',rfl⟩:=ho2.shape;have hf0:∀w:World,(Instr.field 52 (.agg #[.bool false,.slice p' (trimN h i) c'']) 1).run Tryz.prog w=.ok (.slice p' (trimN h i) c'') w:=λ_=>Zk;clear hmm hTI hBw;go_wp2
      go_roundw
      case rel=>
       refine⟨trimN h i,h,k+K,ho2.lower Zo,rfl,d3,?_,Zo,hBw2,Zo⟩;rw[e3,hval.out,Yel];omega
      case measure=>simp[intOf];omega
  ·rw[decide_eq_true Zo]at hless
   have hdiv:vf f n=RR%BB∧k=RR/BB:=by
    rw[<-hv,Int.add_mul_ediv_right _ _ Zo,Int.ediv_eq_zero_of_lt hf0 Zo,Int.zero_add,Int.add_mul_emod_self_right,Int.emod_eq_of_lt hf0 Zo];exact⟨rfl,rfl⟩
   replace hdiv:=Yah hdiv;go_wp2_with fail
   refine(hless wr (Ext.refl _)).mono ?_;rintro e W1 ⟨rfl,kl,rfl⟩;clear hv hx2;go_wp2
   go_ret2
   refine⟨_,n,f,k,rfl,ho.below (below_drewN (Yae _ _) _),d1,hdiv.out.1,hdiv.out.2,below_drewN hB0 _,hbase⟩
end Go.Proofs.W
namespace Go.Mono
structure Mat where
 a:Rat
 b:Rat
 c:Rat
 d:Rat
theorem Mat.ext {x y:Mat} (h1:x.a=y.a) (h2:x.b=y.b) (h3:x.c=y.c) (h4:x.d=y.d):x=y:=by
 cases x;cases y;simp_all
def Mat.one:Mat:=⟨1,0,0,1⟩
def Mat.mul (x y:Mat):Mat:=⟨x.a*y.a-x.b*y.c,x.a*y.b+x.b*y.d,x.c*y.a+x.d*y.c,x.d*y.d-x.c*y.b⟩
theorem Mat.mul_assoc (x y z:Mat):(x.mul y).mul z=x.mul (y.mul z):=by
 apply Mat.ext<;>simp only[Mat.mul]<;>grind
theorem Mat.one_mul (x:Mat):Mat.one.mul x=x:=by
 apply Mat.ext<;>simp only[Mat.mul,Mat.one]<;>grind
theorem Mat.mul_one (x:Mat):x.mul Mat.one=x:=by
 apply Mat.ext<;>simp only[Mat.mul,Mat.one]<;>grind
def Flm.sq (f:Flm):Int:=f.q*f.q+f.p*f.p
def Flm.cos (f:Flm):Rat:=Rat.divInt (f.q*f.q-f.p*f.p) f.sq
def Flm.sin (f:Flm):Rat:=Rat.divInt (2*f.p*f.q) f.sq
theorem Flm.ok.sq_pos {f:Flm} (h:f.ok):1<=f.sq:=by
 obtain⟨_,_,h1,_,h2,_⟩:=h;have a:=Yef h2 h2 Zo Zo;have b:=Ycg h1 h1;unfold Flm.sq;omega
theorem Zou {n:Int} (h:n≠0):(n:Rat)≠0:=by
 intro e;apply h;exact Rat.intCast_inj.1 (by simpa using e)
theorem Flm.cs (f:Flm) (h:f.sq≠0):f.cos*f.cos+f.sin*f.sin=1:=by
 unfold Flm.cos Flm.sin;rw[Rat.divInt_eq_div,Rat.divInt_eq_div];have h0:=Zou h;have e:((f.sq:Int):Rat)=(f.q:Rat)*f.q+f.p*f.p:=by
  unfold Flm.sq;rw[Rat.intCast_add,Yfc,Yfc]
 have e1:((f.q*f.q-f.p*f.p:Int):Rat)=(f.q:Rat)*f.q-f.p*f.p:=by
  rw[Rat.intCast_sub,Yfc,Yfc]
 have e2:((2*f.p*f.q:Int):Rat)=2*(f.p:Rat)*f.q:=by
  rw[Yfc,Yfc];rfl
 rw[e1,e2];generalize ((f.sq:Int):Rat)=s at *;generalize (f.p:Rat)=p at *;generalize (f.q:Rat)=q at *;have:((q*q-p*p)*(q*q-p*p)+(2*p*q)*(2*p*q))=s*s:=by rw[e];grind
 grind
theorem Flm.ok.ne {f:Flm} (h:f.ok):f.sq≠0∧f.ix≠0:=by
 have:=h.sq_pos;have:=h.1;omega
def big (n m:Rat) (x:Mat):Rat:=(n*x.a+m*x.d)*(n*x.a+m*x.d)+(n*m*x.b+x.c)*(n*m*x.b+x.c)
def low (n m:Rat) (x:Mat):Rat:=(n*x.a-m*x.d)*(n*x.a-m*x.d)+(n*m*x.b-x.c)*(n*m*x.b-x.c)
def back (n m:Rat) (x:Mat):Rat:=low n m x/big n m x
def through (n m:Rat) (x:Mat):Rat:=4*(n*m)/big n m x
end Go.Mono
def List.look {α:Type}:List (Nat×α)->Nat->Option α
 | [],_=>none
 | p::r,k=>bif Nat.beq k p.1 then some p.2 else List.look r k
namespace Go.Ex
open Go.RowKit Go.Mono
@[simp] theorem look_nil {α:Type} (k:Nat):([]:List (Nat×α)).look k=none:=rfl
theorem Zaz {α:Type} (k k':Nat) (x:α) (l:List (Nat×α)):List.look ((k',x)::l) k=if k=k' then some x else List.look l k:=by
 unfold List.look;by_cases h:k=k'
 ·subst h
  simp
 ·have e:Nat.beq k k'=false:=by
   cases hb:Nat.beq k k' with
   | false=>rfl
   | true=>exact absurd (Ybe hb) h
  rw[if_neg h];dsimp only;rw[e];cases l<;>rfl
inductive U where
 | val (v:Value)
 | raw (n:Nat) (cs:List Value)
 | ptr (k off:Nat)
 | slc (k off len cap:Nat)
 | clo (f:FuncId) (caps:List (Nat×Nat))
 | quo (q:Rat)
 | sym (z:Int)
 | tst (b:Bool)
 | sli (k off len:Nat)
 | own (k len size:Nat)
 | yld (k:Nat)
 | dig (n:Nat)
 | tok (i:Nat)
 | emp
 | bnd (f:FuncId) (ag:Bool) (l:List U)
 | bad
 | sml (k:IntKind) (z:Int)
 | qb
 | qe (p:Pol)
 | slx (k off m n:Nat)
 | unk
def U.w:U->Nat
 | .quo _=>4
 | .qb=>4
 | .qe _=>4
 | .bad=>4
 | .raw n _=>n
 | _=>1
inductive SA where
 | one (u:U)
 | agg (l:List U)
def bndA (ag:Bool) (l:List U):SA:=
 match ag,l with
 | false,[u]=>.one u
 | _,l=>.agg l
inductive SV where
 | a (x:SA)
 | tup (l:List SA)
 | no
structure Blk where
 T:TypeId
 cells:List U
 ro:Bool
 sp:Bool:=false
 dead:Bool:=false
structure Den where
 R:World->Rat->List Value->Prop
 ext:∀{w w':World} {q:Rat} {cs:List Value},R w q cs->Ext w w'->R w' q cs
 len:∀{w:World} {q:Rat} {cs:List Value},R w q cs->cs.length=4
 one:∀{w:World} {q:Rat} {cs:List Value},R w q cs->∀v∈cs,v.oneCell'=true
 K:Nat->Value
 kone:∀i,(K i).oneCell'=true
 S:World->Nat->Value->Prop
 sext:∀{w w':World} {n:Nat} {v:Value},S w n v->Ext w w'->S w' n v
 sone:∀{w:World} {n:Nat} {v:Value},S w n v->v.oneCell'=true
 env:Nat->Rat
 B:World->List Value->Prop
 bext:∀{w w':World} {cs:List Value},B w cs->Ext w w'->B w' cs
 blen:∀{w:World} {cs:List Value},B w cs->cs.length=4
 bone:∀{w:World} {cs:List Value},B w cs->∀v∈cs,v.oneCell'=true
 split:∀{w:World} {q:Rat} {cs:List Value},R w q cs->∃v1 v2,cs=[.bool (decide (q.num<0)),v1,.bool false,v2]∧S w q.num.natAbs v1∧S w q.den v2
structure Pl where
 blk:Nat
 base:Nat
 ro:Bool
 cap:Nat:=0
 tot:Nat:=0
abbrev Nm:=Nat->Option Pl
def Nm.le (ρ ρ':Nm):Prop:=∀k B,ρ k=some B->ρ' k=some B
theorem Nm.le.refl (ρ:Nm):ρ.le ρ:=λ_ _ h=>h
theorem Nm.le.trans {a b c:Nm} (h:a.le b) (g:b.le c):a.le c:=λk B hk=>g k B (h k B hk)
section
variable (D:Den) (ρ:Nm) (w:World)
def adrs:List (Nat×Nat)->List Value->Prop
 | [],vs=>vs=[]
 | p::r,vs=>∃B v',ρ p.1=some B∧vs=.pointer (some ⟨B.blk,B.base+p.2,none⟩)::v'∧adrs r v'
def denU0:U->List Value->Prop
 | .val v,cs=>cs=[v]∧v.oneCell'=true
 | .raw n c,cs=>cs=c∧c.length=n∧∀v∈c,v.oneCell'=true
 | .ptr k o,cs=>∃B,ρ k=some B∧cs=[.pointer (some ⟨B.blk,B.base+o,none⟩)]
 | .slc k o n c,cs=>∃B,ρ k=some B∧cs=[.slice (some ⟨B.blk,B.base+o,none⟩) n c]
 | .clo f caps,cs=>∃vs,adrs ρ caps vs∧cs=[.func (.func f) #[] vs.toArray]
 | .quo q,cs=>D.R w q cs
 | .sym z,cs=>cs=[.int .i64 z]
 | .tst b,cs=>cs=[.bool b]
 | .emp,cs=>∃p c,(p=none->c=0)∧cs=[.slice p 0 c]
 | .sli k o n,cs=>∃B c,ρ k=some B∧n<=c∧cs=[.slice (some ⟨B.blk,B.base+o,none⟩) n c]
 | .own k n s,cs=>∃B,ρ k=some B∧n<=B.cap∧B.tot=B.cap*s∧B.base=0∧cs=[.slice (some ⟨B.blk,0,none⟩) n B.cap]
 | .yld k,cs=>∃B,ρ k=some B∧cs=[.func (.yield B.blk) #[] #[]]
 | .dig n,cs=>∃v,D.S w n v∧cs=[v]
 | .tok i,cs=>cs=[D.K i]
 | .bad,cs=>D.B w cs
 | .sml k z,cs=>cs=[.int k z]
 | .qb,cs=>(∃q,D.R w q cs)∨D.B w cs
 | .qe p,cs=>D.R w (polEv D.env p) cs
 | .unk,cs=>∃v,cs=[v]∧v.oneCell'=true
 | .slx k o m n,cs=>∃B c,ρ k=some B∧m<=n∧n<=c∧cs=[.slice (some ⟨B.blk,B.base+o,none⟩) n c]
 | .bnd _ _ _,_=>False
def denL0:List U->List Value->Prop
 | [],cs=>cs=[]
 | u::l,cs=>∃c d,cs=c++d∧denU0 D ρ w u c∧denL0 l d
def denA0:SA->Value->Prop
 | .one u,v=>denU0 D ρ w u [v]
 | .agg l,v=>∃cs:List Value,v=.agg cs.toArray∧denL0 D ρ w l cs
def denU:U->List Value->Prop
 | .val v,cs=>cs=[v]∧v.oneCell'=true
 | .raw n c,cs=>cs=c∧c.length=n∧∀v∈c,v.oneCell'=true
 | .ptr k o,cs=>∃B,ρ k=some B∧cs=[.pointer (some ⟨B.blk,B.base+o,none⟩)]
 | .slc k o n c,cs=>∃B,ρ k=some B∧cs=[.slice (some ⟨B.blk,B.base+o,none⟩) n c]
 | .clo f caps,cs=>∃vs,adrs ρ caps vs∧cs=[.func (.func f) #[] vs.toArray]
 | .quo q,cs=>D.R w q cs
 | .sym z,cs=>cs=[.int .i64 z]
 | .tst b,cs=>cs=[.bool b]
 | .emp,cs=>∃p c,(p=none->c=0)∧cs=[.slice p 0 c]
 | .sli k o n,cs=>∃B c,ρ k=some B∧n<=c∧cs=[.slice (some ⟨B.blk,B.base+o,none⟩) n c]
 | .own k n s,cs=>∃B,ρ k=some B∧n<=B.cap∧B.tot=B.cap*s∧B.base=0∧cs=[.slice (some ⟨B.blk,0,none⟩) n B.cap]
 | .yld k,cs=>∃B,ρ k=some B∧cs=[.func (.yield B.blk) #[] #[]]
 | .dig n,cs=>∃v,D.S w n v∧cs=[v]
 | .tok i,cs=>cs=[D.K i]
 | .bad,cs=>D.B w cs
 | .sml k z,cs=>cs=[.int k z]
 | .qb,cs=>(∃q,D.R w q cs)∨D.B w cs
 | .qe p,cs=>D.R w (polEv D.env p) cs
 | .unk,cs=>∃v,cs=[v]∧v.oneCell'=true
 | .slx k o m n,cs=>∃B c,ρ k=some B∧m<=n∧n<=c∧cs=[.slice (some ⟨B.blk,B.base+o,none⟩) n c]
 | .bnd f ag l,cs=>∃v,cs=[.func (.func f) #[v] #[]]∧denA0 D ρ w (bndA ag l) v
def denL:List U->List Value->Prop
 | [],cs=>cs=[]
 | u::l,cs=>∃c d,cs=c++d∧denU D ρ w u c∧denL l d
def denA:SA->Value->Prop
 | .one u,v=>denU D ρ w u [v]
 | .agg l,v=>∃cs:List Value,v=.agg cs.toArray∧denL D ρ w l cs
def denAs:List SA->List Value->Prop
 | [],vs=>vs=[]
 | x::l,vs=>∃v r,vs=v::r∧denA D ρ w x v∧denAs l r
def denV:SV->Value->Prop
 | .a x,v=>denA D ρ w x v
 | .tup l,v=>∃vs:List Value,v=.tuple vs.toArray∧denAs D ρ w l vs
 | .no,_=>True
end
section
variable {D:Den} {ρ ρ':Nm} {w w':World}
theorem adrs.mono (h:ρ.le ρ'):∀{l:List (Nat×Nat)} {vs:List Value},adrs ρ l vs->adrs ρ' l vs
 | [],_,e=>e
 | p::r,vs,⟨B,v',hB,e,hr⟩=>⟨B,v',h _ _ hB,e,adrs.mono h hr⟩
theorem adrs.one:∀{l:List (Nat×Nat)} {vs:List Value},adrs ρ l vs->vs.length=l.length
 | [],_,e=>by rw[show _=[] from e];rfl
 | p::r,vs,⟨B,v',hB,e,hr⟩=>by rw[e,Ybm,adrs.one hr];rfl
theorem denU0.mono (h:ρ.le ρ') (hx:Ext w w'):∀{u:U} {cs:List Value},denU0 D ρ w u cs->denU0 D ρ' w' u cs
 | .val _,_,e=>e
 | .raw _ _,_,e=>e
 | .ptr _ _,_,⟨B,hB,e⟩=>⟨B,h _ _ hB,e⟩
 | .slc _ _ _ _,_,⟨B,hB,e⟩=>⟨B,h _ _ hB,e⟩
 | .clo _ _,_,⟨vs,hv,e⟩=>⟨vs,hv.mono h,e⟩
 | .quo _,_,e=>D.ext e hx
 | .sym _,_,e=>e
 | .tst _,_,e=>e
 | .sli _ _ _,_,⟨B,c,hB,hc,e⟩=>⟨B,c,h _ _ hB,hc,e⟩
 | .own _ _ _,_,⟨B,hB,e⟩=>⟨B,h _ _ hB,e⟩
 | .yld _,_,⟨B,hB,e⟩=>⟨B,h _ _ hB,e⟩
 | .dig _,_,⟨v,hv,e⟩=>⟨v,D.sext hv hx,e⟩
 | .tok _,_,e=>e
 | .bad,_,e=>D.bext e hx
 | .sml _ _,_,e=>e
 | .qb,_,e=>e.imp (λ⟨q,h⟩=>⟨q,D.ext h hx⟩) λh=>D.bext h hx
 | .qe _,_,e=>D.ext e hx
 | .slx _ _ _ _,_,⟨B,c,hB,e⟩=>⟨B,c,h _ _ hB,e⟩
 | .unk,_,e=>e
 | .emp,_,e=>e
theorem denL0.mono (h:ρ.le ρ') (hx:Ext w w'):∀{l:List U} {cs:List Value},denL0 D ρ w l cs->denL0 D ρ' w' l cs
 | [],_,e=>e
 | u::l,_,⟨c,d,e,hc,hd⟩=>⟨c,d,e,hc.mono h hx,denL0.mono h hx hd⟩
theorem denA0.mono (h:ρ.le ρ') (hx:Ext w w'):∀{x:SA} {v:Value},denA0 D ρ w x v->denA0 D ρ' w' x v
 | .one _,_,e=>denU0.mono h hx e
 | .agg _,_,⟨cs,e,hl⟩=>⟨cs,e,hl.mono h hx⟩
theorem denU.mono (h:ρ.le ρ') (hx:Ext w w'):∀{u:U} {cs:List Value},denU D ρ w u cs->denU D ρ' w' u cs
 | .val _,_,e=>e
 | .raw _ _,_,e=>e
 | .ptr _ _,_,⟨B,hB,e⟩=>⟨B,h _ _ hB,e⟩
 | .slc _ _ _ _,_,⟨B,hB,e⟩=>⟨B,h _ _ hB,e⟩
 | .clo _ _,_,⟨vs,hv,e⟩=>⟨vs,hv.mono h,e⟩
 | .quo _,_,e=>D.ext e hx
 | .sym _,_,e=>e
 | .tst _,_,e=>e
 | .sli _ _ _,_,⟨B,c,hB,hc,e⟩=>⟨B,c,h _ _ hB,hc,e⟩
 | .own _ _ _,_,⟨B,hB,e⟩=>⟨B,h _ _ hB,e⟩
 | .yld _,_,⟨B,hB,e⟩=>⟨B,h _ _ hB,e⟩
 | .dig _,_,⟨v,hv,e⟩=>⟨v,D.sext hv hx,e⟩
 | .tok _,_,e=>e
 | .bad,_,e=>D.bext e hx
 | .sml _ _,_,e=>e
 | .qb,_,e=>e.imp (λ⟨q,h⟩=>⟨q,D.ext h hx⟩) λh=>D.bext h hx
 | .qe _,_,e=>D.ext e hx
 | .slx _ _ _ _,_,⟨B,c,hB,e⟩=>⟨B,c,h _ _ hB,e⟩
 | .unk,_,e=>e
 | .emp,_,e=>e
 | .bnd _ _ _,_,⟨v,e,hv⟩=>⟨v,e,hv.mono h hx⟩
theorem denL.mono (h:ρ.le ρ') (hx:Ext w w'):∀{l:List U} {cs:List Value},denL D ρ w l cs->denL D ρ' w' l cs
 | [],_,e=>e
 | u::l,_,⟨c,d,e,hc,hd⟩=>⟨c,d,e,hc.mono h hx,denL.mono h hx hd⟩
theorem denA.mono (h:ρ.le ρ') (hx:Ext w w'):∀{x:SA} {v:Value},denA D ρ w x v->denA D ρ' w' x v
 | .one _,_,e=>denU.mono h hx e
 | .agg _,_,⟨cs,e,hl⟩=>⟨cs,e,hl.mono h hx⟩
theorem denAs.mono (h:ρ.le ρ') (hx:Ext w w'):∀{l:List SA} {vs:List Value},denAs D ρ w l vs->denAs D ρ' w' l vs
 | [],_,e=>e
 | x::l,_,⟨v,r,e,hv,hr⟩=>⟨v,r,e,hv.mono h hx,denAs.mono h hx hr⟩
theorem denV.mono (h:ρ.le ρ') (hx:Ext w w'):∀{x:SV} {v:Value},denV D ρ w x v->denV D ρ' w' x v
 | .a _,_,e=>denA.mono h hx e
 | .tup _,_,⟨vs,e,hl⟩=>⟨vs,e,hl.mono h hx⟩
 | .no,_,_=>trivial
theorem denU0.up {u:U} {cs:List Value} (h:denU0 D ρ w u cs):denU D ρ w u cs:=by
 cases u<;>first|exact h|cases h
theorem denL0.up:∀{l:List U} {cs:List Value},denL0 D ρ w l cs->denL D ρ w l cs
 | [],_,e=>e
 | u::l,_,⟨c,d,e,hc,hd⟩=>⟨c,d,e,hc.up,denL0.up hd⟩
theorem denA0.up:∀{x:SA} {v:Value},denA0 D ρ w x v->denA D ρ w x v
 | .one _,_,e=>denU0.up e
 | .agg _,_,⟨cs,e,hl⟩=>⟨cs,e,hl.up⟩
def U.weak:U->U
 | .bnd _ _ _=>.unk
 | u=>u
def SA.weak:SA->SA
 | .one u=>.one u.weak
 | .agg l=>.agg (l.map U.weak)
theorem denU.weak {u:U} {cs:List Value} (h:denU D ρ w u cs):denU0 D ρ w u.weak cs:=by
 cases u with
 | bnd f g l =>
   obtain⟨v,e,_⟩:=h;exact⟨_,e,by simp[Value.oneCell']⟩
 | _=>exact h
theorem denL.weak:∀{l:List U} {cs:List Value},denL D ρ w l cs->denL0 D ρ w (l.map U.weak) cs
 | [],_,e=>e
 | u::l,_,⟨c,d,e,hc,hd⟩=>⟨c,d,e,hc.weak,denL.weak hd⟩
theorem denA.weak:∀{x:SA} {v:Value},denA D ρ w x v->denA0 D ρ w x.weak v
 | .one _,_,e=>denU.weak e
 | .agg _,_,⟨cs,e,hl⟩=>⟨cs,e,hl.weak⟩
def widths (l:List U):Nat:=l.foldr (λu n=>u.w+n) 0
theorem denU.len:∀{u:U} {cs:List Value},denU D ρ w u cs->cs.length=u.w
 | .val _,_,⟨e,_⟩=>by rw[e];rfl
 | .raw _ _,_,⟨e,hn,_⟩=>by rw[e];exact hn
 | .ptr _ _,_,⟨B,hB,e⟩=>by rw[e];rfl
 | .slc _ _ _ _,_,⟨B,hB,e⟩=>by rw[e];rfl
 | .clo _ _,_,⟨vs,hv,e⟩=>by rw[e];rfl
 | .quo _,_,e=>D.len e
 | .sym _,_,e=>by rw[show _=_ from e];rfl
 | .tst _,_,e=>by rw[show _=_ from e];rfl
 | .sli _ _ _,_,⟨B,c,hB,hc,e⟩=>by rw[e];rfl
 | .own _ _ _,_,⟨B,hB,h1,h2,h3,e⟩=>by rw[e];rfl
 | .yld _,_,⟨B,hB,e⟩=>by rw[e];rfl
 | .dig _,_,⟨v,hv,e⟩=>by rw[e];rfl
 | .tok _,_,e=>by rw[show _=_ from e];rfl
 | .emp,_,⟨p,c,hp,e⟩=>by rw[e];rfl
 | .bad,_,e=>D.blen e
 | .sml _ _,_,e=>by rw[show _=_ from e];rfl
 | .qb,_,e=>e.elim (λ⟨q,h⟩=>D.len h) D.blen
 | .qe _,_,e=>D.len e
 | .slx _ _ _ _,_,⟨B,c,hB,h1,h2,e⟩=>by rw[e];rfl
 | .unk,_,⟨v,e,hv⟩=>by rw[e];rfl
 | .bnd _ _ _,_,⟨v,e,hv⟩=>by rw[e];rfl
theorem denU.ones:∀{u:U} {cs:List Value},denU D ρ w u cs->∀v∈cs,v.oneCell'=true
 | .val _,_,⟨e,h⟩=>by rw[e];simpa using h
 | .raw _ _,_,⟨e,hn,h⟩=>by rw[e];exact h
 | .ptr _ _,_,⟨B,hB,e⟩=>by rw[e];simp[Value.oneCell']
 | .slc _ _ _ _,_,⟨B,hB,e⟩=>by rw[e];simp[Value.oneCell']
 | .clo _ _,_,⟨vs,hv,e⟩=>by rw[e];simp[Value.oneCell']
 | .quo _,_,e=>D.one e
 | .sym _,_,e=>by rw[show _=_ from e];simp[Value.oneCell']
 | .tst _,_,e=>by rw[show _=_ from e];simp[Value.oneCell']
 | .sli _ _ _,_,⟨B,c,hB,hc,e⟩=>by rw[e];simp[Value.oneCell']
 | .own _ _ _,_,⟨B,hB,h1,h2,h3,e⟩=>by rw[e];simp[Value.oneCell']
 | .yld _,_,⟨B,hB,e⟩=>by rw[e];simp[Value.oneCell']
 | .dig _,_,⟨v,hv,e⟩=>by rw[e];simpa using D.sone hv
 | .tok _,_,e=>by rw[show _=_ from e];simpa using D.kone _
 | .emp,_,⟨p,c,hp,e⟩=>by rw[e];simp[Value.oneCell']
 | .bad,_,e=>D.bone e
 | .sml _ _,_,e=>by rw[show _=_ from e];simp[Value.oneCell']
 | .qb,_,e=>e.elim (λ⟨q,h⟩=>D.one h) D.bone
 | .qe _,_,e=>D.one e
 | .slx _ _ _ _,_,⟨B,c,hB,h1,h2,e⟩=>by rw[e];simp[Value.oneCell']
 | .unk,_,⟨v,e,hv⟩=>by rw[e];simpa using hv
 | .bnd _ _ _,_,⟨v,e,hv⟩=>by rw[e];simp[Value.oneCell']
theorem denL.len:∀{l:List U} {cs:List Value},denL D ρ w l cs->cs.length=widths l
 | [],_,e=>by rw[show _=[] from e];rfl
 | u::l,_,⟨c,d,e,hc,hd⟩=>by rw[e,Yay,hc.len,denL.len hd];rfl
theorem denL.ones:∀{l:List U} {cs:List Value},denL D ρ w l cs->∀v∈cs,v.oneCell'=true
 | [],_,e=>by rw[show _=[] from e];simp
 | u :: l, _, ⟨c, d, e, hc, hd⟩ => by
   rw[e];intro v hv;rcases Ycn.1 hv with h|h
   ·exact hc.ones v h
   ·exact denL.ones hd v h
theorem denL.append:∀{l m:List U} {cs ds:List Value},denL D ρ w l cs->denL D ρ w m ds->denL D ρ w (l++m) (cs++ds)
 | [],m,cs,ds,e,hm=>by rw[show cs=[] from e];exact hm
 | u::l,m,_,ds,⟨c,d,e,hc,hd⟩,hm=>⟨c,d++ds,by rw[e,Ybx],hc,denL.append hd hm⟩
def takeU:List U->Nat->Option (List U)
 | _,0=>some []
 | [],_+1=>none
 | u::l,n+1=>if u.w=0 then none else if u.w<=n+1 then(takeU l (n+1-u.w)).map (u::·) else none
def dropU:List U->Nat->Option (List U)
 | l,0=>some l
 | [],_+1=>none
 | u::l,n+1=>if u.w=0 then none else if u.w<=n+1 then dropU l (n+1-u.w) else none
def subU (l:List U) (off n:Nat):Option (List U):=(dropU l off).bind λm=>takeU m n
def putU (l:List U) (off:Nat) (us:List U):Option (List U):=
 (takeU l off).bind λa=>(dropU l (off+widths us)).map λb=>a++(us++b)
theorem Zem:∀{l:List U} {n:Nat} {m:List U} {cs:List Value},takeU l n=some m->denL D ρ w l cs->denL D ρ w m (cs.take n)∧(cs.take n).length=n
 | l, 0, m, cs, h, hd => by
   have:m=[]:=by cases l<;>(simp only[takeU,Ybp]at h;exact h.symm)
   subst this;exact⟨by simp[denL],Zs⟩
 | [],n+1,m,cs,h,hd=>by simp[takeU]at h
 | u :: l, n + 1, m, cs, h, hd => by
   simp only[takeU]at h;split at h
   ·cases h
   ·rename_i h0
    split at h
    ·rename_i hw
     obtain⟨m',hm,rfl⟩:=Yad.1 h;obtain⟨c,d,rfl,hc,hd'⟩:=hd;have hl:=hc.len;obtain⟨h1,h2⟩:=Zem hm hd';have e:(c++d).take (n+1)=c++d.take (n+1-u.w):=by
      rw[List.take_append,hl,Ycm Zo]
     rw[e];exact⟨⟨c,_,rfl,hc,h1⟩,by rw[Yay,h2,hl];omega⟩
    ·cases h
theorem Zgo:∀{l:List U} {n:Nat} {m:List U} {cs:List Value},dropU l n=some m->denL D ρ w l cs->denL D ρ w m (cs.drop n)∧n<=cs.length
 | l, 0, m, cs, h, hd => by
   have:m=l:=by cases l<;>(simp only[dropU,Ybp]at h;exact h.symm)
   subst this;exact⟨by simpa using hd,Zs⟩
 | [],n+1,m,cs,h,hd=>by simp[dropU]at h
 | u :: l, n + 1, m, cs, h, hd => by
   simp only[dropU]at h;split at h
   ·cases h
   ·split at h
    ·rename_i h0 hw
     obtain⟨c,d,rfl,hc,hd'⟩:=hd;have hl:=hc.len;obtain⟨h1,h2⟩:=Zgo h hd';have e:(c++d).drop (n+1)=d.drop (n+1-u.w):=by
      rw[List.drop_append,hl,Yfi Zo,Ydp]
     rw[e];exact⟨h1,by rw[Yay,hl];omega⟩
    ·cases h
theorem Zf0 {l:List U} {off n:Nat} {m:List U} {cs:List Value} (h:subU l off n=some m) (hd:denL D ρ w l cs):denL D ρ w m ((cs.drop off).take n)∧((cs.drop off).take n).length=n:=by
 unfold subU at h;obtain⟨m',h1,h2⟩:=Ybg.1 h;exact Zem h2 (Zgo h1 hd).1
theorem Zmp {l:List U} {off:Nat} {us m:List U} {cs ps:List Value} (h:putU l off us=some m) (hd:denL D ρ w l cs) (hp:denL D ρ w us ps) :
  denL D ρ w m (cs.take off++ps++cs.drop (off+ps.length))∧off+ps.length<=cs.length:=by
 unfold putU at h;obtain⟨a,h1,h2⟩:=Ybg.1 h;obtain⟨b,h3,rfl⟩:=Yad.1 h2;rw[<-hp.len]at h3;obtain⟨k1,k2⟩:=Zgo h3 hd;exact⟨by rw[Ybx];exact(Zem h1 hd).1.append (hp.append k1),k2⟩
def expU:U->List U
 | .quo q=>[.val (.bool (decide (q.num<0))),.dig q.num.natAbs,.val (.bool false),.dig q.den]
 | u=>[u]
def expL:List U->List U
 | []=>[]
 | u::l=>expU u++expL l
theorem Zij:∀{l:List U} {cs:List Value},denL D ρ w l cs->denL D ρ w (expL l) cs
 | [],cs,h=>h
 | u :: l, _, ⟨c, d, e, hc, hd⟩ => by
   subst e;refine denL.append ?_ (Zij hd);cases u with
   | quo q =>
     obtain⟨v1,v2,rfl,h1,h2⟩:=D.split hc;exact⟨[_],_,rfl,⟨rfl,rfl⟩,[v1],_,rfl,⟨v1,h1,rfl⟩,[_],_,rfl,⟨rfl,rfl⟩,[v2],[],rfl,⟨v2,h2,rfl⟩,rfl⟩
   | _=>exact⟨c,[],(Ydg c).symm,hc,rfl⟩
def subX (l:List U) (off n:Nat):Option (List U):=
 match subU l off n with
 | some m=>some m
 | none=>subU (expL l) off n
def putX (l:List U) (off:Nat) (us:List U):Option (List U):=
 match putU l off us with
 | some m=>some m
 | none=>putU (expL l) off us
theorem Zf1 {l:List U} {off n:Nat} {m:List U} {cs:List Value} (h:subX l off n=some m) (hd:denL D ρ w l cs):denL D ρ w m ((cs.drop off).take n)∧((cs.drop off).take n).length=n:=by
 unfold subX at h;split at h
 ·rename_i m' h'
  cases h;exact Zf0 h' hd
 ·exact Zf0 h (Zij hd)
theorem Zmq {l:List U} {off:Nat} {us m:List U} {cs ps:List Value} (h:putX l off us=some m) (hd:denL D ρ w l cs) (hp:denL D ρ w us ps) :
  denL D ρ w m (cs.take off++ps++cs.drop (off+ps.length))∧off+ps.length<=cs.length:=by
 unfold putX at h;split at h
 ·rename_i m' h'
  cases h;exact Zmp h' hd hp
 ·exact Zmp h (Zij hd) hp
theorem Zdr:∀(vs:List Value),(∀v∈vs,v.oneCell'=true)->denL D ρ w (vs.map .val) vs
 | [],_=>rfl
 | v::r,h=>⟨[v],r,rfl,⟨rfl,h v (Ycl ..)⟩,Zdr r λu hu=>h u (Ybs _ hu)⟩
def realU:U->Option (List Value)
 | .val v=>some [v]
 | .raw _ cs=>some cs
 | .sym z=>some [.int .i64 z]
 | .sml k z=>some [.int k z]
 | .tst b=>some [.bool b]
 | _=>none
def realL:List U->Option (List Value)
 | []=>some []
 | u::l=>(realU u).bind λa=>(realL l).map (a++·)
def realA:SA->Option Value
 | .one (.val v)=>some v
 | .one (.sym z)=>some (.int .i64 z)
 | .one (.sml k z)=>some (.int k z)
 | .one (.tst b)=>some (.bool b)
 | .one _=>none
 | .agg l=>(realL l).map λcs=>.agg cs.toArray
def realAs:List SA->Option (List Value)
 | []=>some []
 | x::l=>(realA x).bind λa=>(realAs l).map (a::·)
def realV:SV->Option Value
 | .a x=>realA x
 | .tup l=>(realAs l).map λvs=>.tuple vs.toArray
 | .no=>none
theorem Zpy:∀{u:U} {a cs:List Value},realU u=some a->denU D ρ w u cs->cs=a
 | .val v,a,cs,h,⟨e,_⟩=>by cases h;exact e
 | .raw _ _,a,cs,h,⟨e,_⟩=>by cases h;exact e
 | .sym _,a,cs,h,e=>by cases h;exact e
 | .sml _ _,a,cs,h,e=>by cases h;exact e
 | .tst _,a,cs,h,e=>by cases h;exact e
theorem Zjp:∀{l:List U} {a cs:List Value},realL l=some a->denL D ρ w l cs->cs=a
 | [],a,cs,h,e=>by cases h;exact e
 | u :: l, a, cs, h, ⟨c, d, e, hc, hd⟩ => by
   unfold realL at h;obtain⟨x,hx,h2⟩:=Ybg.1 h;obtain⟨y,hy,rfl⟩:=Yad.1 h2;rw[e,Zpy hx hc,Zjp hy hd]
theorem Zjq:∀{x:SA} {a v:Value},realA x=some a->denA D ρ w x v->v=a
 | .one (.val u), a, v, h, e => by
   cases h;have:=e.1;simpa using this
 | .one (.sym z), a, v, h, e => by
   cases h;simpa[denA,denU]using e
 | .one (.sml k z), a, v, h, e => by
   cases h;simpa[denA,denU]using e
 | .one (.tst z), a, v, h, e => by
   cases h;simpa[denA,denU]using e
 | .agg l, a, v, h, ⟨cs, e, hl⟩ => by
   unfold realA at h;obtain⟨y,hy,rfl⟩:=Yad.1 h;rw[e,Zjp hy hl]
theorem Zhx:∀{l:List SA} {a vs:List Value},realAs l=some a->denAs D ρ w l vs->vs=a
 | [],a,cs,h,e=>by cases h;exact e
 | x :: l, a, cs, h, ⟨v, r, e, hv, hr⟩ => by
   unfold realAs at h;obtain⟨y,hy,h2⟩:=Ybg.1 h;obtain⟨z,hz,rfl⟩:=Yad.1 h2;rw[e,Zjq hy hv,Zhx hz hr]
theorem Zgp:∀{x:SV} {a v:Value},realV x=some a->denV D ρ w x v->v=a
 | .a x,a,v,h,e=>Zjq h e
 | .tup l, a, v, h, ⟨vs, e, hl⟩ => by
   unfold realV at h;obtain⟨y,hy,rfl⟩:=Yad.1 h;rw[e,Zhx hy hl]
def ncase {α:Type} (n:Nat) (f:Nat->α):α:=
 match n with
 | 0=>f 0
 | k+1=>f (k+1)
theorem Zen {α:Type} (n:Nat) (f:Nat->α):ncase n f=f n:=by cases n<;>rfl
def icase {α:Type} (z:Int) (f:Int->α):α:=
 match z with
 | .ofNat n=>ncase n λm=>f (.ofNat m)
 | .negSucc n=>ncase n λm=>f (.negSucc m)
theorem Zc0 {α:Type} (z:Int) (f:Int->α):icase z f=f z:=by cases z<;>simp only[icase,Zen]
def qcase {α:Type} (q:Rat) (f:Rat->α):α:=icase q.num λn=>ncase q.den λd=>f (mkRat n d)
theorem Zik {α:Type} (q:Rat) (f:Rat->α):qcase q f=f q:=by
 unfold qcase;rw[Zc0,Zen,Rat.mkRat_self]
def ofValA:Value->Option SA
 | .int k z=>icase z λz=>some (.one (.val (.int k z)))
 | .bool true=>some (.one (.val (.bool true)))
 | .bool false=>some (.one (.val (.bool false)))
 | .agg cs=>if cs.toList.all (·.oneCell') then some (.agg (cs.toList.map .val)) else none
 | v=>if v.oneCell' then some (.one (.val v)) else none
def ofVals:List Value->Option (List SA)
 | []=>some []
 | v::r=>(ofValA v).bind λa=>(ofVals r).map (a::·)
def ofVal:Value->Option SV
 | .tuple vs=>(ofVals vs.toList).map .tup
 | v=>(ofValA v).map .a
theorem Zhy {v:Value} {x:SA} (h:ofValA v=some x):denA D ρ w x v:=by
 unfold ofValA at h;split at h
 ·rw[Zc0]at h
  cases h;exact⟨rfl,rfl⟩
 ·cases h
  exact⟨rfl,rfl⟩
 ·cases h
  exact⟨rfl,rfl⟩
 ·rename_i cs
  split at h
  ·rename_i hc
   cases h;exact⟨cs.toList,rfl,Zdr _ λv hv=>Ybn.1 hc v hv⟩
  ·cases h
 ·split at h
  ·rename_i hc
   cases h;exact⟨rfl,hc⟩
  ·cases h
theorem Zhz:∀{vs:List Value} {l:List SA},ofVals vs=some l->denAs D ρ w l vs
 | [],l,h=>by cases h;rfl
 | v :: r, l, h => by
   unfold ofVals at h;obtain⟨a,ha,h2⟩:=Ybg.1 h;obtain⟨m,hm,rfl⟩:=Yad.1 h2;exact⟨v,r,rfl,Zhy ha,Zhz hm⟩
theorem Zjr {v:Value} {x:SV} (h:ofVal v=some x):denV D ρ w x v:=by
 unfold ofVal at h;split at h
 ·rename_i vs
  obtain⟨l,hl,rfl⟩:=Yad.1 h;exact⟨vs.toList,Zs,Zhz hl⟩
 ·obtain⟨l,hl,rfl⟩:=Yad.1 h
  exact Zhy hl
end
end Go.Ex
namespace Go.Mono
open Go.RowKit
def RdF (w:World) (p:Option Addr) (n c:Nat) (f:Nat->Int):Prop:=
 n<=c∧n<=140737488351232∧(0<n->∃b off,p=some ⟨b,off,none⟩∧b<w.heap.size∧(∀i,i<n->w.cell? ⟨b,off+i,none⟩=some (.int .i64 (f i))))
theorem RdF.below {w w':World} {p:Option Addr} {n c:Nat} {f:Nat->Int} (h:RdF w p n c f) (hB:Below w.heap.size w w'):RdF w' p n c f:=by
 obtain⟨h1,h2,h3⟩:=h;refine⟨h1,h2,λhn=>?_⟩;obtain⟨b,off,hp,hb,hc⟩:=h3 hn;exact⟨b,off,hp,Yaf hb hB.size,λi hi=>(hB.cell hb).trans (hc i hi)⟩
end Go.Mono
namespace Go.Proofs.W
open Go.RowKit Go.Mono
theorem Zgv (z lo hi:Int) (B0 B1:Nat) (w:World) (b0:Box w B0 3 #[.int .i64 lo]) (b1:Box w B1 3 #[.int .i64 hi]) (h1:lo<=z) (h2:z<=hi) :
  Calls Tryz.prog 248 #[.int .i64 z,.pointer (some ⟨B0,0,none⟩),.pointer (some ⟨B1,0,none⟩)] w λe w'=>e=.returned (.bool false)∧w'=w:=by
 have c0:=b0.cell;have c1:=b1.cell;have e1:¬(z<lo):=Zo;have e2:¬(hi<z):=Zo;go_enter Tryz.func248,Tryz.ntmps248
 go_wp2
 go_ret
 exact⟨rfl,rfl⟩
theorem Zn2 (n:Nat) (p:Option Addr) (c:Nat) (f:Nat->Int) (g:Nat) (eg:∀args w,(callFunc g args).run Tryz.prog w=.ok (.enter g args) w) (cap:Array Value) (w:World) (h:RdF w p n c f)
  (hf:∀i,i<n->Calls Tryz.prog g (#[.int .i64 (f i)]++cap) w λe w'=>e=.returned (.bool false)∧w'=w) :
  Calls Tryz.prog 255 #[.slice p n c,.func (.func g) #[] cap] w λe w'=>e=.returned (.int .i64 (-1))∧w'=w:=by
 obtain⟨hc1,hn1,hx1⟩:=h;go_enter Tryz.func255,Tryz.ntmps255
 go_wp2
 go_loopw [8] (λa wr=>∃k:Nat,k<=n∧a=.int .i64 (k:Int)∧wr=w) (λa _=>(n-intOf a).toNat)
 case atStart=>exact⟨0,Yat _,rfl,rfl⟩
 case round=>
  obtain⟨k,hk,rfl,rfl⟩:=hrel;by_cases h0:k<n
  ·obtain⟨b,off,rfl,hb,hcell⟩:=hx1 Zo
   have a1:=hcell k Zo;have hfk:=hf k h0;clear hcell hx1 hf;have h0':(k:Int)<n:=Zo;go_wp2
   refine hfk.mono ?_;rintro e w' ⟨rfl,rfl⟩;go_wp2
   go_roundw
   case rel=>refine⟨k+1,Zo,?_⟩;simp
   case measure=>simp[intOf];omega
  ·obtain rfl:k=n:=by omega
   go_wp2
   go_ret
   exact⟨rfl,rfl⟩
theorem Ziv (n:Nat) (p:Option Addr) (c:Nat) (f:Nat->Int) (g:Nat) (eg:∀args w,(callFunc g args).run Tryz.prog w=.ok (.enter g args) w) (cap:Array Value) (w:World) (h:RdF w p n c f)
  (hf:∀i,i<n->Calls Tryz.prog g (#[.int .i64 (f i)]++cap) w λe w'=>e=.returned (.bool false)∧w'=w) :
  Calls Tryz.prog 247 #[.slice p n c,.func (.func g) #[] cap] w λe w'=>e=.returned (.bool false)∧w'=w:=by
 have hi:=Zn2 n p c f g eg cap w h hf;clear h hf;go_enter Tryz.func247,Tryz.ntmps247
 go_wp2_with (go_at_call 255;refine hi.mono ?_;rintro e w' ⟨rfl,rfl⟩)
 go_ret
 exact⟨rfl,rfl⟩
theorem Zds:∀args w,(callFunc 248 args).run Tryz.prog w=.ok (.enter 248 args) w:=Go.Proofs.enters_of Tryz.func248 Zk rfl
theorem Zfh (lo hi:Int) (n:Nat) (p:Option Addr) (c:Nat) (f:Nat->Int) (w:World) (h:RdF w p n c f) (h1:∀i,i<n->lo<=f i∧f i<=hi) :
  Calls Tryz.prog 230 #[.int .i64 lo,.int .i64 hi,.slice p n c] w λe w'=>e=.returned (.bool true)∧Below w.heap.size w w':=by
 have hmf:∀(fn:Fn) (first cap:Array Value) (w:World),(Instr.makeFunc fn first cap).run Tryz.prog w=.ok (.func fn first cap) w:=λ_ _ _ _=>rfl;go_enter Tryz.func230,Tryz.ntmps230
 go_wp2_with fail
 refine Zbi λW hB hs b0 b1=>?_;replace h:=h.below hB;refine(Ziv n p c f _ Zds _ W h λi hi=>?_).mono ?_
 ·exact Zgv _ _ _ _ _ W b0 b1 (h1 i hi).1 (h1 i hi).2
 rintro e W1 ⟨rfl,rfl⟩;go_wp2
 go_ret
 exact⟨rfl,hB⟩
theorem Zd0 (m:Int) (n:Nat) (p:Option Addr) (c:Nat) (f:Nat->Int) (w:World) (h:RdF w p n c f) (hm0:0<=m) (hm1:m<=1000000000) (h1:∀i,i<n->-m<=f i∧f i<=m) :
  Calls Tryz.prog 234 #[.int .i64 m,.slice p n c] w λe w'=>e=.returned (.bool true)∧Below w.heap.size w w':=by
 have hb:=Zfh (-m) m n p c f w h h1;clear h h1;go_enter Tryz.func234,Tryz.ntmps234
 go_wp2_with (go_at_call 230;refine hb.mono ?_;rintro e w' ⟨rfl,hb⟩)
 go_ret
 exact⟨rfl,hb⟩
end Go.Proofs.W
namespace Go.Mono
open Go.RowKit
theorem Box.results2s {P:Program} {w:World} {B B1:Nat} {T T1:TypeId} {cs cs1:Array Value} (b:Box w B T cs) (b1:Box w B1 T1 cs1) {fn:Func} {p p1:Tmp} {ty ty1:TypeId} (h:fn.results = #[.cell p ty,.cell p1 ty1]) (tmps:Array Value) (d d1:TypeDesc)
  (ht:tmps.getD p undef=.pointer (some ⟨B,0,none⟩)) (ht1:tmps.getD p1 undef=.pointer (some ⟨B1,0,none⟩)) (hu:P.underlying ty=some d) (hd:d.isRow=true) (hi:(P.info? ty).map (·.size)=some cs.size)
  (hu1:P.underlying ty1=some d1) (hd1:d1.isRow=true) (hi1:(P.info? ty1).map (·.size)=some cs1.size):(Go.results fn tmps).run P w=.ok (.tuple #[.agg cs,.agg cs1]) w:=by
 have hp':tmps[p]?.getD undef=.pointer (some ⟨B,0,none⟩):=by simpa using ht
 have hp1:tmps[p1]?.getD undef=.pointer (some ⟨B1,0,none⟩):=by simpa using ht1
 have hld:=run_loadVar_row (P:=P) w B T ty cs (0,0) d b.blk hu (by cases d<;>simp_all [TypeDesc.isRow]) hi;have hld1:=run_loadVar_row (P:=P) w B1 T1 ty1 cs1 (0,0) d1 b1.blk hu1 (by cases d1<;>simp_all [TypeDesc.isRow]) hi1;simp[Go.results,h,hp',hp1,asAddr,hld,hld1]
theorem OwnF.lit (w:World) (x:Int):OwnF (w.alloc (.cells #[.int .i64 x] 3)) w.heap.size (.slice (some ⟨w.heap.size,0,none⟩) 1 1) 1 (λ_=>x):=
 ⟨Zs,.inr ⟨w.heap.size,1,#[.int .i64 x],rfl,Yab _,(Box.new _ _ _).blk,Yab _,by simp[maxLen],rfl,rfl⟩⟩
theorem Zdh {X:World} {B R j:Nat} {u:Value} {A:Array Value} (h:∀i,X.cell? ⟨B,i,none⟩=A[i]?) (hne:B≠R):∀i,(X.setCell ⟨R,j,none⟩ u).cell? ⟨B,i,none⟩=A[i]?:=λi=>
 (World.cell?_of_block (a:=⟨B,i,none⟩) (Ydx X ⟨R,j,none⟩ u B hne)).trans (h i)
structure QInv (w wr:World) (T:TypeId) (R n:Nat) (q:Nat->Int) (A0 A1:Array Value):Prop where
 row:RowF wr R n q
 b0:Box wr w.heap.size T A0
 b1:Box wr (w.heap.size+1) T A1
 b2:Box wr (w.heap.size+1+1) T #[.bool false,.slice none 0 0]
 b3:Box wr (w.heap.size+1+1+1) T #[.bool false,.slice none 0 0]
 below:Below w.heap.size w wr
 above:w.heap.size+1+1+1+1<=R
theorem QInv.of_below {w wr w':World} {T:TypeId} {R n:Nat} {q:Nat->Int} {A0 A1:Array Value} (h:QInv w wr T R n q A0 A1) (hb:Below (R+1) wr w'):QInv w w' T R n q A0 A1:=by
 have ha:=h.above;obtain⟨cs,h1,h2⟩:=h.row;exact⟨⟨cs,(hb.block R Zo).trans h1,h2⟩,h.b0.low hb Zo,h.b1.low hb Zo,h.b2.low hb Zo,h.b3.low hb Zo,h.below.trans (hb.mono Zo),ha⟩
theorem QInv.set {w wr:World} {T:TypeId} {R n:Nat} {q:Nat->Int} {A0 A1:Array Value} (h:QInv w wr T R n q A0 A1) (j:Nat) (x:Int):QInv w (wr.setCell ⟨R,j,none⟩ (.int .i64 x)) T R n (λi=>if i=j then x else q i) A0 A1:=by
 have ha:=h.above;exact⟨h.row.set j x,h.b0.other _ _ (by show w.heap.size≠R;omega),h.b1.other _ _ (by show w.heap.size+1≠R;omega),h.b2.other _ _ (by show w.heap.size+1+1≠R;omega),h.b3.other _ _ (by show w.heap.size+1+1+1≠R;omega),Zai h.below Zo _ _,ha⟩
end Go.Mono
namespace Go.Proofs.W
open Go.RowKit Go.Mono
theorem Zhp (s t:Bool) (p q:Option Addr) (n m c1 c2:Nat) (f g:Nat->Int) (w:World) (h1:SlF w (.slice p n c1) n f) (h2:SlF w (.slice q (m+1) c2) (m+1) g) (d1:Digs f n) (d2:Digs g (m+1)) (hn6:n<=100000) (hm6:m<=100000) :
  Calls Tryz.prog 187 #[.agg #[.bool s,.slice p n c1],.agg #[.bool t,.slice q (m+1) c2]] w λe w'=>∃p1 k1 c1 h1 p2 k2 c2 h2,e=.returned (.tuple #[.agg #[.bool ((s != t)&&decide (0<vf f n/vf g (m+1))),.slice p1 k1 c1],.agg #[.bool (s&&decide (0<vf f n%vf g (m+1))),.slice p2 k2 c2]])∧
   SlF w' (.slice p1 k1 c1) k1 h1∧Digs h1 k1∧vf h1 k1=vf f n/vf g (m+1)∧k1<=n∧SlF w' (.slice p2 k2 c2) k2 h2∧Digs h2 k2∧vf h2 k2=vf f n%vf g (m+1)∧k2<=m+1∧Below w.heap.size w w':=by
 obtain⟨hc1,hn1,hx1⟩:=h1.opens;obtain⟨hc2,hn2,hx2⟩:=h2.opens;have hB1:0<vf g (m+1):=d2.pos.2 Zo;obtain⟨s1,hs1⟩:∃sg:Bool,((s != t)&&decide (0<vf f n/vf g (m+1)))=sg:=⟨_,rfl⟩
 obtain⟨s2,hs2⟩:∃sg:Bool,(s&&decide (0<vf f n%vf g (m+1)))=sg:=⟨_,rfl⟩
 rw[hs1,hs2];replace hs1:=Yah hs1;replace hs2:=Yah hs2;go_enter Tryz.func187,Tryz.ntmps187
 go_wp2_with (first
  | (at_make;refine Za5 _ rfl _ _ 33 rfl Tryz.underlying33 Zbz _ _ n rfl rfl Zs Zs Zo ?_;intro W1 r1 hb1;have q0:=((((Box.new w 52 #[.bool s,.slice p n c1]).alloc (.cells #[.bool t,.slice q (m+1) c2] 52)).alloc (.cells #[.bool false,.slice none 0 0] 52)).alloc (.cells #[.bool false,.slice none 0 0] 52)).below hb1;have cq0:=q0.cell))
 have hR:((((w.alloc (.cells #[.bool s,.slice p n c1] 52)).alloc (.cells #[.bool t,.slice q (m+1) c2] 52)).alloc (.cells #[.bool false,.slice none 0 0] 52)).alloc (.cells #[.bool false,.slice none 0 0] 52)).heap.size=w.heap.size+1+1+1+1:=Zs;rw[hR]at r1;have hB:=Zaa (Zad (Zcp w (.cells #[.bool s,.slice p n c1] 52) (.cells #[.bool t,.slice q (m+1) c2] 52) (.cells #[.bool false,.slice none 0 0] 52)) (.cells #[.bool false,.slice none 0 0] 52)) hb1;have hI0:QInv w W1 52 (w.heap.size+1+1+1+1) n (λ_=>0) #[.bool s,.slice p n c1] #[.bool t,.slice q (m+1) c2]:=by
  have b1:=Box.new (w.alloc (.cells #[.bool s,.slice p n c1] 52)) 52 #[.bool t,.slice q (m+1) c2];have b3:=Box.new (((w.alloc (.cells #[.bool s,.slice p n c1] 52)).alloc (.cells #[.bool t,.slice q (m+1) c2] 52)).alloc (.cells #[.bool false,.slice none 0 0] 52)) 52 #[.bool false,.slice none 0 0];simp only[Yav]at b1 b3;exact⟨r1,q0,((b1.alloc _).alloc _).below hb1,((Zgb w _ _ _ _ _ _).alloc _).below hb1,b3.below hb1,hB,Yab _⟩
 have hs0:=hI0.row.lt;clear hb1 hB hR r1 q0 cq0;go_loopw [7,8] (λv x wr=>∃(i r:Nat) (h qf:Nat->Int) (R:Int),i<=n∧x=.int .i64 ((i:Int)-1)∧OwnF wr (w.heap.size+1+1+1+1+1) v r h∧Digs h r∧vf h r=R∧ParI f n (vf g (m+1)) i qf R∧QInv w wr 52 (w.heap.size+1+1+1+1) n qf #[.bool s,.slice p n c1] #[.bool t,.slice q (m+1) c2]∧w.heap.size+1+1+1+1+1<=wr.heap.size) (λ_ x _=>(intOf x+1).toNat)
 case atStart=>exact⟨n,0,λ_=>0,_,0,Yab _,rfl,OwnF.nil _ _ _,⟨λi hi=>Zo,λi hi=>Zo,λh=>Zo⟩,rfl,ParI.start _ _ _ hB1,hI0,Zo⟩
 case round=>
  clear hI0 hs0;obtain⟨i,r,h,qf,R,hi,rfl,ho,d3,hv,hP,hI,hsz⟩:=hrel;obtain⟨pr,cr,rfl⟩:=ho.shape;have b0:=hI.b0;have cb0:=b0.cell;have lb0:=b0.lt;have fb0:=b0.frozen;by_cases hi0:0<i
  ·obtain⟨i,rfl⟩:∃j,i=j+1:=⟨i-1,Zo⟩
   rw[show((i+1:Nat):Int)-1=(i:Int) by omega];obtain⟨b,off,rfl,hb,hcell⟩:=hx1 Zo;have ai:=(hI.below.cell (p:=⟨b,off+i,none⟩) hb).trans (hcell i Zo);have hin:(i:Int)<n:=Zo;have f0:=d1.lo i Zo;have f9:=d1.hi i Zo;have hr6:r<=m+1:=d3.len_le d2 (by have:=hP.r1;omega);generalize hfi:f i=x at *;clear hcell;go_wp2_with (at_builtin;(refine Zbb _ rfl _ _ 33 rfl Tryz.underlying33 Zbz wr.heap.size (.slice (some ⟨wr.heap.size,0,none⟩) 1 1) 1 (λ_=>x) rfl (OwnF.lit wr x) pr r cr h rfl ?_ ?_ ?_ ?_);(exact(ho.sl Zo).ext ((Ext.refl _).alloc _));omega;(simp);(intro v' w1 ho' hg))
   obtain⟨p',c',rfl⟩:=ho'.shape;have hz:Below wr.heap.size wr w1:=((Yae wr.heap.size wr).alloc (Yab _) (.cells #[.int .i64 x] 3)).grown hg Zs (λk hk=>(OwnF.lit wr x).low k hk);have hnext:SlF w1 (.slice p' (r+1) c') (r+1) (shl x h):=by
    have e:OwnF w1 wr.heap.size (.slice p' (1+r) c') (1+r) (shl x h):=ho'.congr λj hj=>by
     unfold shl;by_cases h0:j=0
     ·rw[if_pos Zo,if_pos h0]
     ·rw[if_neg Zo,if_neg h0]
    rw[Yfb]at e;exact e.sl Zo
   rw[Yfb 1 r];have hmade:=λ(X:World) (hX:Ext w1 X)=>Zbp false p' (r+1) c' (shl x h) X (hnext.ext hX) Zo (λj hj=>by
    unfold shl;split
    ·exact f0
    ·exact d3.lo _ Zo) (λj hj=>by
    unfold shl;split
    ·exact f9
    ·exact d3.hi _ Zo)
   have hIz:=hI.of_below (hz.mono Zo);clear cb0 lb0 fb0 b0 ai ho hg ho';have b1:=hIz.b1;have cb1:=b1.cell;have lb1:=b1.lt;have fb1:=b1.frozen;go_wp2
   refine wp_region_held_drew (S:=λw'=>(∀i,w'.cell? ⟨w.heap.size+1,i,none⟩=(#[.bool t,.slice q (m+1) c2]:Array Value)[i]?)∧Below w.heap.size w w') Zx ⟨cb1,hIz.below.drew⟩ (λhHeld=>?_);have hz0:=hz.drew;have hx0:Ext w1 w1.drew:=(Ext.refl _).drew;have hsz0:wr.heap.size<=w1.drew.heap.size:=hz.size;generalize w1.drew=X0 at *;refine tk 0 (some 31) ?_;refine tk 1 (some 32) ?_;refine tk 2 (some 33) ?_;refine tk 5 (some 36) ?_;refine tk 6 (some 37) ?_;have hIX:=hI.of_below (hz0.mono Zo);refine Mono.stc 3 (some 34) (hmade X0 hx0) (λe X1 hR=>?_);obtain⟨v2,rfl,ho2,d4,e4,hb4⟩:=hR;refine⟨(⟨(hIX.b1.below hb4).cell,Zaa hHeld.2 hb4⟩),λhHeld=>Mono.pt ?_⟩;obtain⟨p2,c2',rfl⟩:=ho2.shape;refine tl 4 (some 35) rfl (.slice p2 (trimN (shl x h) (r+1)) c2') (λw _=>Zx) ?_;have hz1:=Zaa hz0 hb4;have hP0:=hP.r0;have hP1:=hP.r1;have hvs:vf (shl x h) (trimN (shl x h) (r+1))=x+1000000000*R:=by rw[e4,Zw8,hv]
   have htk:=Zot wr.heap.size (.slice p2 (trimN (shl x h) (r+1)) c2') (trimN (shl x h) (r+1)) (shl x h) q m c2 g wr X1 (ho2.lower hsz0) (Yab _) (Yak hsz0 hb4.size) hz1 (h2.ext (.of_below hI.below)) d4 d2 hm6 (by rw[hvs];omega);rw[hvs]at htk;refine Mono.stc 7 (some 38) (htk) (λe X2 hR=>?_);obtain⟨v3,n3,f3,k3,rfl,ho3,d5,e5,hk3,hb5,hs5⟩:=hR;refine⟨(⟨(hI.of_below (hb5.mono Zo)).b1.cell,(hI.of_below (hb5.mono Zo)).below⟩),λhHeld=>Mono.pt ?_⟩;replace hk3:=Yah hk3;refine tk 8 (some 30) ?_;refine tk 9 (some 39) ?_;refine tk 10 (some 40) ?_;refine tk 11 (some 7) ?_;refine tk 12 (some 41) ?_;have hI3:=hI.of_below (hb5.mono Zo);have hI4:=hI3.set i k3;have a5:=hI3.row.cell i Zo;have a6:=hI3.row.frozen i;refine Mono.st 13 ?_;intro K hK;go_simp
   refine kp hK (⟨hI4.b1.cell,hI4.below⟩) (λhHeld=>?_);clear hK K;refine wpAnyH_done Zx ?_ _;have hk30:0<=k3:=by rw[hk3.out];exact Ydq Zo Zo
   have hk39:k3<1000000000:=by rw[hk3.out];exact Int.ediv_lt_of_lt_mul hB1 (by rw[Ydh];omega)
   have hdiv:=Int.emod_add_mul_ediv (x+1000000000*R) (vf g (m+1));have hr0:=Ycc (x+1000000000*R) (by omega:vf g (m+1)≠0);have hr1:=Ybu (x+1000000000*R) hB1;rw[<-hk3.out]at hdiv;have hPn:=hP.next Zo hk30 hk39 hr0 hr1 (by rw[hfi,Ydh k3];omega);have ho5:=ho3.lower hsz;have hs6:w.heap.size+1+1+1+1+1<=X2.heap.size:=Zo;have ho6:=ho5.set ⟨w.heap.size+1+1+1+1,i,none⟩ (.int .i64 k3) (by show w.heap.size+1+1+1+1<_;omega);clear hHeld htk hmade hnext hIX hIz hI3 ho3 ho2 hb5 hb4 cb1 fb1 lb1 b1 a5 a6 hz hz0 hz1 hx0;go_wp2
   go_roundw
   case rel=>
    exact⟨i,n3,f3,_,_,Zo,Zs,ho6,d5,e5,hPn,hI4,by simpa using hs6⟩
   case measure=>simp[intOf]
  ·obtain rfl:i=0:=by omega
   obtain⟨hq,hR⟩:=hP.done;have hlo:=λj (hj:j<n)=>hP.lo j (Yat _) hj;have hhi:=λj (hj:j<n)=>hP.hi j (Yat _) hj;have hr6:r<=m+1:=d3.len_le d2 (by have:=hP.r1;omega);have hm1:=λ(X:World) (hX:Ext wr X)=>Zbp (s != t) (some ⟨w.heap.size+1+1+1+1,0,none⟩) n n qf X ((hI.row.slice Zo n (Yab _) n (Yab _)).ext hX) Zo hlo hhi;have hm2:=λ(X:World) (hX:Ext wr X)=>Zbp s pr r cr h X ((ho.sl Zo).ext hX) Zo d3.lo d3.hi;rw[hq,hs1.out]at hm1;rw[hv,hR,hs2.out]at hm2;have b1:=hI.b1;have cb1:=b1.cell;have lb1:=b1.lt;have fb1:=b1.frozen;clear hx1 hx2 hP;go_wp2_with fail
   refine wp_region_held_drew (S:=λw'=>(∀i,w'.cell? ⟨w.heap.size,i,none⟩=(#[.bool s,.slice p n c1]:Array Value)[i]?)∧(∀i,w'.cell? ⟨w.heap.size+1,i,none⟩=(#[.bool t,.slice q (m+1) c2]:Array Value)[i]?)∧Below w.heap.size w w') Zx ⟨cb0,cb1,hI.below.drew⟩ (λhHeld=>?_);have hx0:Ext wr wr.drew:=(Ext.refl _).drew;have hI0:QInv w wr.drew 52 (w.heap.size+1+1+1+1) n qf #[.bool s,.slice p n c1] #[.bool t,.slice q (m+1) c2]:=hI.of_below (Yae _ _).drew;have hsz0:w.heap.size+1+1+1+1+1<=wr.drew.heap.size:=hsz;generalize wr.drew=X0 at *;refine tk 0 (some 42) ?_;refine tk 1 (some 43) ?_;refine tk 2 (some 44) ?_;refine tk 3 (some 45) ?_;refine tk 4 (some 46) ?_;refine tk 5 (some 47) ?_;refine tk 7 (some 49) ?_;refine tk 8 (some 50) ?_;refine tk 9 (some 51) ?_;refine Mono.stc 6 (some 48) (hm1 X0 hx0) (λe X1 hR=>?_);obtain⟨v1,rfl,ho1,hd1,g1,hb4⟩:=hR;refine⟨(⟨(hI0.b0.below hb4).cell,(hI0.b1.below hb4).cell,Zaa hHeld.2.2 hb4⟩),λhHeld=>Mono.pt ?_⟩;have hI1:=hI0.of_below (hb4.mono Zo);refine Mono.stc 10 (some 52) (hm2 X1 (hx0.below hb4)) (λe X2 hR=>?_);obtain⟨v2,rfl,ho2,hd2,g2,hb5⟩:=hR;refine⟨(⟨(hI1.b0.below hb5).cell,(hI1.b1.below hb5).cell,Zaa hHeld.2.2 hb5⟩),λhHeld=>Mono.pt ?_⟩;have hsz1:=hb4.size;have hI2:=hI1.of_below (hb5.mono Zo);obtain⟨p1,c1',rfl⟩:=ho1.shape;obtain⟨p2,c2',rfl⟩:=ho2.shape;have l1:=ho1.sl (by have:=Za7 qf n;omega);have l2:=ho2.sl (by have:=Za7 h r;omega);have l1':=l1.ext (.of_below hb5);have b2:=hI2.b2;have b3:=hI2.b3;have hBb:=hI2.below;clear hm1 hm2 hx0 hI0 hI1 hI hb4 hb5 ho1 ho2 l1 b0 b1 cb0 cb1 lb0 lb1 fb0 fb1 ho;refine Zb4 (w.heap.size+1+1) 52 11 rfl rfl rfl rfl 0 #[.bool s1,.slice p1 (trimN qf n) c1'] #[.bool false,.slice none 0 0] #[.bool s1,.slice p1 (trimN qf n) c1'] Zx (λX i u h=>⟨Zdh h.1 Zo,Zdh h.2.1 Zo,Zai h.2.2 Zo _ _⟩) Zx Zx b2 hHeld Zae (Yaa rfl) (Zas _ _ _ _) (Zah rfl) (λY1 hk1 r2 hHeld=>?_);have b3':=hk1.box b3 b3.lt Zo;refine Zb4 (w.heap.size+1+1+1) 52 12 rfl rfl rfl rfl 0 #[.bool s2,.slice p2 (trimN h r) c2'] #[.bool false,.slice none 0 0] #[.bool s2,.slice p2 (trimN h r) c2'] Zx (λX i u h=>⟨Zdh h.1 Zo,Zdh h.2.1 Zo,Zai h.2.2 Zo _ _⟩) Zx Zx b3' hHeld Zae (Yaa rfl) (Zas _ _ _ _) (Zah rfl) (λY2 hk2 r3 hHeld=>?_);have r2':=hk2.box r2 r2.lt Zo;have e1:=hk1.ext b2 Zd;have e2:=hk2.ext b3' Zd;have hBe:=hHeld.2.2;refine wpAnyH_done Zx ?_ _;clear hHeld hk1 hk2 b2 b3 b3' r2 hI2;go_wp2
   refine bodyPost_ret (r2'.results2s r3 rfl _ _ _ rfl rfl Tryz.underlying52 rfl Zae Tryz.underlying52 rfl Zae) rfl ?_;exact⟨p1,_,c1',qf,p2,_,c2',rfl,(l1'.ext e1).ext e2,hd1,g1,Za7 qf n,h,(l2.ext e1).ext e2,hd2,g2,by have:=Za7 h r;omega,hBe⟩
end Go.Proofs.W
