/- Contracts of package matrix,and a verified evaluator. Part 3 of 27. No condition beside the row. -/
import Derived.Test.YtgkmjekkefmejaaGreatDoorA01
import Derived.Test.YtgkmjekkefmejaaGreatDoorA02
set_option linter.unusedVariables false
set_option linter.unusedSimpArgs false
set_option maxRecDepth 100000
set_option maxHeartbeats 4000000
namespace Go.Mono
open Go.RowKit
theorem Zsp {f:Nat->Int} {k:Nat} (h0:∀i,i<k->0<=f i) (h1:∀i,i<k->f i<1000000000):(0<trimN f k)↔0<vf f k:=by
 obtain⟨a,b⟩:=Zb5 h0 h1;rw[<-b];exact a.pos.symm
theorem Zp1 {f:Nat->Int} {k:Nat} (h:¬(0<k∧f (k-1)=0)):trimN f k=k:=by
 by_cases hk:0<k
 ·exact Znq f k hk (λe=>h ⟨hk,e⟩)
 ·obtain rfl:k=0:=by omega
  rfl
end Go.Mono
namespace Go.Proofs.W
open Go.RowKit Go.Mono
theorem Zae:(Tryz.prog.info? 45).map (·.size)=some 2:=Zk
theorem Zm4 (neg nb:Bool) (p:Option Addr) (n c K:Nat) (f:Nat->Int) (w:World) (h:SlF w (.slice p n c) n f) (hn6:n<=1000000) (hK:Hid (trimN f n=K)) (hN:Hid ((neg&&decide (0<K))=nb)) :
  Calls Tryz.prog 258 #[.bool neg,.slice p n c] w λe w'=>∃v,e=.returned (.agg #[.bool nb,v])∧OwnF w' w.heap.size v K f∧Below w.heap.size w w':=by
 obtain⟨hc,hn,hx⟩:=h.opens;have hsl:=h;clear h;go_enter Tryz.func258,Tryz.ntmps258
 go_wp2_with fail
 refine Zb3 λW hB hs b0=>?_;go_loopw [5] (λa wr=>∃k:Nat,k<=n∧a=.int .i64 (k:Int)∧trimN f k=trimN f n∧wr=W) (λa _=>(intOf a).toNat)
 case atStart=>exact⟨n,Yab _,rfl,rfl,rfl⟩
 case round=>
  obtain⟨k,hk,rfl,ht,hWe⟩:=hrel;obtain rfl:W=wr:=hWe.symm;have HT:=Yah ht;clear ht;by_cases h0:0<k∧f (k-1)=0
  ·obtain⟨hk0,hz⟩:=h0
   obtain⟨b,off,rfl,hb,hcell⟩:=hx Zo;have hcl:=(hB.cell (p:=⟨b,off+(k-1),none⟩) hb).trans (hcell (k-1) Zo);rw[hz]at hcl;obtain⟨k,rfl⟩:∃j,k=j+1:=⟨k-1,Zo⟩
   have hz':=Zid f (k+1) hk0 hz;simp only[Ybf]at hcl hz';replace hz':=Yah hz';replace hz:=Yah hz;clear hcell hx;go_wp2
   go_roundw
   case rel=>exact⟨k,Zo,Zs,by rw[<-hz'.out];exact HT.out,trivial⟩
   case measure=>simp[intOf]
  ·have hk':=Zp1 h0
   obtain rfl:k=K:=by rw[<-hK.out,<-HT.out,hk']
   clear hK hk' HT;have hw0:=hB.size;by_cases hk0:0<k
   ·have hz:¬f (k-1)=0:=λe=>h0 ⟨hk0,e⟩
    obtain⟨b,off,rfl,hb,hcell⟩:=hx Zo;have hcl:=(hB.cell (p:=⟨b,off+(k-1),none⟩) hb).trans (hcell (k-1) Zo);obtain⟨k,rfl⟩:∃j,k=j+1:=⟨k-1,Zo⟩
    simp only[Ybf]at hcl hz;have hz2:(f k==0)=false:=by simpa using hz
    replace hz:=Yah hz;clear h0;cases neg;all_goals
     go_wp2
     go_loopw [7] (λa W2=>∃(i:Nat) (v:Value),i<=k+1∧a=.int .i64 (i:Int)∧OwnF W2 (W.heap.size+1) v i f∧Box W2 W.heap.size 45 #[.bool nb,v]∧Box W2 w.heap.size 45 #[.bool false,.slice none 0 0]∧Below w.heap.size w W2∧W.heap.size+1<=W2.heap.size) (λa _=>(k+1-intOf a).toNat)
     case atStart=>exact⟨0,_,Yat _,rfl,OwnF.nil _ _ _,by rw[<-hN.out];exact Box.new _ _ _,b0.alloc _,Zad hB _,Zs⟩
     case round=>
      obtain⟨i,v,hi,rfl,ho,b1,b2,hB2,hs2⟩:=hrel;by_cases hik:i<k+1
      ·have hci:=(hB2.cell (p:=⟨b,off+i,none⟩) hb).trans (hcell i Zo)
       have hik':(i:Int)<k+1:=Zo;obtain⟨pv,cv,rfl⟩:=ho.shape;have hin:i<n:=Zo;have hin':(i:Int)<n:=Zo;have bX1:=b1.drew;have bX2:=b2.drew;have hoX:=ho.below (Yae wr.heap.size wr).drew;have hBX:=hB2.drew;have hX1:wr.drew.cell? ⟨W.heap.size,1,none⟩=some (.slice pv i cv):=bX1.cell 1;have hX2:wr.drew.cell? ⟨b,off+i,none⟩=some (.int .i64 (f i)):=hci;have hsX:W.heap.size+1<=wr.drew.heap.size:=hs2;clear hcell hx hcl b1 b2 ho hci;go_wp2_with fail
       refine wp_region_held_drew (S:=λw'=>Below w.heap.size w w') Zx hBX (λhHeld=>?_);generalize wr.drew=X0 at *;refine tk 0 (some 33) ?_;refine tk 2 (some 35) ?_;refine tk 3 (some 36) ?_;refine tk 4 (some 37) ?_;refine Mono.fork2 1 5 ?_ ?_
       ·intro K hK
        refine Mono.arma (some 34) hK (.slice pv i cv) X0 hHeld (λhHeld=>Mono.pt ?_) rfl Zx (by go_simp);clear hK K;refine Mono.sta 5 (some 38) (.int .i64 (f i)) X0 hHeld (λhHeld=>Mono.pt ?_) rfl rfl Zx Zx (by go_simp);refine Mono.sta 6 (some 39) (.slice (some ⟨X0.heap.size,0,none⟩) 1 1) (X0.alloc (.cells #[.int .i64 (f i)] 3)) (Zad hHeld _) (λhHeld=>Mono.pt ?_);refine Mono.st 7 ?_;intro K hK;rw[if_pos Zx];refine Zd9 (.tmp 34) (.tmp 39) 43 rfl Tryz.underlying43 Zby (W.heap.size+1) (.slice pv i cv) i f rfl (hoX.below (Zad (Yae _ _) _)) X0.heap.size (f i) rfl (Box.new _ _ _) Zo (by simp;omega) ?_;intro v' X1 ho' hg;have hz:Below (W.heap.size+1) X0 X1:=((Yae (W.heap.size+1) X0).alloc hsX _).grown hg (by simp;omega) (λk hk=>hoX.low k hk);obtain⟨p',c',rfl⟩:=ho'.shape;have b1':=bX1.low hz Zo;have b2':=bX2.low hz Zo;have hB1:=hBX.trans (hz.mono Zo);have hs1:=hz.size;refine hK.out _ _ hB1 (λhHeld=>Mono.pt ?_);clear hK K hg hz bX1 bX2 hoX hBX hX1 hX2;refine tk 8 (some 41) ?_;have cb1:=b1'.cell;have fb1:=b1'.frozen;have lb1:=b1'.lt;refine Mono.st 9 ?_;intro K hK;go_simp
        refine kp hK (Zaf hB1 Zo _ _) (λhHeld=>?_);clear hK K;refine wpAnyH_done Zx ?_ _;go_wp2
        go_roundw
        case rel=>
         refine⟨i+1,_,Zo,Zs,?_,b1'.set 1 _,b2'.other _ _ (by show w.heap.size≠W.heap.size;omega),hHeld,by simp;omega⟩;refine OwnF.congr (ho'.set _ _ (by show W.heap.size<_;omega)) λj hj=>?_;by_cases hji:j<i
         ·rw[if_pos hji]
         ·rw[if_neg hji]
          congr 1;omega
        case measure=>simp[intOf];omega
       ·intro K hK
        refine Mono.arma (some 38) hK (.int .i64 (f i)) X0 hHeld (λhHeld=>Mono.pt ?_) rfl Zx (by go_simp);clear hK K;refine Mono.fork2 1 6 ?_ ?_
        ·intro K hK
         refine Mono.arma (some 34) hK (.slice pv i cv) X0 hHeld (λhHeld=>Mono.pt ?_) rfl Zx (by go_simp);clear hK K;refine Mono.sta 6 (some 39) (.slice (some ⟨X0.heap.size,0,none⟩) 1 1) (X0.alloc (.cells #[.int .i64 (f i)] 3)) (Zad hHeld _) (λhHeld=>Mono.pt ?_);refine Mono.st 7 ?_;intro K hK;rw[if_pos Zx];refine Zd9 (.tmp 34) (.tmp 39) 43 rfl Tryz.underlying43 Zby (W.heap.size+1) (.slice pv i cv) i f rfl (hoX.below (Zad (Yae _ _) _)) X0.heap.size (f i) rfl (Box.new _ _ _) Zo (by simp;omega) ?_;intro v' X1 ho' hg;have hz:Below (W.heap.size+1) X0 X1:=((Yae (W.heap.size+1) X0).alloc hsX _).grown hg (by simp;omega) (λk hk=>hoX.low k hk);obtain⟨p',c',rfl⟩:=ho'.shape;have b1':=bX1.low hz Zo;have b2':=bX2.low hz Zo;have hB1:=hBX.trans (hz.mono Zo);have hs1:=hz.size;refine hK.out _ _ hB1 (λhHeld=>Mono.pt ?_);clear hK K hg hz bX1 bX2 hoX hBX hX1 hX2;refine tk 8 (some 41) ?_;have cb1:=b1'.cell;have fb1:=b1'.frozen;have lb1:=b1'.lt;refine Mono.st 9 ?_;intro K hK;go_simp
         refine kp hK (Zaf hB1 Zo _ _) (λhHeld=>?_);clear hK K;refine wpAnyH_done Zx ?_ _;go_wp2
         go_roundw
         case rel=>
          refine⟨i+1,_,Zo,Zs,?_,b1'.set 1 _,b2'.other _ _ (by show w.heap.size≠W.heap.size;omega),hHeld,by simp;omega⟩;refine OwnF.congr (ho'.set _ _ (by show W.heap.size<_;omega)) λj hj=>?_;by_cases hji:j<i
          ·rw[if_pos hji]
          ·rw[if_neg hji]
           congr 1;omega
         case measure=>simp[intOf];omega
        ·intro K hK
         have hX1':(X0.alloc (.cells #[.int .i64 (f i)] 3)).cell? ⟨W.heap.size,1,none⟩=some (.slice pv i cv):=(bX1.alloc _).cell 1;refine Mono.arma (some 39) hK (.slice (some ⟨X0.heap.size,0,none⟩) 1 1) (X0.alloc (.cells #[.int .i64 (f i)] 3)) (Zad hHeld _) (λhHeld=>Mono.pt ?_);clear hK K;refine Mono.sta 1 (some 34) (.slice pv i cv) (X0.alloc (.cells #[.int .i64 (f i)] 3)) hHeld (λhHeld=>Mono.pt ?_) rfl rfl Zx Zx (by go_simp);refine Mono.st 7 ?_;intro K hK;rw[if_pos Zx];refine Zd9 (.tmp 34) (.tmp 39) 43 rfl Tryz.underlying43 Zby (W.heap.size+1) (.slice pv i cv) i f rfl (hoX.below (Zad (Yae _ _) _)) X0.heap.size (f i) rfl (Box.new _ _ _) Zo (by simp;omega) ?_;intro v' X1 ho' hg;have hz:Below (W.heap.size+1) X0 X1:=((Yae (W.heap.size+1) X0).alloc hsX _).grown hg (by simp;omega) (λk hk=>hoX.low k hk);obtain⟨p',c',rfl⟩:=ho'.shape;have b1':=bX1.low hz Zo;have b2':=bX2.low hz Zo;have hB1:=hBX.trans (hz.mono Zo);have hs1:=hz.size;refine hK.out _ _ hB1 (λhHeld=>Mono.pt ?_);clear hK K hg hz bX1 bX2 hoX hBX hX1 hX2;refine tk 8 (some 41) ?_;have cb1:=b1'.cell;have fb1:=b1'.frozen;have lb1:=b1'.lt;refine Mono.st 9 ?_;intro K hK;go_simp
         refine kp hK (Zaf hB1 Zo _ _) (λhHeld=>?_);clear hK K;refine wpAnyH_done Zx ?_ _;go_wp2
         go_roundw
         case rel=>
          refine⟨i+1,_,Zo,Zs,?_,b1'.set 1 _,b2'.other _ _ (by show w.heap.size≠W.heap.size;omega),hHeld,by simp;omega⟩;refine OwnF.congr (ho'.set _ _ (by show W.heap.size<_;omega)) λj hj=>?_;by_cases hji:j<i
          ·rw[if_pos hji]
          ·rw[if_neg hji]
           congr 1;omega
         case measure=>simp[intOf];omega
      ·obtain rfl:i=k+1:=by omega
       obtain⟨pv,cv,rfl⟩:=ho.shape;have hlong:=Zae;have cb1:=b1.cell;have lb1:=b1.lt;have fb1:=b1.frozen;have cb2:=b2.cell;have lb2:=b2.lt;have fb2:=b2.frozen;clear hcell hx hcl;go_wp2
       have b4:=(b2.set 0 (.bool nb)).set 1 (.slice pv (k+1) cv);refine bodyPost_ret (b4.results rfl _ _ rfl Tryz.underlying45 rfl Zae) rfl ⟨.slice pv (k+1) cv,rfl,?_,Zaf (Zaf hB2 (Yab _) _ _) (Yab _) _ _⟩;exact((ho.set _ _ (by show w.heap.size<_;omega)).set _ _ (by show w.heap.size<_;omega)).lower Zo
   ·obtain rfl:k=0:=by omega
    cases neg;all_goals
     go_wp2
     go_loopw [7] (λa W2=>a=.int .i64 0∧Box W2 W.heap.size 45 #[.bool nb,.slice none 0 0]∧Box W2 w.heap.size 45 #[.bool false,.slice none 0 0]∧Below w.heap.size w W2) (λa _=>0)
     case atStart=>exact⟨rfl,by rw[<-hN.out];exact Box.new _ _ _,b0.alloc _,Zad hB _⟩
     case round=>
      obtain⟨rfl,b1,b2,hB2⟩:=hrel;have cb1:=b1.cell;have lb1:=b1.lt;have fb1:=b1.frozen;have cb2:=b2.cell;have lb2:=b2.lt;have fb2:=b2.frozen;clear hx;go_wp2
      have b4:=(b2.set 0 (.bool nb)).set 1 (.slice none 0 0);refine bodyPost_ret (b4.results rfl _ _ rfl Tryz.underlying45 rfl Zae) rfl ⟨.slice none 0 0,rfl,OwnF.nil _ _ _,Zaf (Zaf hB2 (Yab _) _ _) (Yab _) _ _⟩
theorem Zbm (neg:Bool) (p:Option Addr) (n c:Nat) (f:Nat->Int) (w:World) (h:SlF w (.slice p n c) n f) (hn6:n<=1000000) (f0:∀i,i<n->0<=f i) (f1:∀i,i<n->f i<1000000000) :
  Calls Tryz.prog 258 #[.bool neg,.slice p n c] w λe w'=>∃v,e=.returned (.agg #[.bool (neg&&decide (0<vf f n)),v])∧OwnF w' w.heap.size v (trimN f n) f∧Digs f (trimN f n)∧vf f (trimN f n)=vf f n∧Below w.heap.size w w':=by
 obtain⟨d1,d2⟩:=Zb5 f0 f1;have hp:=Zsp f0 f1;refine(Zm4 neg (neg&&decide (0<vf f n)) p n c (trimN f n) f w h hn6 (Yah rfl) (Yah (by simp only[hp]))).mono ?_;rintro e w' ⟨v,rfl,ho,hb⟩;exact⟨v,rfl,ho,d1,d2,hb⟩
theorem Zp2 (p q:Option Addr) (n m c1 c2:Nat) (f g:Nat->Int) (w:World) (h1:SlF w (.slice p n c1) n f) (h2:SlF w (.slice q m c2) m g) :
  Calls Tryz.prog 260 #[.slice p n c1,.slice q m c2] w λe w'=>e=.returned (.bool (decide (cmpV f n g m<0)))∧∃k,w'=w.drewN k:=by
 obtain⟨hc1,hn1,hx1⟩:=h1.opens;obtain⟨hc2,hn2,hx2⟩:=h2.opens;clear h1 h2;by_cases hnm:n=m
 ·subst hnm
  go_enter Tryz.func260,Tryz.ntmps260
  go_wp2
  go_loopw [5] (λa wr=>∃k:Nat,k<=n∧a=.int .i64 ((k:Int)-1)∧cmpDown f g k=cmpDown f g n∧∃j,wr=w.drewN j) (λa _=>(intOf a+1).toNat)
  case atStart=>exact⟨n,Yab _,rfl,rfl,0,rfl⟩
  case round=>
   obtain⟨k,hk,rfl,ht,j,rfl⟩:=hrel;have HT:=Yah ht;clear ht;by_cases h0:0<k
   ·obtain⟨b,off,rfl,hb,hcell⟩:=hx1 Zo
    obtain⟨b2,off2,rfl,hb2,hcell2⟩:=hx2 Zo;have a1:=hcell (k-1) Zo;have a2:=hcell2 (k-1) Zo;clear hcell hcell2 hx1 hx2;obtain⟨k,rfl⟩:∃j,k=j+1:=⟨k-1,Zo⟩
    simp only[Ybf]at a1 a2;rw[show((k+1:Nat):Int)-1=(k:Int) by omega];have HE:=Zif f g (k+1) Zo;have HN:=Zig f g (k+1) Zo;simp only[Ybf]at HE HN;replace HE:=Yah HE;replace HN:=Yah HN;by_cases hfg:f k=g k
    ·have hq:(f k != g k)=false:=by simpa using hfg
     have HF:=Yah hfg;clear hfg;go_wp2
     go_quiet (fail)
     go_wp2
     go_roundw
     case rel=>exact⟨k,Zo,rfl,by rw[<-HT.out,HE.out HF.out],_,rfl⟩
     case measure=>simp[intOf]
    ·have hq:(f k != g k)=true:=by simpa using hfg
     have HF:=Yah hfg;clear hfg;go_wp2
     go_quiet (fail)
     go_wp2
     go_quiet (fail)
     go_wp2
     go_ret
     exact⟨by rw[cmpV,if_pos rfl,<-HT.out,HN.out HF.out,show decide (f k-g k<0)=decide (f k<g k) from by rw[decide_eq_decide];omega];rfl,_,by rw[Ydc,Ydc]⟩
   ·obtain rfl:k=0:=by omega
    go_wp2
    go_ret
    exact⟨by rw[cmpV,if_pos rfl,<-HT.out];rfl,_,rfl⟩
 ·have hnm':((n:Int) != (m:Int))=true:=by simp;omega
  go_enter Tryz.func260,Tryz.ntmps260
  go_wp2
  go_ret
  refine⟨by rw[cmpV,if_neg hnm,show decide ((n:Int)-m<0)=decide (n<m) from by rw[decide_eq_decide];omega];rfl,0,rfl⟩
theorem Ze3 (p q:Option Addr) (n m c1 c2:Nat) (f g:Nat->Int) (w:World) (h1:SlF w (.slice p n c1) n f) (h2:SlF w (.slice q m c2) m g) (d1:Digs f n) (d2:Digs g m) :
  Calls Tryz.prog 260 #[.slice p n c1,.slice q m c2] w λe w'=>e=.returned (.bool (decide (vf f n<vf g m)))∧∃k,w'=w.drewN k:=by
 refine(Zp2 p q n m c1 c2 f g w h1 h2).mono ?_;rintro e w' ⟨rfl,hk⟩;exact⟨by simp only[(Zks d1 d2).1],hk⟩
theorem Zfm (p:Option Addr) (n c i:Nat) (f:Nat->Int) (w:World) (h:SlF w (.slice p n c) n f) :
  Calls Tryz.prog 283 #[.slice p n c,.int .i64 (i:Int)] w λe w'=>e=.returned (.int .i64 (xt f n i))∧w'=w:=by
 obtain⟨hc,hn,hx⟩:=h.opens;clear h;by_cases hin:i<n
 ·obtain⟨b,off,rfl,hb,hcell⟩:=hx Zo
  have a1:=hcell i hin;have hi':(i:Int)<n:=Zo;rw[Zpx hin];clear hcell hx;go_enter Tryz.func283,Tryz.ntmps283
  go_wp2
  go_ret
  exact⟨rfl,rfl⟩
 ·have hi':¬(i:Int)<n:=by omega
  rw[Zvh Zo];clear hx;go_enter Tryz.func283,Tryz.ntmps283
  go_wp2
  go_ret
  exact⟨rfl,rfl⟩
end Go.Proofs.W
