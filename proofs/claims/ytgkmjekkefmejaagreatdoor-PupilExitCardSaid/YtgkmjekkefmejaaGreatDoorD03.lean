/- The drafted optics of chapter 13: what it is and that it is valid. Part 3 of 16. No condition beside the row. -/
import Derived.Test.YtgkmjekkefmejaaGreatDoorD02
set_option linter.unusedVariables false
set_option linter.unusedSimpArgs false
set_option maxRecDepth 100000
set_option maxHeartbeats 4000000
namespace Go.Proofs.W
open Go.RowKit Go.Mono
theorem Zlw (s:Srf) (hs:s.core) (p:Option Addr) (c:Nat) (w:World) (hco:CoatAt w p c s.co) :
  Calls Tryz.prog 223 #[.agg (s.cs p c)] w λe w'=>e=.returned (.bool (decide s.ring))∧Below w.heap.size w w':=by
 have hfl:=λi (hi:i<s.co.length) W=>Zs6 (s.co.getD i ⟨0,0,0⟩) (hs.films _ (by rw[Yac,Yao hi];exact Ybw hi)) W;have h8:=hs.coats;have hnm:=hs.glass;obtain⟨_,_,_,⟨i1,j1⟩,⟨i2,j2⟩,⟨i3,j3⟩,⟨i4,j4⟩,⟨i5,j5⟩,⟨i6,j6⟩,⟨i7,j7⟩,⟨i8,j8⟩,⟨i9,j9⟩,⟨i10,j10⟩,⟨i11,j11⟩,⟨i12,j12⟩,⟨i13,j13⟩,⟨i14,j14⟩,⟨i15,j15⟩,⟨i16,j16⟩,⟨i17,j17⟩,s1,o0,o1,_,_,_⟩:=hs;have hring:∃b,decide s.ring=b:=⟨_,rfl⟩
 obtain⟨b,hb⟩:=hring;have hb':=hb;unfold Srf.ring at hb';unfold CoatAt at hco;unfold Srf.cs;rw[hb];clear hb;obtain⟨kind,curv,conic,curvx,conicx,a0,a1,a2,a3,p0,p1,order,thick,glass,semi,hole,dx,dy,ax,ay,az,co⟩:=s;dsimp only at *;generalize hn:co.length=n at *;generalize hF:(λi=>co.getD i (⟨0,0,0⟩:Flm))=F at *;have hfl':∀i,i<n->∀W,Calls Tryz.prog 248 #[.agg (F i).vals] W λe w'=>e=.returned (.bool true)∧Below W.heap.size W w':=λi hi W=>by
  rw[<-hF];exact hfl i hi W
 clear hfl hF hn;have hn8:(n:Int)<=8:=Zo;replace hb':=Yah hb';have qN:∀W,glass.toList≠[]->Calls Tryz.prog 173 #[.string glass] W λe w'=>e=.returned (.bool true)∧w'=W:=λW hne=>by
  rcases hnm with rfl|h
  ·exact absurd (by simp[Ycs]) hne
  ·exact Zhj glass h W
 clear hnm;have q1:=λW=>Zaw curv 1000000000 Zd Zd i1 j1 W;have q2:=λW=>Zaw curvx 1000000000 Zd Zd i2 j2 W;have q3:=λW=>Zaw thick 1000000000 Zd Zd i3 j3 W;have q4:=λW=>Zaw dx 1000000000 Zd Zd i4 j4 W;have q5:=λW=>Zaw dy 1000000000 Zd Zd i5 j5 W;have q6:=λW=>Zaw a0 1000000000 Zd Zd i6 j6 W;have q7:=λW=>Zaw a1 1000000000 Zd Zd i7 j7 W;have q8:=λW=>Zaw a2 1000000000 Zd Zd i8 j8 W;have q9:=λW=>Zaw a3 1000000000 Zd Zd i9 j9 W;have q10:=λW=>Zaw p0 1000000000 Zd Zd i10 j10 W;have q11:=λW=>Zaw p1 1000000000 Zd Zd i11 j11 W;have q12:=λW=>Zaw conic 100000000 Zd Zd i12 j12 W;have q13:=λW=>Zaw conicx 100000000 Zd Zd i13 j13 W;have q14:=λW=>Zaw ax 90000000 Zd Zd i14 j14 W;have q15:=λW=>Zaw ay 90000000 Zd Zd i15 j15 W;have q16:=λW=>Zaw az 90000000 Zd Zd i16 j16 W;clear i1 j1 i2 j2 i3 j3 i4 j4 i5 j5 i6 j6 i7 j7 i8 j8 i9 j9 i10 j10 i11 j11 i12 j12 i13 j13 i14 j14 i15 j15 i16 j16;go_enter Tryz.func223,Tryz.ntmps223
 go_wp2_with fail
 refine Zb3 λW hB hsz bS=>?_;have cS:=bS.cell;have lS:=bS.lt;have hcW:=hco.below hB;clear hco;go_wp2
 go_loopw [3] (λx wr=>∃k:Nat,k<=4∧x=.int .i64 (k:Int)∧wr=W) (λx _=>(4-intOf x).toNat)
 case atStart=>exact⟨0,Zo,rfl,rfl⟩
 case round=>
  obtain⟨k,hk,rfl,rfl⟩:=hrel;rcases(by omega:k=0∨k=1∨k=2∨k=3∨k=4) with rfl|rfl|rfl|rfl|rfl
  ·go_wp2_with (go_at_call 247;with_reducible refine(q6 _).mono ?_;rintro e w5 ⟨rfl,h5⟩;rw[h5];clear h5 w5)
   go_roundw
   case rel=>exact⟨1,Zd,Zs⟩
   case measure=>simp[intOf]
  ·go_wp2_with (go_at_call 247;with_reducible refine(q7 _).mono ?_;rintro e w5 ⟨rfl,h5⟩;rw[h5];clear h5 w5)
   go_roundw
   case rel=>exact⟨2,Zd,Zs⟩
   case measure=>simp[intOf]
  ·go_wp2_with (go_at_call 247;with_reducible refine(q8 _).mono ?_;rintro e w5 ⟨rfl,h5⟩;rw[h5];clear h5 w5)
   go_roundw
   case rel=>exact⟨3,Zd,Zs⟩
   case measure=>simp[intOf]
  ·go_wp2_with (go_at_call 247;with_reducible refine(q9 _).mono ?_;rintro e w5 ⟨rfl,h5⟩;rw[h5];clear h5 w5)
   go_roundw
   case rel=>exact⟨4,Zd,Zs⟩
   case measure=>simp[intOf]
  ·rw[show((4:Nat):Int)=4 from rfl]
   go_wp2
   go_loopw [4] (λx w6=>∃j:Nat,j<=n∧x=.int .i64 (j:Int)∧Below wr.heap.size wr w6) (λx _=>(n-intOf x).toNat)
   case atStart=>exact⟨0,Yat _,rfl,Yae _ _⟩
   case round=>
    obtain⟨j,hj,rfl,hB6⟩:=hrel;rename_i W0 _;have bS6:=bS.below hB6;have cS6:=bS6.cell;have lS6:=bS6.lt;clear cS lS;by_cases hjn:j<n
    ·obtain⟨b,off,rfl,lb,hrg⟩:=hcW.range Zo
     have hrgw:=hrg j hjn wr hB6;have lbw:=Yaf lb hB6.size;have hflj:=hfl' j hjn;have hszj:(Tryz.prog.info? 270).map (·.size)=some (F j).vals.size:=Zk;have hslj:(Tryz.prog.info? 270).map (·.size)=some (F j).vals.toList.length:=hszj;have hj':(j:Int)<n:=Zo;generalize (F j).vals=A3 at *;clear hfl' hrg hcW q1 q2 q3 q4 q5 q6 q7 q8 q9 q10 q11 q12 q13 q14 q15 q16;go_wp2_with (refine wpList_load_mid rfl 270 _ rfl b (off+j*3) rfl A3.toList _ hrgw Tryz.underlying270 rfl hslj ?_)
     refine(hflj _).mono ?_;rintro e W3 ⟨rfl,hb3⟩;go_wp2
     go_roundw
     case rel=>exact⟨j+1,Zo,Zs,Zaa hB6 hb3⟩
     case measure=>simp[intOf];omega
    ·obtain rfl:j=n:=by omega
     clear hfl' hcW;go_wp2_with (go_at_call 247;(first|with_reducible refine(q1 _).mono ?_|with_reducible refine(q2 _).mono ?_|with_reducible refine(q12 _).mono ?_|with_reducible refine(q13 _).mono ?_|with_reducible refine(q10 _).mono ?_|with_reducible refine(q11 _).mono ?_|with_reducible refine(q3 _).mono ?_|with_reducible refine(q4 _).mono ?_|with_reducible refine(q5 _).mono ?_|with_reducible refine(q14 _).mono ?_|with_reducible refine(q15 _).mono ?_|with_reducible refine(q16 _).mono ?_);rintro e w5 ⟨rfl,h5⟩;rw[h5];clear h5 w5)
     all_goals try(go_at_call 173;refine(qN _ (by assumption)).mono ?_;rintro e w5 ⟨rfl,h5⟩;rw[h5];clear h5 w5;go_wp2)
     all_goals
      first
       | (obtain rfl : b = true := by rw [<- hb'.out]; exact decide_eq_true Zo
          go_ret
          exact⟨rfl,Zaa hB hB6⟩)
       | (obtain rfl : b = false := by rw [<- hb'.out]; exact decide_eq_false Zo
          go_ret
          exact⟨rfl,Zaa hB hB6⟩)
end Go.Proofs.W
namespace Go.Mono
open Go.RowKit
theorem Zzn (k:Nat):vf (λj=>if j=k then 1 else 0) (k+1)=pw k:=by
 have:=Zc4 (λ_=>0) k 1 (k+1);rw[Zdm (λ_ _=>rfl),if_pos (Yca k)]at this;rw[this];omega
theorem Zv7 {n a:Nat} (h:(a:Int)<pw n):a<((pw (n/2+1)).toNat+1)*((pw (n/2+1)).toNat+1):=by
 have hp:=Za7 (n/2+1);have h1:pw n<=pw (n/2+1+(n/2+1)):=Zbp Zo;rw[Zfv]at h1;generalize pw (n/2+1)=x at *;obtain⟨y,rfl⟩:∃y:Nat,x=y:=⟨x.toNat,Zo⟩
 rw[Ycb];have h2:(a:Int)<((y*y:Nat):Int):=by rw[Ycw];omega
 have h3:y*y<=(y+1)*(y+1):=Ybv Zo Zo;omega
end Go.Mono
namespace Go.Proofs.W
open Go.RowKit Go.Mono
theorem Ztp {m:Nat} {v:Value} {a:Nat} (w:World) (h:LgV m w v a) (hm:m<=600) :
  Calls Tryz.prog 233 #[v] w λe w'=>∃v',e=.returned v'∧LgV 600 w' v' (rtN a)∧Below w.heap.size w w':=by
 have h0:=h;have hlt:=h.lt;have hv:∃p n c f,v=.agg #[.bool false,.slice p n c]∧Digs f n∧vf f n=a∧n<=m:=by
  obtain⟨p,n,c,f,rfl,s1,d1,e1,l1⟩:=h;exact⟨p,n,c,f,by rw[decide_eq_false Zo],d1,by simpa using e1,l1⟩
 obtain⟨p,n,c,f,rfl,d1,e1,l1⟩:=hv;by_cases hn:n=0
 ·subst hn
  obtain rfl:a=0:=by simp[vf]at e1;omega
  go_enter Tryz.func233,Tryz.ntmps233
  have h1:LgV 600 w (.agg #[.bool false,.slice p 0 c]) (rtN 0:Nat):=by rw[show rtN 0=0 from Ztn Zd Zd];exact h0.mono hm
  go_wp2_with first|(refine Zb6 (T0:=45) λW hB hs b0 b1=>?_;have c0:=b0.cell 1;have l0:=b0.lt)|(refine Zac rfl 45 (.tmp 1) rfl w.heap.size rfl 45 #[.bool false,.slice p 0 c] b0 _ Tryz.underlying45 rfl Zae ?_)|(refine Zab rfl 45 _ _ rfl (w.heap.size+1) 0 45 _ #[.bool false,.slice p 0 c] #[.bool false,.slice p 0 c] rfl rfl b1 Zae (Yaa rfl) (Zal _ _ _ _) (Zag rfl) ?_;intro W3 hk b4)
  have hB3:=hk.below hB (Nat.le_succ _) hB.size;exact bodyPost_ret (b4.results rfl _ _ rfl Tryz.underlying45 rfl Zae) rfl ⟨_,rfl,h1.below hB3,hB3⟩
 ·have hn':((n:Int)==0)=false:=by simp;omega
  have ha:0<a:=by
   have:=d1.pos.2 Zo;omega
  go_enter Tryz.func233,Tryz.ntmps233
  go_wp2_with first|(refine Zb6 (T0:=45) λW hB hs b0 b1=>?_;have c0:=b0.cell 1;have l0:=b0.lt)|(at_make;refine Za1 _ rfl _ _ 43 rfl Tryz.underlying43 Zby _ _ (n/2+2) rfl rfl Zs Zs Zo ?_;intro W1 r1 hb1;have c1:=r1.cell (n/2+1) (Zo);have f1:=r1.frozen (n/2+1);have l1':=r1.lt)
  have hk1:n/2+2-1=n/2+1:=rfl;have r2:=r1.set (n/2+1) 1;have hB1:=Zaa hB hb1;have hB2:Below w.heap.size w (W1.setCell ⟨W.heap.size,n/2+1,none⟩ (.int .i64 1)):=Zaf hB1 Zo _ _;have b02:=(b0.below hb1).other ⟨W.heap.size,n/2+1,none⟩ (.int .i64 1) (by show w.heap.size≠W.heap.size;omega);have b12:=(b1.below hb1).other ⟨W.heap.size,n/2+1,none⟩ (.int .i64 1) (by show w.heap.size+1≠W.heap.size;omega);have hs2:w.heap.size+2<=(W1.setCell ⟨W.heap.size,n/2+1,none⟩ (.int .i64 1)).heap.size:=by rw[World.size_setCell];omega
  clear c1 f1 l1' r1 b0 b1 c0 l0 hB hs;generalize W1.setCell ⟨W.heap.size,n/2+1,none⟩ (.int .i64 1)=W2 at *;refine(Zbm false _ _ _ _ W2 (r2.slice Zo _ (Yab _) _ (Yab _)) Zo (λi hi=>by split<;>decide) (λi hi=>by split<;>decide)).mono ?_;rintro e W3 ⟨v',rfl,ho3,d3,e3,hb3⟩;obtain⟨p',c',rfl⟩:=ho3.shape;rw[Bool.false_and];rw[Zzn]at e3;have hB3:=Zaa hB2 hb3;have b03:=b02.below hb3;have b13:=b12.below hb3;have hst:=Zv7 (n:=n) (a:=a) (by rw[<-e1];exact d1.lt);have htl:trimN (λj=>if j=n/2+1 then(1:Int) else 0) (n/2+2)<=n/2+2:=Za3 _ _;have hlg:LgV 400 W3 (.agg #[.bool false,.slice p' (trimN (λj=>if j=n/2+1 then(1:Int) else 0) (n/2+2)) c']) (pw (n/2+1)).toNat:=⟨p',_,c',_,by rw[decide_eq_false Zo],ho3.sl Zo,d3,by rw[e3];have:=Za7 (n/2+1);omega,Zo⟩
  have hx0:0<(pw (n/2+1)).toNat:=by have:=Za7 (n/2+1);omega
  generalize trimN (λj=>if j=n/2+1 then(1:Int) else 0) (n/2+2)=K at *;generalize (pw (n/2+1)).toNat=x0 at *;have hs3:=hb3.size;clear ho3 e3 d3 r2 htl b02 b12 hB2;go_wp2_with first|(refine Zeb 45 4 _ #[.bool false,.slice p' K c'] _ rfl rfl rfl rfl rfl rfl Zbv (by as_aux_lemma=>(intro _;kernel_rfl)) (by as_aux_lemma=>(intro _;kernel_rfl)) Zae rfl (Zal _ _ _ _) ?_;intro W4 B4 hle4 hB4 b4;have b04:=b03.below hB4;have b14:=b13.below hB4)
  have hBB:w.heap.size+2<=B4:=Zo;have hlt4:=hlg.below hB4;have hBw4:=Zaa hB3 hB4;have hp4:=h0.below hBw4;clear hlg hB4 b03 b13 hle4 hb3 hB3 hs3 hs2 hb1 hB1;simp only[Act.put,Zsi,Zs0,Zss];go_loopw [5,6,7,8] (λ_ _ _ _ wr=>∃(A:Array Value) (x:Nat),Box wr B4 45 A∧LgV 400 wr (.agg A) x∧0<x∧a<(x+1)*(x+1)∧Box wr w.heap.size 45 #[.bool false,.slice p n c]∧Box wr (w.heap.size+1) 45 #[.bool false,.slice none 0 0]∧Below w.heap.size w wr∧LgV m wr (.agg #[.bool false,.slice p n c]) a) (λ_ _ _ _ wr=>valAt wr B4 45)
  case atStart=>exact⟨_,x0,b4,hlt4,hx0,hst,b04,b14,hBw4,hp4⟩
  case round=>
   clear b4 hlt4 hx0 hst b04 b14 hBw4 hp4 h0 e1 hlt;obtain⟨A,x,b4,hx,hx0,hax,b0,b1,hB,hpa⟩:=hrel;have hval:=Zgi b4 hx;obtain⟨sx,px,nx,cx,hAv⟩:=hx.parts;cases hAv;have l4:=b4.lt;have hpt:=λ(X:World) (hX:Ext wr X)=>Zco X (hpa.ext hX) (hx.ext hX) (show(x:Int)≠0 by omega) Zo Zd;go_wp2_with first|(refine Zac rfl 45 (.tmp 1) rfl w.heap.size rfl 45 #[.bool false,.slice p n c] b0 _ Tryz.underlying45 rfl Zae ?_)|(refine Zac rfl 45 (.tmp 4) rfl B4 rfl 45 #[.bool sx,.slice px nx cx] b4 _ Tryz.underlying45 rfl Zae ?_)
   refine(hpt wr (Ext.refl _)).mono ?_;rintro e W5 ⟨vq,vr,rfl,hq,hr,hb5⟩;obtain⟨sq,pq,nq,cq,rfl⟩:=hq.parts;obtain⟨sr,pr,nr,cr,rfl⟩:=hr.parts;rw[show(a:Int).tdiv x=((a/x:Nat):Int) by rw[Ybk Zo];omega]at hq;replace b0:=b0.below hb5;replace b1:=b1.below hb5;replace b4:=b4.below hb5;replace hx:=hx.below hb5;replace hpa:=hpa.below hb5;replace hB:=Zaa hB hb5;clear hpt hb5 hr;have hsum:=λ(X:World) (hX:Ext W5 X)=>Zok X (hx.ext hX) (hq.ext hX) Zd Zo;go_wp2_with first|(refine Zcc 45 5 6 _ _ #[.bool sq,.slice pq nq cq] #[.bool sr,.slice pr nr cr] _ rfl rfl rfl rfl rfl rfl rfl rfl rfl rfl rfl rfl Zbv (by as_aux_lemma=>(intro _ _;kernel_rfl)) (by as_aux_lemma=>(intro _ _;kernel_rfl)) (by as_aux_lemma=>(intro _ _;kernel_rfl)) (by as_aux_lemma=>(intro _ _;kernel_rfl)) Zae rfl rfl (Zal _ _ _ _) (Zal _ _ _ _) ?_;intro W6 B5 B6 _ _ _ hB6 b5 b6;replace b0:=b0.below hB6;replace b1:=b1.below hB6;replace b4:=b4.below hB6)|(refine Zac rfl 45 (.tmp 5) rfl B5 Zx 45 #[.bool sq,.slice pq nq cq] b5 _ Tryz.underlying45 rfl Zae ?_)|(refine Zac rfl 45 (.tmp 4) rfl B4 Zx 45 #[.bool sx,.slice px nx cx] b4 _ Tryz.underlying45 rfl Zae ?_)
   refine(hsum W6 (.of_below hB6)).mono ?_;rintro e W7 ⟨vs,rfl,hs7,hb7⟩;have hB7:=Zaa hB6 hb7;go_wp2_with fail
   refine(Zea 2 W7 Zd Zd).mono ?_;rintro e W8 ⟨vt,rfl,ht8,hb8⟩;have hB8:=Zaa hB7 hb8;replace hs7:=hs7.below hb8;go_wp2_with fail
   refine(Zco W8 hs7 ht8 Zd Zo Zd).mono ?_;rintro e W9 ⟨vy,vz,rfl,hy,hz,hb9⟩;obtain⟨sy,py,ny,cy,rfl⟩:=hy.parts;obtain⟨sz,pz,nz,cz,rfl⟩:=hz.parts;have hnw:nwt a x=(x+a/x)/2:=rfl;rw[show((x:Int)+((a/x:Nat):Int)).tdiv 2=((nwt a x:Nat):Int) by rw[Ybk Zo,hnw];omega]at hy;have hab:=Zmc (a:=a) hx0;have hst:=Zv6 (a:=a) hx0;have hyp:=Zyg (a:=a) hx0 ha;generalize nwt a x=y at *;have hB9:=Zaa hB8 hb9;replace b0:=(b0.below (Zaa hb7 hb8)).below hb9;replace b1:=(b1.below (Zaa hb7 hb8)).below hb9;replace b4:=(b4.below (Zaa hb7 hb8)).below hb9;replace hx:=hx.below hB9;replace hpa:=hpa.below hB9;replace hB:=Zaa hB hB9;clear hsum hs7 ht8 hz hb7 hb8 hb9 hB6 hB7 hB8 hB9 b5 b6 hq hnw;have hord:=λ(X:World) (hX:Ext W9 X)=>Zft X (hy.ext hX) (hx.ext hX);go_wp2_with (refine Zcc 45 7 8 _ _ #[.bool sy,.slice py ny cy] #[.bool sz,.slice pz nz cz] _ rfl rfl rfl rfl rfl rfl rfl rfl rfl rfl rfl rfl Zbv (by as_aux_lemma=>(intro _ _;kernel_rfl)) (by as_aux_lemma=>(intro _ _;kernel_rfl)) (by as_aux_lemma=>(intro _ _;kernel_rfl)) (by as_aux_lemma=>(intro _ _;kernel_rfl)) Zae rfl rfl (Zal _ _ _ _) (Zal _ _ _ _) ?_;intro WA B7 B8 _ _ _ hBA b7 b8;replace b0:=b0.below hBA;replace b1:=b1.below hBA;replace b4:=b4.below hBA;go_wp2_with first|(refine Zac rfl 45 (.tmp 7) rfl B7 Zx 45 #[.bool sy,.slice py ny cy] b7 _ Tryz.underlying45 rfl Zae ?_)|(refine Zac rfl 45 (.tmp 4) rfl B4 Zx 45 #[.bool sx,.slice px nx cx] b4 _ Tryz.underlying45 rfl Zae ?_))
   refine(hord WA (.of_below hBA)).mono ?_;rintro e WB ⟨rfl,hbB⟩;have hBB2:=Zaa hBA hbB;replace b0:=b0.below hbB;replace b1:=b1.below hbB;replace b4:=b4.below hbB;replace b7:=b7.below hbB;replace hx:=hx.below hBB2;replace hy:=hy.below hBB2;replace hpa:=hpa.below hBB2;replace hB:=Zaa hB hBB2;clear hord hbB hBA hBB2 b8;by_cases hyx:x<=y
   ·have hsg:0<=(((y:Int)-x)).sign:=by
     rcases Int.lt_or_eq_of_le (show(0:Int)<=(y:Int)-x by omega) with h|h
     ·rw[Yeg h];decide
     ·rw[<-h];decide
    have hrt:rtN a=x:=Ztn (hst hyx) hax;generalize (((y:Int)-x)).sign=sg at *;go_wp2_with first|(refine Zac rfl 45 (.tmp 4) rfl B4 Zx 45 #[.bool sx,.slice px nx cx] b4 _ Tryz.underlying45 rfl Zae ?_)|(refine Zab rfl 45 _ _ rfl (w.heap.size+1) 0 45 _ #[.bool sx,.slice px nx cx] #[.bool sx,.slice px nx cx] rfl rfl b1 Zae (Yaa rfl) (Zal _ _ _ _) (Zag rfl) ?_;intro WC hk bC)
    have hBC:=hk.below hB (Nat.le_succ _) hB.size;exact bodyPost_ret (bC.results rfl _ _ rfl Tryz.underlying45 rfl Zae) rfl ⟨_,rfl,by rw[hrt];exact(hx.ext (hk.ext b1 Zd)).mono Zd,hBC⟩
   ·have hsg:¬0<=(((y:Int)-x)).sign:=by
     rw[Yep Zo];decide
    generalize (((y:Int)-x)).sign=sg at *;have hyt:LgV 400 WB (.agg #[.bool sy,.slice py ny cy]) y:=hy.tight (by have:=hx.lt;omega);have lB4:=b4.lt;go_wp2_with first|(refine Zac rfl 45 (.tmp 7) rfl B7 Zx 45 #[.bool sy,.slice py ny cy] b7 _ Tryz.underlying45 rfl Zae ?_)|(refine Zab rfl 45 _ _ rfl B4 0 45 _ #[.bool sy,.slice py ny cy] #[.bool sy,.slice py ny cy] rfl rfl b4 Zae (Yaa rfl) (Zal _ _ _ _) (Zag rfl) ?_;intro WC hk bC)
    have hBC:=hk.below hB Zo hB.size;have heC:=hk.ext b4 Zd;have hyC:=hyt.ext heC;have hvC:=Zgi bC hyC;simp only[Act.put,Zsi,Zs0,Zss];go_roundw
    case rel=>exact⟨_,y,bC,hyC,hyp,hab,hk.box b0 b0.lt Zo,hk.box b1 b1.lt Zo,hBC,hpa.ext heC⟩
    case measure=>rw[hval,hvC];omega
end Go.Proofs.W
