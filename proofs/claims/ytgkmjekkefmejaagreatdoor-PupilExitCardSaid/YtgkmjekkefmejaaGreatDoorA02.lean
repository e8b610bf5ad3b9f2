/- Contracts of package matrix,and a verified evaluator. Part 2 of 27. No condition beside the row. -/
import Derived.Deep.MidRow
import Derived.Laws.Rows
import Derived.Laws.ResultCell
import Derived.WalkMore
import Derived.Outline
import Derived.Laws.Pointers
import Derived.Test.YtgkmjekkefmejaaGreatDoorA01
set_option linter.unusedVariables false
set_option linter.unusedSimpArgs false
set_option maxRecDepth 100000
set_option maxHeartbeats 4000000
namespace Go.Mono
def LessPost (r j n R:Nat) (h0 g:Nat->Int) (d:Int) (w:World) (e:Ending) (w':World):Prop:=∃(b:Bool) (h:Nat->Int),e=.returned (.bool b)∧RowF w' r R h∧
   (∀k,k<R->0<=h k)∧(∀k,k<R->h k<1000000000)∧(∀k,k<j∨j+n<k->h k=h0 k)∧vf (win h j) (n+1)=vf (win h0 j) (n+1)-d*vf g n+(if b then 1 else 0)*pw (n+1)∧OnlyRow r w w'
end Go.Mono
namespace Go.Proofs.W
open Go.RowKit Go.Mono
theorem Zuh (r j n R cap s c2:Nat) (h0 g:Nat->Int) (d:Int) (w:World) (hr0:RowF w r R h0) (hs:RowF w s n g) (hrs:s≠r) (hR:j+n<R) (hRb:R<=2000000)
  (lo:∀k,k<R->0<=h0 k) (hi:∀k,k<R->h0 k<1000000000) (g0:∀i,i<n->0<=g i) (g1:∀i,i<n->g i<1000000000) (d0:0<=d) (d1:d<1000000000) :
  Calls Tryz.prog 192 #[.slice (some ⟨r,j,none⟩) (n+1) cap,.slice (some ⟨s,0,none⟩) n c2,.int .i64 d] w (LessPost r j n R h0 g d w):=by
 go_enter Tryz.func192,Tryz.ntmps192
 go_wp2
 go_loopw [7,14] (λc a wr=>∃i:Nat,i<=n∧a=.int .i64 i∧OnlyRow r w wr∧∃h bo,c=.int .i64 bo∧RowF wr r R h∧LessInv R j n h0 g d i h bo) (λ_ a _=>n-(intOf a).toNat)
 case atStart=>exact⟨0,Yat _,rfl,OnlyRow.refl _ _,_,_,rfl,hr0,LessInv.start lo hi⟩
 case round=>
  clear hr0 lo hi;obtain⟨i,hin,rfl,ho,h,bo,rfl,hr,HT⟩:=hrel;by_cases hlt:i<n
  ·have a1:=(ho.row hs hrs).cell i hlt
   have gi0:=g0 i hlt;have gi1:=g1 i hlt;have a2:=hr.cell (j+i) Zo;have a3:=hr.frozen (j+i);have b0:=HT.b0;have b1:=HT.b1;have h0':=HT.lo (j+i) Zo;have h1':=HT.hi (j+i) Zo;obtain⟨d5,d6⟩:=Zgp gi0 gi1 d0 d1;have HS:=λ(t e:Int) (ht:0<=t) (ht2:t<=2) he e0 e1=>HT.step hlt gi0 gi1 d0 d1 (t:=t) (e:=e) ht ht2 he e0 e1;replace HS:=Yah HS;clear HT g0 g1;by_cases n1:h (j+i)-g i*d%1000000000-bo<0
   ·by_cases n2:h (j+i)-g i*d%1000000000-bo+1000000000<0
    ·go_wp2
     go_roundw
     case rel=>exact⟨i+1,Zo,by go_num,ho.set (j+i) _,_,_,rfl,hr.set (j+i) _,(by have:=HS.out 2 (h (j+i)-g i*d%1000000000-bo+1000000000+1000000000) Zo Zo Zo Zo (Zo);rwa [show g i*d/1000000000+2=g i*d/1000000000+1+1 by omega]at this)⟩
     case measure=>simp[intOf];omega
    ·go_wp2
     go_roundw
     case rel=>exact⟨i+1,Zo,by go_num,ho.set (j+i) _,_,_,rfl,hr.set (j+i) _,HS.out 1 (h (j+i)-g i*d%1000000000-bo+1000000000) Zo Zo Zo Zo Zo⟩
     case measure=>simp[intOf];omega
   ·go_wp2
    go_roundw
    case rel=>exact⟨i+1,Zo,by go_num,ho.set (j+i) _,_,_,rfl,hr.set (j+i) _,(by have:=HS.out 0 (h (j+i)-g i*d%1000000000-bo) Zo Zo Zo Zo (Zo);rwa [Yda]at this)⟩
    case measure=>simp[intOf];omega
  ·obtain rfl:i=n:=by omega
   have a2:=hr.cell (j+i) Zo;have a3:=hr.frozen (j+i);have b0:=HT.b0;have b1:=HT.b1;have h0':=HT.lo (j+i) Zo;have h1':=HT.hi (j+i) Zo;have HS:=λ(t e:Int) ht he e0 e1=>HT.last (t:=t) (e:=e) ht he e0 e1;replace HS:=Yah HS;have r1:=hr.set (j+i) (h (j+i)-bo);have a4:=r1.cell (j+i) Zo;have a5:=r1.frozen (j+i);simp only[if_true]at a4;clear HT g0 g1 hlt hin hs;by_cases n1:h (j+i)-bo<0
   ·go_wp2
    go_ret
    have r2:=r1.set (j+i) (h (j+i)-bo+1000000000);obtain⟨q1,q2,q3,q4⟩:=HS.out 1 (h (j+i)-bo+1000000000) (.inr rfl) Zo Zo Zo;refine⟨true,_,rfl,r2.congr λk hk=>?_,q2,q3,q4,q1,(ho.set _ _).set _ _⟩;by_cases e:k=j+i
    ·rw[if_pos e,if_pos e]
    ·rw[if_neg e,if_neg e,if_neg e]
   ·go_wp2
    go_ret
    obtain⟨q1,q2,q3,q4⟩:=HS.out 0 (h (j+i)-bo) (.inl rfl) Zo Zo Zo;exact⟨false,_,rfl,r1,q2,q3,q4,q1,ho.set _ _⟩
theorem Zui (r j n R cap s c2:Nat) (h0 g:Nat->Int) (w:World) (hr0:RowF w r R h0) (hs:RowF w s n g) (hrs:s≠r) (hR:j+n<R) (hRb:R<=2000000)
  (lo:∀k,k<R->0<=h0 k) (hi:∀k,k<R->h0 k<1000000000) (g0:∀i,i<n->0<=g i) (g1:∀i,i<n->g i<1000000000) :
  Calls Tryz.prog 193 #[.slice (some ⟨r,j,none⟩) (n+1) cap,.slice (some ⟨s,0,none⟩) n c2] w λe w'=>∃(o:Int) (h:Nat->Int),e=.returned (.tuple #[])∧RowF w' r R h∧
   (∀k,k<R->0<=h k)∧(∀k,k<R->h k<1000000000)∧(∀k,k<j∨j+n<k->h k=h0 k)∧vf (win h j) (n+1)=vf (win h0 j) (n+1)+vf g n-o*pw (n+1)∧OnlyRow r w w':=by
 go_enter Tryz.func193,Tryz.ntmps193
 go_wp2
 go_loopw [4,10] (λc a wr=>∃i:Nat,i<=n∧a=.int .i64 i∧OnlyRow r w wr∧∃h bo,c=.int .i64 bo∧RowF wr r R h∧MoreInv R j n h0 g i h bo) (λ_ a _=>n-(intOf a).toNat)
 case atStart=>exact⟨0,Yat _,rfl,OnlyRow.refl _ _,_,_,rfl,hr0,MoreInv.start lo hi⟩
 case round=>
  clear hr0 lo hi;obtain⟨i,hin,rfl,ho,h,bo,rfl,hr,HT⟩:=hrel;have b0:=HT.c0;have b1:=HT.c1;by_cases hlt:i<n
  ·have a1:=(ho.row hs hrs).cell i hlt
   have gi0:=g0 i hlt;have gi1:=g1 i hlt;have a2:=hr.cell (j+i) Zo;have a3:=hr.frozen (j+i);have h0':=HT.lo (j+i) Zo;have h1':=HT.hi (j+i) Zo;clear g0 g1;go_wp2
   go_roundw
   case rel=>exact⟨i+1,Zo,by go_num,ho.set (j+i) _,_,_,rfl,hr.set (j+i) _,HT.step hlt hR gi0 gi1⟩
   case measure=>simp[intOf];omega
  ·obtain rfl:i=n:=by omega
   have a2:=hr.cell (j+i) Zo;have a3:=hr.frozen (j+i);have h0':=HT.lo (j+i) Zo;have h1':=HT.hi (j+i) Zo;obtain⟨o,q1,q2,q3,q4⟩:=HT.last hR;replace q1:=Yah q1;replace q4:=Yah q4;clear HT g0 g1 hlt hin hs;go_wp2
   go_end0
   exact⟨o,_,rfl,hr.set _ _,q2,q3,q4.out,q1.out,ho.set _ _⟩
end Go.Proofs.W
namespace Go.Mono
theorem Zuj (h:Nat->Int) (j k:Nat):vf (win h j) (k+1)=h j+1000000000*vf (win h (j+1)) k:=by
 induction k with
 | zero=>simp[vf,win,pw]
 | succ k ih =>
   rw[Zah,ih,Zah (win h (j+1)) k,Za4];simp only[win];rw[show j+1+k=j+(k+1) by omega];grind
theorem Zqw {h h':Nat->Int} {j k R:Nat} (hR:j+k<=R) (ho:∀i,i<j∨j+k<=i->h' i=h i):vf h' R=vf h R+pw j*(vf (win h' j) k-vf (win h j) k):=by
 obtain⟨m,rfl⟩:=Yfe hR;rw[Zci h',Zci h,Zfv,Zci h' j k,Zci h j k];rw[Zbj (f:=h') (g:=h) (k:=j) (λi hi=>ho i Zo)];rw[Zbj (f:=λi=>h' (j+k+i)) (g:=λi=>h (j+k+i)) (k:=m) (λi _=>ho _ Zo)];grind
structure OverInv (m Q R:Nat) (A:Int) (g:Nat->Int) (j:Nat) (h q:Nat->Int):Prop where
 lo:∀k,k<R->0<=h k
 hi:∀k,k<R->h k<1000000000
 zero:∀k,j+(m+2)<=k->k<R->h k=0
 lt:vf (win h j) (m+2)<vf g (m+2)
 q0:∀k,k<Q->0<=q k
 q1:∀k,k<Q->q k<1000000000
 qz:∀k,k<j->q k=0
 val:vf h R+vf g (m+2)*vf q Q=A
theorem OverInv.start {m Q R:Nat} {A M:Int} {g h:Nat->Int} (hR:R=Q+(m+2)) (lo:∀k,k<R->0<=h k) (hi:∀k,k<R->h k<1000000000) (hA:vf h R=A) (hlt:A<M*pw Q) (hM:vf g (m+2)=M) :
  OverInv m Q R A g Q h (λ_=>0):=by
 refine⟨lo,hi,λk h1 h2=>Zo,?_,λ_ _=>Zs,λ_ _=>Zs,λ_ _=>rfl,by rw[Zdm (f:=λ_=>0) λ_ _=>rfl,hA];simp⟩;subst hR;rw[Zci]at hA;have hA':vf h Q+pw Q*vf (win h Q) (m+2)=A:=hA;clear hA;have h1:=Zap (f:=h) (k:=Q) λi hi=>lo i Zo;rw[hM];rcases Ycz (vf (win h Q) (m+2)) M with h2|h2
 ·exact h2
 ·have:=mle h2 (Yap (Za7 Q))
  have:pw Q*vf (win h Q) (m+2)=vf (win h Q) (m+2)*pw Q:=Ydh _ _;omega
theorem OverInv.U_lt {m Q R:Nat} {A:Int} {g:Nat->Int} {j:Nat} {h q:Nat->Int} (H:OverInv m Q R A g (j+1) h q) (hj:j<R):vf (win h j) (m+3)<vf g (m+2)*1000000000:=by
 rw[Zuj];have:=H.lt;have:=H.hi j hj;omega
theorem OverInv.step {m Q R:Nat} {A:Int} {g:Nat->Int} {j:Nat} {h q h':Nat->Int} {d W:Int} (H:OverInv m Q R A g (j+1) h q) (hR:R=Q+(m+2)) (hj:j<Q)
  (hV:vf g (m+2)<=pw (m+2)) (lo:∀k,k<R->0<=h' k) (hi:∀k,k<R->h' k<1000000000) (ho:∀k,k<j∨j+(m+2)<k->h' k=h k)
  (hW:vf (win h' j) (m+3)=W) (W0:0<=W) (W1:W<vf g (m+2)) (hU:vf (win h j) (m+3)=d*vf g (m+2)+W) :
  0<=d∧d<1000000000∧OverInv m Q R A g j h' (λk=>if k=j then d else q k):=by
 have hlt:=H.U_lt Zo;have hU0:=Zap (f:=win h j) (k:=m+3) λi hi=>H.lo _ Zo;have hV0:0<vf g (m+2):=Zo;have d0:0<=d:=by
  rcases Ycz d 0 with h1|h1
  ·have:=mle (show d<=-1 by omega) (Yap hV0);omega
  ·exact h1
 have d1:d<1000000000:=by
  rcases Ycz d 1000000000 with h1|h1
  ·exact h1
  ·have:=mle h1 (Yap hV0);omega
 refine⟨d0,d1,lo,hi,λk h1 h2=>?_,?_,λk hk=>?_,λk hk=>?_,λk hk=>?_,?_⟩
 ·rcases Ydu (j+(m+2)) k with h3|h3
  ·rw[ho k (.inr h3)];exact H.zero k Zo h2
  ·obtain rfl:k=j+(m+2):=by omega
   rw[Zah]at hW;have a0:=lo _ h2;have a1:=Zap (f:=win h' j) (k:=m+2) λi hi=>lo _ Zo;rcases Ycz 0 (h' (j+(m+2))) with h4|h4
   ·have:=mle (show 1<=win h' j (m+2) from h4) (Yap (Za7 (m+2)))
    omega
   ·omega
 ·have e:vf (win h' j) (m+2)=W-win h' j (m+2)*pw (m+2):=by rw[Zah]at hW;omega
  have a0:0<=win h' j (m+2)*pw (m+2):=Ycg (lo _ Zo) (Yap (Za7 _));omega
 ·show 0<=if k=j then _ else _
  split
  ·exact d0
  ·exact H.q0 k hk
 ·show(if k=j then _ else _)<_
  split
  ·exact d1
  ·exact H.q1 k hk
 ·show(if k=j then _ else _)=_
  rw[if_neg Zo];exact H.qz k Zo
 ·have hv:=H.val
  rw[Zqw (h:=h) (h':=h') (j:=j) (k:=m+3) (R:=R) Zo (λi hi=>ho i Zo),Zc4,if_pos hj,H.qz j Zo,hW,hU];generalize vf g (m+2)=V at hv ⊢;grind
theorem OverInv.done {m Q R:Nat} {A:Int} {g:Nat->Int} {h q:Nat->Int} (H:OverInv m Q R A g 0 h q) (hR:R=Q+(m+2)) :
  A=vf g (m+2)*vf q Q+vf h (m+2)∧0<=vf h (m+2)∧vf h (m+2)<vf g (m+2):=by
 have hv:=H.val;have hl:=H.lt;have e1:vf (win h 0) (m+2)=vf h (m+2):=Zbj λi _=>by simp[win]
 rw[e1]at hl;have e2:vf h R=vf h (m+2):=by
  rw[hR,Yfb,Zci,Zdm (f:=λj=>h (m+2+j)) (λi hi=>H.zero _ Zo Zo)];simp
 rw[e2]at hv;exact⟨Zo,Zap λi hi=>H.lo i Zo,hl⟩
theorem Zo7 {N M f q r:Int} (hf:0<f) (h:N*f=M*f*q+r) (r0:0<=r) (r1:r<M*f):q=N/M∧r/f=N%M:=by
 have e:r=(N-M*q)*f:=by grind
 have h0:0<=N-M*q:=by
  rcases Ycz (N-M*q) 0 with h1|h1
  ·have:=mle (show N-M*q<=-1 by omega) (Yap hf);omega
  ·exact h1
 have h1:N-M*q<M:=by
  rcases Ycz (N-M*q) M with h1|h1
  ·exact h1
  ·have:=mle h1 (Yap hf);omega
 have hM:0<M:=Zo;have hq:q=N/M:=((Int.ediv_eq_iff_of_pos hM).2 ⟨by rw[Ydh];omega,by rw[Ydh];omega⟩).symm;refine⟨hq,?_⟩;rw[e,Int.mul_ediv_cancel _ Zo];have:=Ycf N M;rw[<-hq]at this;omega
theorem Zqx {b1:Int} (h0:0<b1) (h1:b1<1000000000):0<1000000000/(b1+1)∧1000000000/(b1+1)<1000000000∧(b1+1)*(1000000000/(b1+1))<=1000000000:=by
 have e:=Ycf 1000000000 (b1+1);have r0:=Ycc 1000000000 (show b1+1≠0 by omega);have r1:=Ybu 1000000000 (show 0<b1+1 by omega);have q0:0<=1000000000/(b1+1):=Ydq Zo Zo;generalize 1000000000/(b1+1)=q at *;refine⟨?_,?_,Zo⟩
 ·rcases Ycz 0 q with h|h
  ·exact h
  ·obtain rfl:q=0:=by omega
   omega
 ·have:=mle (show 2<=b1+1 by omega) q0
  omega
theorem Zqy {g:Nat->Int} {m:Nat} (g1:∀i,i<m+1->g i<1000000000) {f:Int} (f0:0<f) (hf:(g m+1)*f<=1000000000):vf g (m+1)*f<pw (m+1):=by
 rw[Zah,Za4];have h1:=Zc3 (f:=g) (k:=m) λi hi=>g1 i Zo;have h2:(vf g m+g m*pw m+1)*f<=((g m+1)*pw m)*f:=mle (by grind) (Yap f0);have h3:((g m+1)*f)*pw m<=1000000000*pw m:=mle hf (Yap (Za7 m));have h4:((g m+1)*pw m)*f=((g m+1)*f)*pw m:=by grind
 have h5:(vf g m+g m*pw m+1)*f=(vf g m+g m*pw m)*f+f:=by grind
 omega
theorem Zzx {m:Nat} {v:Nat->Int} {G:Int} (v0:∀i,i<m+2+1->0<=v i) (v1:∀i,i<m+2+1->v i<1000000000) (hv:vf v (m+2+1)=G) (hlo:pw (m+1)<=G) (hhi:G<pw (m+2)) :
  vf v (m+2)=G∧v (m+1)≠0:=by
 have a1:=Zap (f:=v) (k:=m+2) λi hi=>v0 i Zo;have a2:=v0 (m+2) Zo;rw[Zah]at hv;have e:v (m+2)=0:=by
  rcases Ycz 0 (v (m+2)) with h|h
  ·have:=mle (show 1<=v (m+2) from h) (Yap (Za7 (m+2)));omega
  ·omega
 rw[e,Yec,Yda]at hv;refine⟨hv,λh=>?_⟩;rw[Zah,h]at hv;have a3:=Zc3 (f:=v) (k:=m+1) λi hi=>v1 i Zo;omega
theorem Zuk {n m Q:Nat} {f g:Nat->Int} {F:Int} (hQ:n=Q+(m+1)) (d1:Digs f n) (d2:Digs g (m+2)) (F0:0<F):vf f n*F<vf g (m+2)*F*pw Q:=by
 have a1:=d1.lt;have a2:=d2.ge Zo;rw[show m+2-1=m+1 by omega]at a2;rw[hQ,Zfv]at a1;rw[<-hQ]at a1;have a3:=mle a2 (Yap (Za7 Q));have a4:pw (m+1)*pw Q=pw Q*pw (m+1):=Ydh _ _;have a5:(vf f n+1)*F<=(vf g (m+2)*pw Q)*F:=mle Zo (Yap F0);have a6:(vf g (m+2)*pw Q)*F=vf g (m+2)*F*pw Q:=by grind
 have a7:(vf f n+1)*F=vf f n*F+F:=by grind
 omega
section
open Go.RowKit
section
variable {P:Program} {ops:Array Oper} {Q:Exit->Act->World->Prop} {md:Region.Mode} {S:World->Prop}
theorem Zie {B:Nat} {T:TypeId} {a:Act} {w:World} {cs:Array Value} {K:Act->World->Prop} (i:Nat) {o:Oper} (hi:ops[i]? = some o) (hg:o.guard=none) (hd:o.dst=none) {ty:TypeId} {x y:Operand} (ho:o.op=.store ty x y)
  (off:Nat) (v:Value) (hx:a.eval x=.pointer (some ⟨B,off,none⟩)) (hy:a.eval y=v)
  (hrun:∀w:World,(w.cell? ⟨B,off,none⟩).isSome=true->w.frozen? ⟨B,off,none⟩=false->(Instr.storeAt ty (.pointer (some ⟨B,off,none⟩)) v).run P w=.ok () (w.setCell ⟨B,off,none⟩ v))
  (hb:Box w B T cs) (hoff:off<cs.size) (hK:K a (w.setCell ⟨B,off,none⟩ v)):wpOp P ops Q i K a w:=by
 unfold wpOp;rw[hi];have hw:Region.wanted o (yielded ops a.tmps)=true:=by simp[Region.wanted,hg]
 simp only[hw,if_true];left
 have hc:(w.cell? ⟨B,off,none⟩).isSome=true:=by rw[hb.cell];simp[hoff]
 unfold Oper.wp execOp;simp only[ho,hx,hy,Yar,hrun w hc (hb.frozen off),Yag,Yau];show K (a.put o.dst undef) _;rw[hd];exact hK
theorem Zbk (B:Nat) (T:TypeId) (i:Nat) {o:Oper} (hi:ops[i]? = some o) (hg:o.guard=none) (hd:o.dst=none) {ty:TypeId} {x y:Operand} (ho:o.op=.store ty x y) (off:Nat) (v:Value) (cs new:Array Value) {a:Act} {fuel:Nat} {listed:Array Bool} {w:World}
  (hr:Region.ready md ops listed=[i]) (hS:∀w i u,S w->S (w.setCell ⟨B,i,none⟩ u)) (hx:a.eval x=.pointer (some ⟨B,off,none⟩)) (hy:a.eval y=v)
  (hrun:∀w:World,(w.cell? ⟨B,off,none⟩).isSome=true->w.frozen? ⟨B,off,none⟩=false->(Instr.storeAt ty (.pointer (some ⟨B,off,none⟩)) v).run P w=.ok () (w.setCell ⟨B,off,none⟩ v))
  (hb:Box w B T cs) (hs:S w) (hoff:off<cs.size) (hnew:cs.setIfInBounds off v=new)
  (h:∀w',Box w' B T new->S w'->wpAnyH P md ops Q S fuel (listed.setIfInBounds i true) a w'):wpAnyH P md ops Q S (fuel+1) listed a w:=by
 refine wpAnyH_all hr Zs λj hj=>?_;obtain rfl:j=i:=by simpa using hj
 exact Zie j hi hg hd ho off v hx hy hrun hb hoff ⟨hS _ _ _ hs,h _ (hnew▸hb.set off v) (hS _ _ _ hs)⟩
end
end
section
open Go.RowKit
def AfterC (S:World->Prop) (X:Value->World->Prop):Ending->World->Prop
 | .returned v,w=>S w∧(S w->X v w)
 | _,_=>False
section
variable {P:Program} {ops:Array Oper} {Q:Exit->Act->World->Prop} {md:Region.Mode} {S:World->Prop}
theorem tkf (i:Nat) (d:Option Tmp) {oi:Oper} {v:Value} {fuel:Nat} {listed:Array Bool} {a a':Act} {w:World}
  (h:wpAnyH P md ops Q S fuel (listed.setIfInBounds i true) a' w) (hi:ops[i]? = some oi:=by rfl)
  (hs:Region.noSelect ops=true:=by as_aux_lemma=>kernel_rfl) (hf:Region.free md ops listed i=true:=by as_aux_lemma=>kernel_rfl) (hr:(Region.ready md ops listed).contains i=true:=by as_aux_lemma=>kernel_rfl) (hd:oi.dst=d:=by rfl)
  (hw:Region.wanted oi (yielded ops a.tmps)=true:=by as_aux_lemma=>kernel_rfl) (hv:∀w,S w->(execOp a.eval oi).run P w=.ok (.value v) w:=by(intro w hSw;(try dsimp only at hSw);go_simp;all_goals with_reducible rfl))
  (hQ:∀c a w,Q (.panic c) (a.put d v) w->Q (.panic c) a w:=by exact(λ_ _ _ h=>h)) (hS:S w:=by assumption)
  (ha:a.put d v=a':=by(simp only[Act.put,Zsi,Zs0,Zss];rfl)):wpAnyH P md ops Q S (fuel+1) listed a w:=by
 subst ha;exact Zek i d hi hs hf hr hd hQ hw hv hS h
theorem tlf (i:Nat) (d:Option Tmp) {oi:Oper} (hi:ops[i]? = some oi) (v:Value) {fuel:Nat} {listed:Array Bool} {a a':Act} {w:World}
  (hv:∀w,S w->(execOp a.eval oi).run P w=.ok (.value v) w) (h:wpAnyH P md ops Q S fuel (listed.setIfInBounds i true) a' w)
  (hs:Region.noSelect ops=true:=by as_aux_lemma=>kernel_rfl) (hf:Region.free md ops listed i=true:=by as_aux_lemma=>kernel_rfl) (hr:(Region.ready md ops listed).contains i=true:=by as_aux_lemma=>kernel_rfl) (hd:oi.dst=d:=by rfl)
  (hw:Region.wanted oi (yielded ops a.tmps)=true:=by as_aux_lemma=>kernel_rfl)
  (hQ:∀c a w,Q (.panic c) (a.put d v) w->Q (.panic c) a w:=by exact(λ_ _ _ h=>h)) (hS:S w:=by assumption)
  (ha:a.put d v=a':=by(simp only[Act.put,Zsi,Zs0,Zss];rfl)):wpAnyH P md ops Q S (fuel+1) listed a w:=by
 subst ha;exact Zek i d hi hs hf hr hd hQ hw hv hS h
theorem tsf (i:Nat) (d:Option Tmp) {oi:Oper} {fuel:Nat} {listed:Array Bool} {a a':Act} {w:World}
  (h:wpAnyH P md ops Q S fuel (listed.setIfInBounds i true) a' w) (hi:ops[i]? = some oi:=by rfl)
  (hs:Region.noSelect ops=true:=by as_aux_lemma=>kernel_rfl) (hf:Region.free md ops listed i=true:=by as_aux_lemma=>kernel_rfl) (hr:(Region.ready md ops listed).contains i=true:=by as_aux_lemma=>kernel_rfl) (hd:oi.dst=d:=by rfl)
  (hw:Region.wanted oi (yielded ops a.tmps)=false:=by as_aux_lemma=>kernel_rfl)
  (hQ:∀c a w,Q (.panic c) (a.put d undef) w->Q (.panic c) a w:=by exact(λ_ _ _ h=>h)) (hS:S w:=by assumption)
  (ha:a.put d undef=a':=by(simp only[Act.put,Zsi,Zs0,Zss];rfl)):wpAnyH P md ops Q S (fuel+1) listed a w:=by
 subst ha;exact Zkq i d hi hs hf hr hd hQ hw hS h
theorem stc (i:Nat) (d:Option Tmp) {o:Oper} {f:FuncId} {args:Array Value} {R:Ending->World->Prop} {fuel:Nat} {listed:Array Bool} {a:Act} {w:World} (hC:Calls P f args w R)
  (h:∀e w',R e w'->AfterC S (λv w'=>wpAnyH P md ops Q S fuel (listed.setIfInBounds i true) (a.put d v) w') e w')
  (ho:ops[i]? = some o:=by rfl) (hd:o.dst=d:=by rfl) (hr:Region.ready md ops listed=[i]:=by as_aux_lemma=>kernel_rfl) (hw:Region.wanted o (yielded ops a.tmps)=true:=by as_aux_lemma=>kernel_rfl)
  (hx:(execOp a.eval o).run P w=.ok (.enter f args) w:=by as_aux_lemma=>kernel_rfl):wpAnyH P md ops Q S (fuel+1) listed a w:=by
 subst hd;refine st i (λK hK=>?_) ho hr;rw[if_pos hw];unfold Oper.wp;rw[hx,Oper.upon_enter];refine hC.mono ?_;intro e w' hR;have:=h e w' hR;cases e with
 | returned v=>exact hK.out _ _ this.1 this.2
 | _=>exact this.elim
theorem arma (d:Option Tmp) {K':Act->World->Prop} {fuel:Nat} {listed:Array Bool} (hK:Shut (∀a w,S w->(S w->wpAnyH P md ops Q S fuel listed a w)->K' a w)) {o:Oper} {a:Act} {w:World} (v:Value) (V:World) (hS:S V)
  (h:S V->wpAnyH P md ops Q S fuel listed (a.put d v) V) (hd:o.dst=d:=by rfl) (hw:Region.wanted o (yielded ops a.tmps)=true:=by as_aux_lemma=>kernel_rfl)
  (hx:(execOp a.eval o).run P w=.ok (.value v) V:=by as_aux_lemma=>kernel_rfl):if Region.wanted o (yielded ops a.tmps)=true then Oper.wp P o a w K' Q else K' (a.put o.dst undef) w:=by
 subst hd;rw[if_pos hw];unfold Oper.wp;rw[hx,Oper.upon_value];exact hK.out _ _ hS h
theorem sta (i:Nat) (d:Option Tmp) {o:Oper} {fuel:Nat} {listed:Array Bool} {a:Act} {w:World} (v:Value) (V:World) (hS:S V)
  (h:S V->wpAnyH P md ops Q S fuel (listed.setIfInBounds i true) (a.put d v) V)
  (ho:ops[i]? = some o:=by rfl) (hd:o.dst=d:=by rfl) (hr:Region.ready md ops listed=[i]:=by as_aux_lemma=>kernel_rfl) (hw:Region.wanted o (yielded ops a.tmps)=true:=by as_aux_lemma=>kernel_rfl)
  (hx:(execOp a.eval o).run P w=.ok (.value v) V:=by as_aux_lemma=>kernel_rfl):wpAnyH P md ops Q S (fuel+1) listed a w:=
 st i (λK hK=>arma d hK v V hS h hd hw hx) ho hr
theorem fork2 (i j:Nat) {oi oj:Oper} {fuel:Nat} {listed:Array Bool} {a:Act} {w:World}
  (h1:∀K':Act->World->Prop,Shut (∀a w,S w->(S w->wpAnyH P md ops Q S fuel (listed.setIfInBounds i true) a w)->K' a w)->if Region.wanted oi (yielded ops a.tmps)=true then Oper.wp P oi a w K' Q else K' (a.put oi.dst undef) w)
  (h2:∀K':Act->World->Prop,Shut (∀a w,S w->(S w->wpAnyH P md ops Q S fuel (listed.setIfInBounds j true) a w)->K' a w)->if Region.wanted oj (yielded ops a.tmps)=true then Oper.wp P oj a w K' Q else K' (a.put oj.dst undef) w)
  (ho1:ops[i]? = some oi:=by rfl) (ho2:ops[j]? = some oj:=by rfl) (hr:Region.ready md ops listed=[i,j]:=by as_aux_lemma=>kernel_rfl):wpAnyH P md ops Q S (fuel+1) listed a w:=
 wpAnyH_ready hr Zs (Yal ho1 h1 (Yal ho2 h2 Yas))
theorem pt {fuel:Nat} {listed:Array Bool} {a a':Act} {w:World} (h:wpAnyH P md ops Q S fuel listed a' w) (ha:a=a':=by(simp only[Act.put,Zsi,Zs0,Zss];rfl)):wpAnyH P md ops Q S fuel listed a w:=by
 subst ha;exact h
end
end
section
open Go.RowKit
theorem Box.range {w:World} {B:Nat} {T:TypeId} {cs:Array Value} (b:Box w B T cs):w.rangeAt B 0 cs.toList:=λj v hv=>by
 rw[Yba,b.cell,<-Yaq];exact hv
theorem Box.there {w:World} {B:Nat} {T:TypeId} {cs:Array Value} (b:Box w B T cs) (o n:Nat) (hn:o+n<=cs.size):w.there B o n:=λj hj=>by
 refine⟨?_,b.frozen _⟩;rw[b.cell];simp;omega
theorem Box.setCells {B:Nat} {T:TypeId}:∀(vs:List Value) (o:Nat) (w:World) (cs:Array Value),Box w B T cs->o+vs.length<=cs.size->
  Box (w.setCells B o vs) B T (cs.toList.take o++vs++cs.toList.drop (o+vs.length)).toArray
 | [],o,w,cs,h,_=>by simpa[World.setCells]using h
 | v :: r, o, w, cs, h, hn => by
   rw[World.setCells];have hn':o+(r.length+1)<=cs.size:=by simpa using hn
   have:=Box.setCells r (o+1) _ _ (h.set o v) (by simp;omega);refine cast (congrArg _ ?_) this;apply congrArg;apply List.ext_getElem?;intro i;simp only[List.getElem?_append,Yay,Ycq,Yfs,Array.toList_setIfInBounds,List.length_set,Ybm,Yaz,Ycv,Yeh,List.getElem?_set];by_cases h1:i<o
   ·simp[show i<min (o+1) cs.size by omega,show i<min o cs.size by omega,show i<min (o+1) cs.size+r.length by omega,show i<min o cs.size+(r.length+1) by omega,show i<o+1 by omega,h1,show ¬o=i by omega]
   ·by_cases h2 : i = o
    ·subst h2
     simp[show i<min (i+1) cs.size by omega,show ¬i<min i cs.size by omega,show i<min (i+1) cs.size+r.length by omega,show i<min i cs.size+(r.length+1) by omega,show i<cs.size by omega,show min i cs.size=i by omega]
    ·by_cases h3:i<o+1+r.length
     ·have e1:i-min (o+1) cs.size=i-(o+1):=by omega
      have e2:i-min o cs.size=(i-(o+1))+1:=Zo;simp[show ¬i<min (o+1) cs.size by omega,show ¬i<min o cs.size by omega,show i<min (o+1) cs.size+r.length by omega,show i<min o cs.size+(r.length+1) by omega,e1,e2]
     ·have e1:o+1+r.length+(i-(min (o+1) cs.size+r.length))=i:=by omega
      have e2:o+(r.length+1)+(i-(min o cs.size+(r.length+1)))=i:=Zo;simp[show ¬i<min (o+1) cs.size+r.length by omega,show ¬i<min o cs.size+(r.length+1) by omega,e1,e2,show ¬o=i by omega]
theorem KeepBut.setCells {R N:Nat} {W:World}:∀(vs:List Value) (o:Nat) (w:World),KeepBut R N W w->KeepBut R N W (w.setCells R o vs)
 | [],_,_,h=>h
 | v :: r, o, w, h => by
   rw[World.setCells];exact KeepBut.setCells r (o+1) _ (h.set o v)
section
variable {P:Program} {ops:Array Oper} {rest:List Oper} {o:Oper} {a:Act} {w:World} {Q:Exit->Act->World->Prop}
theorem Zak (hg:o.guard=none) (T:TypeId) (ho:o.op=.alloc T) (zs:Array Value)
  (hrun:∀w,(Instr.alloc T true (.tuple #[])).run P w=.ok (.pointer (some ⟨w.heap.size,0,none⟩)) (w.alloc (.cells zs T)))
  (h:∀W B,w.heap.size<=B->Below w.heap.size w W->Box W B T zs->wpList P ops Q rest (a.put o.dst (.pointer (some ⟨B,0,none⟩))) W):wpList P ops Q (o::rest) a w:=by
 refine wpList_plain hg λK hK=>?_;unfold Oper.wp execOp;simp only[ho,Yar,hrun,Yag,Yau];exact hK _ _ (h _ _ (Yab _) ((Yae _ _).alloc (Yab _) _) (Box.new _ _ _))
theorem Zao (hg:o.guard=none) (t:TypeId) (parts:Array (Nat×Operand)) (ho:o.op=.build t parts) (cells:Array Value)
  (hc:P.built t (parts.map λ(i,x)=>(i,a.eval x)).toList=some cells) (h:wpList P ops Q rest (a.put o.dst (.agg cells)) w):wpList P ops Q (o::rest) a w:=
 wpList_build hg t parts ho (by rw[hc];rfl) (by rw[hc];exact h)
theorem Zac (hg:o.guard=none) (ty:TypeId) (x:Operand) (ho:o.op=.load ty x) (B:Nat) (hx:a.eval x=.pointer (some ⟨B,0,none⟩)) (T:TypeId) (cells:Array Value) (hb:Box w B T cells)
  (d:TypeDesc) (hu:P.underlying ty=some d) (hd:d.isRow=true) (hi:(P.info? ty).map (·.size)=some cells.size)
  (h:wpList P ops Q rest (a.put o.dst (.agg cells)) w):wpList P ops Q (o::rest) a w:=
 wpList_load_mid hg ty x ho B 0 hx cells.toList d hb.range hu hd (by simpa using hi) (by simpa using h)
theorem Zab (hg:o.guard=none) (ty:TypeId) (x y:Operand) (ho:o.op=.store ty x y) (B off:Nat) (T:TypeId) (old cells new:Array Value) (hx:a.eval x=.pointer (some ⟨B,off,none⟩)) (hy:a.eval y=.agg cells)
  (hb:Box w B T old) (hi:(P.info? ty).map (·.size)=some cells.size) (hold:off+cells.size<=old.size) (h1:cells.all (·.oneCell')=true)
  (hn:old.toList.take off++cells.toList++old.toList.drop (off+cells.size)=new.toList)
  (h:∀W,KeepBut B w.heap.size w W->Box W B T new->wpList P ops Q rest (a.put o.dst undef) W):wpList P ops Q (o::rest) a w:=by
 refine wpList_store_mid hg ty x y ho B off cells hx hy (hb.there off cells.size hold) hi h1 (h _ ((KeepBut.refl _ _).setCells _ _ _) ?_);have:=Box.setCells cells.toList off w old hb (by simpa using hold);simpa[hn]using this
end
section
variable {P:Program} {ops:Array Oper} {rest:List Oper} {a:Act} {w:World} {Q:Exit->Act->World->Prop} {T0 T1 T2:TypeId} {c0 c1 c2:Array Value}
theorem Zd5 (h:∀W,Below w.heap.size w W->w.heap.size+1<=W.heap.size->Box W w.heap.size T0 c0->wpList P ops Q rest a W):wpList P ops Q rest a (w.alloc (.cells c0 T0)):=
 h _ ((Yae _ _).alloc (Yab _) _) Zs (Box.new _ _ _)
theorem Zb6 (h:∀W,Below w.heap.size w W->w.heap.size+2<=W.heap.size->Box W w.heap.size T0 c0->Box W (w.heap.size+1) T1 c1->wpList P ops Q rest a W):wpList P ops Q rest a ((w.alloc (.cells c0 T0)).alloc (.cells c1 T1)):=by
 refine h _ (((Yae _ _).alloc (Yab _) _).alloc Zs _) Zs ((Box.new _ _ _).alloc _) ?_;have:=Box.new (w.alloc (.cells c0 T0)) T1 c1;rwa [Yav]at this
end
theorem Box.results {P:Program} {w:World} {B:Nat} {T:TypeId} {cs:Array Value} (b:Box w B T cs) {fn:Func} {p:Tmp} {ty:TypeId} (h:fn.results = #[.cell p ty]) (tmps:Array Value) (d:TypeDesc)
  (ht:tmps.getD p undef=.pointer (some ⟨B,0,none⟩)) (hu:P.underlying ty=some d) (hd:d.isRow=true) (hi:(P.info? ty).map (·.size)=some cs.size):(results fn tmps).run P w=.ok (.agg cs) w:=by
 refine results_cell_row h tmps w B T cs (0,0) d ht b.blk hu ?_ hi;cases d<;>simp_all [TypeDesc.isRow]
theorem Zbn {S:World->Prop} {B:Nat} (hS:∀w i u,S w->S (w.setCell ⟨B,i,none⟩ u)):∀(vs:List Value) (o:Nat) (w:World),S w->S (w.setCells B o vs)
 | [],_,_,h=>h
 | v :: r, o, w, h => by
   rw[World.setCells];exact Zbn hS r (o+1) _ (hS _ _ _ h)
section
variable {P:Program} {ops:Array Oper} {Q:Exit->Act->World->Prop} {md:Region.Mode} {S:World->Prop}
theorem Zi6 (B:Nat) (T:TypeId) (i:Nat) {o:Oper} (hi:ops[i]? = some o) (hg:o.guard=none) (hd:o.dst=none) {ty:TypeId} {x y:Operand} (ho:o.op=.store ty x y) (off:Nat) (cells cs new:Array Value) {a:Act} {fuel:Nat} {listed:Array Bool} {w:World}
  (hr:Region.ready md ops listed=[i]) (hS:∀w i u,S w->S (w.setCell ⟨B,i,none⟩ u)) (hx:a.eval x=.pointer (some ⟨B,off,none⟩)) (hy:a.eval y=.agg cells)
  (hb:Box w B T cs) (hs:S w) (hi2:(P.info? ty).map (·.size)=some cells.size) (hoff:off+cells.size<=cs.size) (h1:cells.all (·.oneCell')=true)
  (hn:cs.toList.take off++cells.toList++cs.toList.drop (off+cells.size)=new.toList)
  (h:∀w',Box w' B T new->S w'->wpAnyH P md ops Q S fuel (listed.setIfInBounds i true) a w'):wpAnyH P md ops Q S (fuel+1) listed a w:=by
 refine wpAnyH_all hr Zs λj hj=>?_;obtain rfl:j=i:=by simpa using hj
 unfold wpOp;rw[hi];have hw:Region.wanted o (yielded ops a.tmps)=true:=by simp[Region.wanted,hg]
 simp only[hw,if_true];left
 have hb2:=Box.setCells cells.toList off w cs hb (by simpa using hoff);have hb3:Box (w.setCells B off cells.toList) B T new:=by simpa[hn]using hb2
 have hs2:=Zbn hS cells.toList off w hs;refine wp_store_mid ty x y ho B off cells hx hy (hb.there off cells.size hoff) hi2 h1 ?_;rw[hd];exact⟨hs2,h _ hb3 hs2⟩
end
theorem Zaj {P:Program} {S:World->Prop} {oi:Oper} {a:Act} (ty:TypeId) (x:Operand) (ho:oi.op=.load ty x) (b o:Nat) (hx:a.eval x=.pointer (some ⟨b,o,none⟩)) (cells:Array Value) (hc:∀w,S w->w.rangeAt b o cells.toList)
  (d:TypeDesc) (hu:P.underlying ty=some d) (hd:d.isRow=true) (hi:(P.info? ty).map (·.size)=some cells.size):∀w,S w->(execOp a.eval oi).run P w=.ok (.value (.agg cells)) w:=λw hS=>by
 unfold execOp;simp only[ho,hx,Yar,run_loadAt_mid w b o ty cells.toList d (hc w hS) hu hd (by simpa using hi),Yag,Yau]
end
end Go.Mono
namespace Go.Proofs.W
open Go.RowKit Go.Mono
theorem Zyx (p:Option Addr) (n c1:Nat) (f:Nat->Int) (d:Int) (w:World) (h1:SlF w (.slice p n c1) n f)
  (f0:∀i,i<n->0<=f i) (f1:∀i,i<n->f i<1000000000) (hn:n<=1000000) (d0:0<=d) (d1:d<1000000000) :
  Calls Tryz.prog 191 #[.slice p n c1,.int .i64 d] w λe w'=>e=.returned (.slice (some ⟨w.heap.size,0,none⟩) (n+1) (n+1))∧Below w.heap.size w w'∧
   ∃h,RowF w' w.heap.size (n+1) h∧(∀j,j<n+1->0<=h j)∧(∀j,j<n+1->h j<1000000000)∧vf h (n+1)=vf f n*d:=by
 obtain⟨hc1,hn1,hx1⟩:=h1.opens;clear h1;go_enter Tryz.func191,Tryz.ntmps191
 go_wp2_with (at_make;refine Za1 _ rfl _ _ 119 rfl Tryz.underlying119 Zby _ _ (n+1) rfl rfl Zs Zs Zo ?_;intro w1 r1 b1;have s1:=b1.size;have L1:=r1.lt)
 go_loopw [6,16] (λc a wr=>∃i:Nat,i<=n∧a=.int .i64 i∧Below w.heap.size w wr∧∃h cc,c=.int .i64 cc∧RowF wr w.heap.size (n+1) h∧ByInv n f d i h cc) (λ_ a _=>n-(intOf a).toNat)
 case atStart=>exact⟨0,Yat _,rfl,b1,_,_,rfl,r1,ByInv.start⟩
 case round=>
  clear b1 s1 L1 r1;obtain⟨i,hi,rfl,hb,h,cc,rfl,hr,HT⟩:=hrel;by_cases hlt:i<n
  ·obtain⟨b,off,rfl,hbs,hcell⟩:=hx1 Zo
   have a1:=(hb.cell (p:=⟨b,off+i,none⟩) hbs).trans (hcell i hlt);have fi0:=f0 i hlt;have fi1:=f1 i hlt;have a2:=hr.cell i Zo;have a3:=hr.frozen i;have d3:=HT.c0;have d4:=HT.c1;obtain⟨d5,d6⟩:=Zgp fi0 fi1 d0 d1;clear hcell hx1 f0 f1;go_wp2
   go_roundw
   case rel=>exact⟨i+1,Zo,by go_num,hb.setCell (p:=⟨w.heap.size,i,none⟩) (Yab _) _,_,_,rfl,hr.set i _,HT.step hlt fi0 fi1 d0 d1⟩
   case measure=>simp[intOf];omega
  ·obtain rfl:i=n:=by omega
   have a2:=hr.cell i Zo;have a3:=hr.frozen i;obtain⟨q1,q2,q3⟩:=HT.done;replace q3:=Yah q3;clear hlt hi hx1 f0 f1;go_wp2
   go_ret
   exact⟨rfl,hb.setCell (p:=⟨w.heap.size,i,none⟩) (Yab _) _,_,hr.set i cc,q1,q2,q3.out⟩
theorem Zug (p:Option Addr) (n c1:Nat) (f:Nat->Int) (d:Int) (w:World) (h1:SlF w (.slice p n c1) n f)
  (f0:∀i,i<n->0<=f i) (f1:∀i,i<n->f i<1000000000) (hn:n<=1000000) (d0:0<d) (d1:d<1000000000) :
  Calls Tryz.prog 190 #[.slice p n c1,.int .i64 d] w λe w'=>∃b k h r,e=.returned (.tuple #[.slice (some ⟨b,0,none⟩) k n,.int .i64 r])∧SlF w' (.slice (some ⟨b,0,none⟩) k n) k h∧Digs h k∧vf f n=d*vf h k+r∧0<=r∧r<d∧k<=n∧Below w.heap.size w w':=by
 obtain⟨hc1,hn1,hx1⟩:=h1.opens;clear h1;go_enter Tryz.func190,Tryz.ntmps190
 go_wp2_with (at_make;refine Za1 _ rfl _ _ 119 rfl Tryz.underlying119 Zby _ _ n rfl rfl Zs Zs Zo ?_;intro w1 r1 b1;have s1:=b1.size;have L1:=r1.lt)
 go_loopw [7,8] (λc a wr=>∃i:Nat,i<=n∧a=.int .i64 ((i:Int)-1)∧Below w.heap.size w wr∧∃h cc,c=.int .i64 cc∧RowF wr w.heap.size n h∧PartInv n f d i h cc) (λ_ a _=>(intOf a+1).toNat)
 case atStart=>exact⟨n,Yab _,rfl,b1,_,_,rfl,r1,PartInv.start d0⟩
 case round=>
  clear b1 s1 L1 r1;obtain⟨i,hi,rfl,hb,h,cc,rfl,hr,HT⟩:=hrel;by_cases hlt:0<i
  ·obtain⟨b,off,rfl,hbs,hcell⟩:=hx1 Zo
   obtain⟨i,rfl⟩:∃j,i=j+1:=⟨i-1,Zo⟩
   rw[show((i+1:Nat):Int)-1=(i:Int) by omega];have a1:=(hb.cell (p:=⟨b,off+i,none⟩) hbs).trans (hcell i Zo);have fi0:=f0 i Zo;have fi1:=f1 i Zo;have a2:=hr.cell i Zo;have a3:=hr.frozen i;have d3:=HT.r0;have d4:=HT.r1;have hd:¬d=0:=Zo;clear hcell hx1 f0 f1;go_wp2
   go_region
   go_wp2
   go_roundw
   case rel=>exact⟨i,Zo,rfl,(hb.setCell (p:=⟨w.heap.size,i,none⟩) (Yab _) _).drew,_,_,rfl,(hr.set i _).drewN 1,HT.step Zo fi0 fi1⟩
   case measure=>simp[intOf]
  ·obtain rfl:i=0:=by omega
   clear hlt hi hx1 f0 f1;have hs:=hr.slice Zo n (Yab _) n (Yab _);obtain⟨c1',c2'⟩:=HT.done;have hle:=Za3 h n;have d3:=HT.r0;have d4:=HT.r1;replace c2':=Yah c2';go_wp2_with (go_at_call 161;refine(Zcj _ _ _ h _ hs).mono ?_;rintro e w' ⟨rfl,rfl⟩)
   go_ret2
   exact⟨_,_,h,cc,rfl,hs.take _ hle,c1',c2'.out,d3,d4,hle,hb⟩

theorem Zqu (m1:Nat) (w wf:World) (hx:Ext wf w) (p:Option Addr) (n c1:Nat) (N d:Int) (h1:Sz m1 wf (.slice p n c1) N) (hm1:m1<=1000000) (d0:0<d) (d1:d<1000000000) :
  Calls Tryz.prog 190 #[.slice p n c1,.int .i64 d] w λe w'=>∃p k c,e=.returned (.tuple #[.slice p k c,.int .i64 (N%d)])∧Sz m1 w' (.slice p k c) (N/d)∧Below w.heap.size w w':=by
 obtain⟨n,f,s1,d1',rfl,l1,rfl⟩:=(h1.ext hx).sl;refine(Zug p n c1 f d w s1 d1'.lo d1'.hi Zo d0 d1).mono ?_;rintro e w' ⟨b,k,h,r,rfl,hs,hd,hv,r0,r1,hk,hb⟩;have e1:vf f n/d=vf h k:=by
  rw[hv];exact Int.ediv_eq_iff_of_pos d0 |>.2 ⟨by rw[Ydh];omega,by rw[Ydh];omega⟩
 have e2:vf f n%d=r:=by
  have:=Ycf (vf f n) d;rw[e1]at this;omega
 exact⟨_,_,_,by rw[e2],⟨k,h,hs,hd,e1.symm,Zo⟩,hb⟩
end Go.Proofs.W
namespace Go.Mono
open Go.RowKit
section
section
variable {F:Fence} {n:Nat} {P:Program} {ops:Array Oper} {rest:List Oper} {o:Oper} {a:Act} {w:World} {Q:Exit->Act->World->Prop}
theorem Zlh (hg:o.guard=none) (T:TypeId) (ho:o.op=.alloc T) (zs:Array Value)
  (hrun:∀w,(Instr.alloc T true (.tuple #[])).run P w=.ok (.pointer (some ⟨w.heap.size,0,none⟩)) (w.alloc (.cells zs T)))
  (h:∀W B,w.heap.size<=B->Below w.heap.size w W->Box W B T zs->wpListIn F n P ops Q rest (a.put o.dst (.pointer (some ⟨B,0,none⟩))) W):wpListIn F n P ops Q (o::rest) a w:=by
 refine wpListIn_plain hg λK hK=>?_;unfold Oper.wpIn;refine⟨by simp[Oper.about,ho],?_⟩;rw[Oper.semAt_plain F _ _ (by rw[ho];intro c hc';cases hc')];unfold execOp;simp only[ho,Yar,hrun,Yag,Yau];exact hK _ _ (h _ _ (Yab _) ((Yae _ _).alloc (Yab _) _) (Box.new _ _ _))
theorem Zfk (hg:o.guard=none) (ty:TypeId) (x:Operand) (ho:o.op=.load ty x)
  (b off:Nat) (hx:a.eval x=.pointer (some ⟨b,off,none⟩)) (cs:List Value) (d:TypeDesc) (hc:w.rangeAt b off cs)
  (hu:P.underlying ty=some d) (hd:d.isRow=true) (hi:(P.info? ty).map (·.size)=some cs.length)
  (h:wpListIn F n P ops Q rest (a.put o.dst (.agg cs.toArray)) w):wpListIn F n P ops Q (o::rest) a w:=by
 refine wpListIn_plain hg λK hK=>?_;unfold Oper.wpIn;refine⟨by simp[Oper.about,ho],?_⟩;rw[Oper.semAt_plain F _ _ (by rw[ho];intro c hc';cases hc')];unfold execOp;simp only[ho,hx,Yar,run_loadAt_mid w b off ty cs d hc hu hd hi,Yag,Yau];exact hK _ _ h
theorem Zew (hg:o.guard=none) (ty:TypeId) (x y:Operand) (ho:o.op=.store ty x y) (B off:Nat) (T:TypeId) (old cells new:Array Value) (hx:a.eval x=.pointer (some ⟨B,off,none⟩)) (hy:a.eval y=.agg cells)
  (hb:Box w B T old) (hi:(P.info? ty).map (·.size)=some cells.size) (hold:off+cells.size<=old.size) (h1:cells.all (·.oneCell')=true)
  (hn:old.toList.take off++cells.toList++old.toList.drop (off+cells.size)=new.toList)
  (h:∀W,KeepBut B w.heap.size w W->KeepsOthers w W->Box W B T new->wpListIn F n P ops Q rest (a.put o.dst undef) W):wpListIn F n P ops Q (o::rest) a w:=by
 refine wpListIn_plain hg λK hK=>?_;unfold Oper.wpIn;refine⟨by simp[Oper.about,ho],?_⟩;rw[Oper.semAt_plain F _ _ (by rw[ho];intro c hc';cases hc')];unfold execOp;simp only[ho,hx,hy,Yar,run_storeAt_mid w B off ty cells (hb.there off cells.size hold) hi h1,Yag,Yau];refine hK _ _ (h _ ((KeepBut.refl _ _).setCells _ _ _) (Zbn (S:=λV=>KeepsOthers w V) (B:=B) (λV i u hV=>hV.trans (.setCell _ _ _)) _ _ _ (.refl _)) ?_);have:=Box.setCells cells.toList off w old hb (by simpa using hold);simpa[hn]using this
end
theorem Zag {old cells:Array Value} (h:old.size=cells.size):old.toList.take 0++cells.toList++old.toList.drop (0+cells.size)=cells.toList:=by
 simp[<-h]
end
section
structure Fa where
 i:Nat
 d:Tmp
 T:TypeId
 zs:Array Value
def setL:List (Fa×Option Nat)->Array Bool->Array Bool
 | [],l=>l
 | q :: r, l => match q.2 with
   | some _=>setL r (l.setIfInBounds q.1.i true)
   | none=>setL r l
def setA:List (Fa×Option Nat)->Act->Act
 | [],a=>a
 | q :: r, a => match q.2 with
   | some B=>setA r (a.put (some q.1.d) (.pointer (some ⟨B,0,none⟩)))
   | none=>setA r a
def cnt:List (Fa×Option Nat)->Nat
 | []=>0
 | q :: r => (match q.2 with
   | some _=>1
   | none=>0)+cnt r
def pend:List (Fa×Option Nat)->List Nat
 | []=>[]
 | q :: r => match q.2 with
   | some _=>pend r
   | none=>q.1.i::pend r
def okA (N:Nat) (w:World) (qs:List (Fa×Option Nat)):Prop:=
 (∀q∈qs,∀B,q.2=some B->N<=B∧Box w B q.1.T q.1.zs)∧qs.Pairwise λx y=>∀B,x.2=some B->y.2≠some B
def norm (q:Fa×Option Nat):Fa×Option Nat:=(q.1,q.2.map λ_=>0)
def allPats:List Fa->List (List (Fa×Option Nat))
 | []=>[[]]
 | f::r=>(allPats r).flatMap λqs=>[(f,none)::qs,(f,some 0)::qs]
theorem Zg7:∀qs:List (Fa×Option Nat),qs.map norm∈allPats (qs.map (·.1))
 | []=>by simp[allPats]
 | (f, o) :: r => by
   simp only[Ybz,allPats,List.mem_flatMap];refine⟨_,Zg7 r,?_⟩;cases o<;>simp[norm]
theorem Zdq:∀(qs:List (Fa×Option Nat)) (l:Array Bool),setL (qs.map norm) l=setL qs l
 | [],_=>rfl
 | (f,none)::r,l=>Zdq r l
 | (f,some _)::r,l=>Zdq r _
theorem Zey:∀qs:List (Fa×Option Nat),pend (qs.map norm)=pend qs
 | []=>rfl
 | (f,none)::r=>congrArg (f.i::·) (Zey r)
 | (f,some _)::r=>Zey r
theorem Zvf (l:Array Bool) (i j:Nat):(l.setIfInBounds i true).setIfInBounds j true=(l.setIfInBounds j true).setIfInBounds i true:=by
 by_cases h:i=j
 ·subst h;rfl
 ·exact Array.setIfInBounds_comm _ _ h
theorem Zez (i:Nat):∀(qs:List (Fa×Option Nat)) (l:Array Bool),setL qs (l.setIfInBounds i true)=(setL qs l).setIfInBounds i true
 | [],_=>rfl
 | (f,none)::r,l=>Zez i r l
 | (f, some _) :: r, l => by
   show setL r ((l.setIfInBounds i true).setIfInBounds f.i true)=(setL r (l.setIfInBounds f.i true)).setIfInBounds i true;rw[Zvf,Zez i r]
theorem Ze0 (d:Tmp) (v:Value):∀(qs:List (Fa×Option Nat)) (a:Act),(∀q∈qs,q.1.d≠d)->setA qs (a.put (some d) v)=(setA qs a).put (some d) v
 | [],_,_=>rfl
 | (f,none)::r,a,h=>Ze0 d v r a λq hq=>h q (Ybs _ hq)
 | (f, some B) :: r, a, h => by
   show setA r ((a.put (some d) v).put (some f.d) _)=(setA r (a.put (some f.d) _)).put (some d) v;rw[Act.put_comm a v _ (by
    intro e he;cases he;intro hh;cases hh;exact h (f,some B) (Ycl ..) rfl),Ze0 d v r _ λq hq=>h q (Ybs _ hq)]
theorem Zgf:∀(p q:List (Fa×Option Nat)) (l:Array Bool),setL (p++q) l=setL q (setL p l)
 | [],_,_=>rfl
 | (f,none)::r,q,l=>Zgf r q l
 | (f,some _)::r,q,l=>Zgf r q _
theorem Zgg:∀(p q:List (Fa×Option Nat)) (a:Act),setA (p++q) a=setA q (setA p a)
 | [],_,_=>rfl
 | (f,none)::r,q,a=>Zgg r q a
 | (f,some _)::r,q,a=>Zgg r q _
theorem Zjv:∀p q:List (Fa×Option Nat),cnt (p++q)=cnt p+cnt q
 | [],q=>by simp[cnt]
 | (f,o)::r,q=>by simp only[Ydi,cnt,Zjv r q,Ybj]
theorem Zg8:∀p:List (Fa×Option Nat),cnt p<=p.length
 | []=>Yab _
 | (f,none)::r=>by have:=Zg8 r;simp only[cnt,Ybm];omega
 | (f,some _)::r=>by have:=Zg8 r;simp only[cnt,Ybm];omega
theorem Zc9 {j:Nat}:∀qs:List (Fa×Option Nat),j∈pend qs->∃p f r,qs=p++(f,none)::r∧f.i=j
 | [],h=>by cases h
 | (f, none) :: r, h => by
   rcases Ycp.1 h with h|h
   ·exact⟨[],f,r,rfl,h.symm⟩
   ·obtain⟨p,g,s,rfl,hg⟩:=Zc9 r h
    exact⟨(f,none)::p,g,s,rfl,hg⟩
 | (f, some B) :: r, h => by
   obtain⟨p,g,s,rfl,hg⟩:=Zc9 r h;exact⟨(f,some B)::p,g,s,rfl,hg⟩
theorem Zwk:∀(p:List (Fa×Option Nat)) (f:Fa) (r:List (Fa×Option Nat)),cnt (p++(f,none)::r)<(p++(f,none)::r).length:=λp f r=>by
 have h1:=Zg8 p;have h2:=Zg8 r;simp only[Zjv,cnt,Yay,Ybm];omega
theorem okA.below {N:Nat} {w w':World} {qs:List (Fa×Option Nat)} (h:okA N w qs) (hb:Below w.heap.size w w'):okA N w' qs:=
 ⟨λq hq B hB=>⟨(h.1 q hq B hB).1,(h.1 q hq B hB).2.below hb⟩,h.2⟩
theorem okA.fresh {N:Nat} {w:World} {p r:List (Fa×Option Nat)} {f:Fa} (h:okA N w (p++(f,none)::r)) (hN:N<=w.heap.size) :
  okA N (w.alloc (.cells f.zs f.T)) (p++(f,some w.heap.size)::r):=by
 have lt:∀q,q∈p∨q∈r->q.2≠some w.heap.size:=λq hq he=>by
  have hq':q∈p++(f,none)::r:=by rcases hq with hq|hq<;>simp[hq]
  exact Yfw _ (h.1 q hq' _ he).2.lt
 constructor
 ·intro q hq B hB
  rw[Ycn,Ycp]at hq;rcases hq with hq|rfl|hq
  ·have:=h.1 q (by simp[hq]) B hB
   exact⟨this.1,this.2.alloc _⟩
  ·cases hB
   exact⟨hN,Box.new _ _ _⟩
  ·have:=h.1 q (by simp[hq]) B hB
   exact⟨this.1,this.2.alloc _⟩
 ·have h2:=h.2
  rw[List.pairwise_append,List.pairwise_cons]at h2 ⊢;refine⟨h2.1,⟨λq hq B hB=>?_,h2.2.1.2⟩,λx hx y hy=>?_⟩
  ·cases hB
   exact lt q (.inr hq)
  ·rcases Ycp.1 hy with rfl|hy
   ·intro B hB hh
    cases hh;exact lt x (.inl hx) hB
   ·exact h2.2.2 x hx y (Ybs _ hy)
section
variable {P:Program} {ops:Array Oper} {Q:Exit->Act->World->Prop} {md:Region.Mode} {S:World->Prop}
structure FaOk (P:Program) (ops:Array Oper) (f:Fa):Prop where
 op:∃o,ops[f.i]? = some o∧o.guard=none∧o.op=.alloc f.T∧o.dst=some f.d
 run:∀w,(Instr.alloc f.T true (.tuple #[])).run P w=.ok (.pointer (some ⟨w.heap.size,0,none⟩)) (w.alloc (.cells f.zs f.T))
def FaAll (P:Program) (ops:Array Oper) (ps:List Fa):Prop:=(∀f∈ps,FaOk P ops f)∧(ps.map (·.d)).Nodup
def Fl (P:Program) (md:Region.Mode) (ops:Array Oper) (Q:Exit->Act->World->Prop) (S:World->Prop) (N:Nat) (ps:List Fa) (F:Nat) (listed:Array Bool) (a:Act) (V:World):Prop:=
 ∀qs w,qs.map (·.1)=ps->Below V.heap.size V w->S w->okA N w qs->wpAnyH P md ops Q S (F-cnt qs) (setL qs listed) (setA qs a) w
def blind (ops:Array Oper) (ps:List Fa) (o:Oper):Bool:=ps.all λf=>!(o.looksAt ops).contains f.d
theorem Ze1 (hs:Region.noSelect ops=true) {i:Nat} {o:Oper} (hi:ops[i]? = some o):∀(qs:List (Fa×Option Nat)) (a:Act),blind ops (qs.map (·.1)) o=true->
  execOp (setA qs a).eval o=execOp a.eval o∧Region.wanted o (yielded ops (setA qs a).tmps)=Region.wanted o (yielded ops a.tmps)
 | [],_,_=>⟨rfl,rfl⟩
 | (f, none) :: r, a, h => Ze1 hs hi r a (by
   simp only[blind,Ybz,List.all_cons,Yam]at h ⊢;exact h.2)
 | (f, some B) :: r, a, h => by
   simp only[blind,Ybz,List.all_cons,Yam]at h;have ih:=Ze1 hs hi r (a.put (some f.d) (.pointer (some ⟨B,0,none⟩))) h.2;have hd:∀d,some f.d=some d->d ∉ o.looksAt ops:=λd hd=>by
    cases hd;simpa using h.1
   exact⟨ih.1.trans (execOp_put o (Region.noSelect_spec hs i o · · hi) a _ _ hd),ih.2.trans (wanted_put o a _ _ hd)⟩
def shapeAt (md:Region.Mode) (ops:Array Oper) (ps:List Fa) (listed:Array Bool) (i:Nat):Bool:=
 (allPats ps).all λqs=>(Region.ready md ops (setL qs listed)).contains i&&(Region.ready md ops (setL qs listed)).all λj=>j==i || (pend qs).contains j
def shapeEnd (md:Region.Mode) (ops:Array Oper) (ps:List Fa) (listed:Array Bool):Bool:=
 (allPats ps).all λqs=>(pend qs).isEmpty || ((!(Region.ready md ops (setL qs listed)).isEmpty)&&(Region.ready md ops (setL qs listed)).all λj=>(pend qs).contains j)
def freeAt (md:Region.Mode) (ops:Array Oper) (ps:List Fa) (listed:Array Bool) (i:Nat):Bool:=
 (allPats ps).all λqs=>(Region.ready md ops (setL qs listed)).contains i&&Region.free md ops (setL qs listed) i
theorem Fl.alloc {ps:List Fa} {k:Nat} {listed:Array Bool} {a:Act} {w:World} (hfa:FaAll P ops ps) {p:List (Fa×Option Nat)} {f:Fa} {r:List (Fa×Option Nat)} (hq:(p++(f,none)::r).map (·.1)=ps)
  (h:wpAnyH P md ops Q S k (setL (p++(f,some w.heap.size)::r) listed) (setA (p++(f,some w.heap.size)::r) a) (w.alloc (.cells f.zs f.T)))
  (hS:S (w.alloc (.cells f.zs f.T))) :
  wpOp P ops Q f.i (λa' w'=>S w'∧wpAnyH P md ops Q S k ((setL (p++(f,none)::r) listed).setIfInBounds f.i true) a' w') (setA (p++(f,none)::r) a) w:=by
 have hmem:f∈ps:=by rw[<-hq];simp
 obtain⟨⟨o,ho,hg,hop,hd⟩,hrun⟩:=hfa.1 f hmem;unfold wpOp;simp only[ho];have hw:Region.wanted o (yielded ops (setA (p++(f,none)::r) a).tmps)=true:=by simp[Region.wanted,hg]
 rw[if_pos hw];left
 unfold Oper.wp execOp;simp only[hop,Yar,hrun,Yag,Yau,Oper.upon_value,hd];refine⟨hS,?_⟩;have hnd:=hfa.2;rw[<-hq]at hnd;simp only[List.map_append,Ybz,List.nodup_append,List.nodup_cons]at hnd;have hr:∀q∈r,q.1.d≠f.d:=λq hq' he=>hnd.2.1.1 (by
  rw[<-he];exact Yed (Yed hq'))
 have e1:(setL (p++(f,none)::r) listed).setIfInBounds f.i true=setL (p++(f,some w.heap.size)::r) listed:=by
  rw[Zgf,Zgf];show(setL r (setL p listed)).setIfInBounds f.i true=setL r ((setL p listed).setIfInBounds f.i true);rw[Zez]
 have e2:(setA (p++(f,none)::r) a).put (some f.d) (.pointer (some ⟨w.heap.size,0,none⟩))=setA (p++(f,some w.heap.size)::r) a:=by
  rw[Zgg,Zgg];show(setA r (setA p a)).put (some f.d) _=setA r ((setA p a).put (some f.d) _);rw[Ze0 _ _ r _ hr]
 rw[e1,e2];exact h
theorem Fl.start {F:Nat} {listed:Array Bool} {a:Act} {V:World} (ps:List Fa) (h:Fl P md ops Q S V.heap.size ps F listed a V) (hS:S V:=by assumption):wpAnyH P md ops Q S F listed a V:=by
 have hl:∀ps:List Fa,(setL (ps.map λf=>(f,none)) listed=listed∧setA (ps.map λf=>(f,none)) a=a∧cnt (ps.map λf=>(f,none))=0):=by
  intro ps;induction ps with
  | nil=>exact⟨rfl,rfl,rfl⟩
  | cons f r ih=>exact⟨ih.1,ih.2.1,by simp only[Ybz,cnt,ih.2.2]⟩
 have:=h (ps.map λf=>(f,none)) V (by rw[List.map_map];exact List.map_id _) (Yae _ _) hS ⟨λq hq B hB=>(by
  obtain⟨f,_,rfl⟩:=Ydl.1 hq;cases hB),(by
  rw[List.pairwise_map];exact List.pairwise_of_forall λ_ _ B hB=>nomatch hB)⟩
 rw[(hl ps).1,(hl ps).2.1,(hl ps).2.2]at this;exact this
theorem Zsm {ps:List Fa} {g:List (Fa×Option Nat)->Bool} (h:(allPats ps).all g=true) {qs:List (Fa×Option Nat)} (hq:qs.map (·.1)=ps):g (qs.map norm)=true:=by
 have:=Zg7 qs;rw[hq]at this;exact Ybn.1 h _ this
theorem Fl.call (i:Nat) (d:Tmp) {o:Oper} {f:FuncId} {args:Array Value} {R:World->Ending->World->Prop} {N F:Nat} {ps:List Fa} {listed:Array Bool} {a:Act} {V:World}
  (hC:∀w,Below V.heap.size V w->Calls P f args w (R w))
  (h:∀w,Below V.heap.size V w->S w->∀e w',R w e w'->match e with
   | .returned v=>Below w.heap.size w w'∧Fl P md ops Q S N ps F (listed.setIfInBounds i true) (a.put (some d) v) w'
   | _=>False)
  (hfa:FaAll P ops ps:=by assumption) (hSt:∀w w',S w->Below w.heap.size w w'->S w':=by first|exact(λw w' h k=>Za2 (Zaa (Yai h) k))|exact(λw w' h k=>KeepBut.S (KeepBut.call (Yai h) k))|exact(λw w' h k=>Zaa h k)) (hN:N<=V.heap.size:=by assumption)
  (ho:ops[i]? = some o:=by rfl) (hd:o.dst=some d:=by rfl) (hs:Region.noSelect ops=true:=by as_aux_lemma=>kernel_rfl)
  (hsh:shapeAt md ops ps listed i=true:=by as_aux_lemma=>kernel_rfl) (hbl:blind ops ps o=true:=by as_aux_lemma=>kernel_rfl) (hnd:(ps.map (·.d)).contains d=false:=by as_aux_lemma=>kernel_rfl) (hF:Nat.ble ps.length F=true:=by rfl)
  (hw:Region.wanted o (yielded ops a.tmps)=true:=by as_aux_lemma=>kernel_rfl)
  (hx:∀w,(execOp a.eval o).run P w=.ok (.enter f args) w:=by as_aux_lemma=>(intro _;kernel_rfl)):Fl P md ops Q S N ps (F+1) listed a V:=by
 have hF':=Yaa hF;have main:∀n qs w,qs.length-cnt qs=n->qs.map (·.1)=ps->Below V.heap.size V w->S w->okA N w qs->wpAnyH P md ops Q S (F+1-cnt qs) (setL qs listed) (setA qs a) w:=by
  intro n;induction n with
  | zero=>?_
  | succ n ih=>?_
  all_goals
   intro qs w hn hq hV hS hok;have hlen:qs.length=ps.length:=by rw[<-hq,Ybt]
   have hc:=Zg8 qs;have hsp:=Zsm hsh hq;simp only[Zdq,Zey,Yam,Ybn,Ybo,beq_iff_eq,List.contains_iff_mem]at hsp;rw[show F+1-cnt qs=(F-cnt qs)+1 by omega];refine⟨λh0=>(by rw[h0]at hsp;exact absurd hsp.1 Zs),λj hj=>?_⟩;rcases hsp.2 j hj with rfl|hp
   ·have hb:=Ze1 hs ho qs a (by rw[hq];exact hbl)
    unfold wpOp;simp only[ho];rw[if_pos (hb.2.trans hw)];left
    unfold Oper.wp;rw[hb.1,hx w,Oper.upon_enter];refine(hC w hV).mono ?_;intro e w' hR;have:=h w hV hS e w' hR;cases e with
    | returned v =>
      have hS':=hSt w w' hS this.1;have k:=this.2 qs w' hq (Yae _ _) hS' (hok.below this.1);rw[Zez,Ze0 d v qs a (by
       intro q hq' he;have:d∈ps.map (·.d):=by
        rw[<-hq,<-he];exact Yed (Yed hq')
       simp[this]at hnd)]at k
      rw[hd];exact⟨hS',k⟩
    | _=>exact this.elim
   ·obtain⟨p,g,r,rfl,rfl⟩:=Zc9 qs hp
    have hlt:=Zwk p g r;first
     | (exfalso;omega)
     | refine Fl.alloc hfa hq ?_ (hSt _ _ hS ((Yae _ _).alloc (Yab _) _))
       have hcn:cnt (p++(g,some w.heap.size)::r)=cnt (p++(g,none)::r)+1:=by simp only[Zjv,cnt];omega
       have hl2:(p++(g,some w.heap.size)::r).length=(p++(g,none)::r).length:=Zs;have:=ih (p++(g,some w.heap.size)::r) (w.alloc (.cells g.zs g.T)) Zo (by rw[<-hq];simp) (Zad hV _) (hSt _ _ hS ((Yae _ _).alloc (Yab _) _)) (hok.fresh (Yak hN hV.size));rw[hcn]at this;rw[show F-cnt (p++(g,none)::r)=F+1-(cnt (p++(g,none)::r)+1) by omega];exact this
 exact λqs w=>main _ qs w rfl
theorem Fl.take (i:Nat) (d:Tmp) {o:Oper} {v:Value} {N F:Nat} {ps:List Fa} {listed:Array Bool} {a a':Act} {V:World}
  (h:Fl P md ops Q S N ps F (listed.setIfInBounds i true) a' V)
  (ho:ops[i]? = some o:=by rfl) (hd:o.dst=some d:=by rfl) (hs:Region.noSelect ops=true:=by as_aux_lemma=>kernel_rfl)
  (hfr:freeAt md ops ps listed i=true:=by as_aux_lemma=>kernel_rfl) (hbl:blind ops ps o=true:=by as_aux_lemma=>kernel_rfl) (hnd:(ps.map (·.d)).contains d=false:=by as_aux_lemma=>kernel_rfl) (hF:Nat.ble ps.length F=true:=by rfl)
  (hw:Region.wanted o (yielded ops a.tmps)=true:=by as_aux_lemma=>kernel_rfl)
  (hv:∀w,S w->(execOp a.eval o).run P w=.ok (.value v) w:=by(intro w hSw;(try dsimp only at hSw);go_simp;all_goals with_reducible rfl))
  (hQ:∀c a w,Q (.panic c) (a.put (some d) v) w->Q (.panic c) a w:=by exact(λ_ _ _ h=>h))
  (ha:a.put (some d) v=a':=by(simp only[Act.put,Zsi,Zs0,Zss];rfl)):Fl P md ops Q S N ps (F+1) listed a V:=by
 subst ha;intro qs w hq hV hS hok;have hF':=Yaa hF;have hlen:qs.length=ps.length:=by rw[<-hq,Ybt]
 have hc:=Zg8 qs;have hsp:=Zsm hfr hq;simp only[Zdq,Yam]at hsp;have hb:=Ze1 hs ho qs a (by rw[hq];exact hbl);have k:=h qs w hq hV hS hok;rw[Zez,Ze0 d v qs a (by
  intro q hq' he;have:d∈ps.map (·.d):=by
   rw[<-hq,<-he];exact Yed (Yed hq')
  simp[this]at hnd)]at k
 rw[show F+1-cnt qs=(F-cnt qs)+1 by omega];refine wpAnyH_take ho hs hsp.2 hsp.1 (by rw[hd];exact hQ) (Or.inl ⟨hb.2.trans hw,λw' hS'=>?_⟩) hS (by rw[hd];exact k);rw[hb.1];exact hv w' hS'
theorem Fl.close {N F:Nat} {ps:List Fa} {listed:Array Bool} {a:Act} {V:World}
  (h:∀qs w,qs.map (·.1)=ps->pend qs=[]->Below V.heap.size V w->S w->okA N w qs->wpAnyH P md ops Q S (F-cnt qs) (setL qs listed) (setA qs a) w)
  (hfa:FaAll P ops ps) (hSt:∀w w',S w->Below w.heap.size w w'->S w') (hN:N<=V.heap.size)
  (hsh:shapeEnd md ops ps listed=true) (hF:Nat.ble ps.length F=true):Fl P md ops Q S N ps F listed a V:=by
 have hF':=Yaa hF;have main:∀n qs w,qs.length-cnt qs=n->qs.map (·.1)=ps->Below V.heap.size V w->S w->okA N w qs->wpAnyH P md ops Q S (F-cnt qs) (setL qs listed) (setA qs a) w:=by
  intro n;induction n with
  | zero=>?_
  | succ n ih=>?_
  all_goals
   intro qs w hn hq hV hS hok;by_cases hp0:pend qs=[]
   ·exact h qs w hq hp0 hV hS hok
   have hlen:qs.length=ps.length:=by rw[<-hq,Ybt]
   have hc:=Zg8 qs;have hsp:=Zsm hsh hq;simp only[Zdq,Zey,Ybo,Yam,Ybn,List.contains_iff_mem,List.isEmpty_iff,hp0,false_or,Ydz,List.isEmpty_eq_false_iff]at hsp;obtain⟨j0,hj0⟩:=List.exists_mem_of_ne_nil _ hp0;obtain⟨p0,g0,r0,rfl,_⟩:=Zc9 qs hj0;have hlt:=Zwk p0 g0 r0;rw[show F-cnt (p0++(g0,none)::r0)=(F-cnt (p0++(g0,none)::r0)-1)+1 by omega];refine⟨λh0=>absurd h0 hsp.1,λj hj=>?_⟩;obtain⟨p,g,r,he,rfl⟩:=Zc9 _ (hsp.2 j hj);first
    | (exfalso;omega)
    | rw [he] at hq hok hn hc hlt ⊢
      refine Fl.alloc hfa hq ?_ (hSt _ _ hS ((Yae _ _).alloc (Yab _) _));have hcn:cnt (p++(g,some w.heap.size)::r)=cnt (p++(g,none)::r)+1:=by simp only[Zjv,cnt];omega
      have hl2:(p++(g,some w.heap.size)::r).length=(p++(g,none)::r).length:=Zs;have:=ih (p++(g,some w.heap.size)::r) (w.alloc (.cells g.zs g.T)) Zo (by rw[<-hq];simp) (Zad hV _) (hSt _ _ hS ((Yae _ _).alloc (Yab _) _)) (hok.fresh (Yak hN hV.size));rw[hcn]at this;rw[show F-cnt (p++(g,none)::r)-1=F-(cnt (p++(g,none)::r)+1) by omega];exact this
 exact λqs w=>main _ qs w rfl
end
end
section
section
variable {P:Program} {ops:Array Oper} {Q:Exit->Act->World->Prop} {md:Region.Mode} {S:World->Prop}
theorem FaOk.of {i:Nat} {d:Tmp} {T:TypeId} {zs:Array Value} (run:∀w,(Instr.alloc T true (.tuple #[])).run P w=.ok (.pointer (some ⟨w.heap.size,0,none⟩)) (w.alloc (.cells zs T)))
  (op:∃o,ops[i]? = some o∧o.guard=none∧o.op=.alloc T∧o.dst=some d:=by exact⟨_,rfl,rfl,rfl,rfl⟩):FaOk P ops ⟨i,d,T,zs⟩:=⟨op,run⟩
theorem FaAll.nil:FaAll P ops []:=⟨λ_ h=>(nomatch h),List.nodup_nil⟩
theorem FaAll.cons {f:Fa} {ps:List Fa} (h:FaOk P ops f) (k:FaAll P ops ps) (hn:(ps.map (·.d)).contains f.d=false:=by rfl):FaAll P ops (f::ps):=
 ⟨λg hg=>(Ycp.1 hg).elim (λe=>e▸h) (λhg=>k.1 g hg),(by
  rw[Ybz,List.nodup_cons];exact⟨λhm=>(by simp[hm]at hn),k.2⟩)⟩
theorem Fl.open {F:Nat} {listed:Array Bool} {a:Act} {V:World} (ps:List Fa) (hfa:FaAll P ops ps) (h:FaAll P ops ps->Fl P md ops Q S V.heap.size ps F listed a V) (hS:S V:=by assumption):wpAnyH P md ops Q S F listed a V:=
 Fl.start ps (h hfa) hS
theorem Fl.pt {N F:Nat} {ps:List Fa} {listed:Array Bool} {a a':Act} {V:World} (h:Fl P md ops Q S N ps F listed a' V) (ha:a=a':=by(simp only[Act.put,Zsi,Zs0,Zss];rfl)):Fl P md ops Q S N ps F listed a V:=by
 subst ha;exact h
section
variable {N F:Nat} {listed:Array Bool} {a:Act} {V:World} {i1 i2 i3 i4:Nat} {d1 d2 d3 d4:Tmp} {T1 T2 T3 T4:TypeId} {z1 z2 z3 z4:Array Value}
theorem Fl.close1 (h:∀B1 w,Below V.heap.size V w->S w->N<=B1->Box w B1 T1 z1->wpAnyH P md ops Q S F (listed.setIfInBounds i1 true) (a.put (some d1) (.pointer (some ⟨B1,0,none⟩))) w)
  (hfa:FaAll P ops [⟨i1,d1,T1,z1⟩]:=by assumption) (hSt:∀w w',S w->Below w.heap.size w w'->S w':=by first|exact(λw w' h k=>Za2 (Zaa (Yai h) k))|exact(λw w' h k=>KeepBut.S (KeepBut.call (Yai h) k))|exact(λw w' h k=>Zaa h k)) (hN:N<=V.heap.size:=by assumption)
  (hsh:shapeEnd md ops [⟨i1,d1,T1,z1⟩] listed=true:=by as_aux_lemma=>kernel_rfl):Fl P md ops Q S N [⟨i1,d1,T1,z1⟩] (F+1) listed a V:=by
 refine Fl.close (λqs w hq hp hV hS hok=>?_) hfa hSt hN hsh (Nat.ble_eq_true_of_le Zs);match qs,hq with
 | [(_, o1)], hq =>
   cases hq;cases o1 with
   | none=>cases hp
   | some B1 =>
     have b1:=hok.1 _ (Ycl ..) _ rfl;exact h B1 w hV hS b1.1 b1.2
end
end
end
section
theorem OwnF.lower {w:World} {base base':Nat} {v:Value} {n:Nat} {f:Nat->Int} (h:OwnF w base v n f) (hb:base'<=base):OwnF w base' v n f:=by
 obtain⟨hl,h|⟨g,cap,cur,hv,hb',hh,hr⟩⟩:=h
 ·exact⟨hl,.inl h⟩
 ·exact⟨hl,.inr ⟨g,cap,cur,hv,Yak hb hb',hh,hr⟩⟩
theorem Zd9 {P:Program} {w:World} {o:Oper} {a:Act} {K:Act->World->Prop} {Q:Exit->Act->World->Prop} (s x:Operand) (t:TypeId) (ho:o.op=.call {callee:=.builtin .append,args:=#[s,x],argTypes:=#[t,t]})
  (h1:P.underlying t=some (.slice 3)) (h2:(P.info? 3).map (λi=>(i.zero,i.size,i.bytes))=some (some (.int .i64 0),1,8))
  (base:Nat) (v:Value) (n:Nat) (f:Nat->Int) (hs:a.eval s=v) (hown:OwnF w base v n f) (B:Nat) (y:Int) (hx:a.eval x=.slice (some ⟨B,0,none⟩) 1 1) (hb:Box w B 3 #[.int .i64 y]) (hn:n<=1000000) (hbase:base<=w.heap.size)
  (h:∀v' w',OwnF w' base v' (n+1) (λi=>if i<n then f i else y)->w.grownBy w' v.ownBlock->K (a.put o.dst v') w'):o.wp P a w K Q:=by
 obtain⟨i,hi,hz,hs1,hb1⟩:=info_parts h2;refine wp_append_own w s x t ho base 3 i (.int .i64 0) 1 8 h1 hi hz hs1 hb1 rfl Zd v n _ hs hown ⟨B,0,none⟩ 1 1 [.int .i64 y] hx rfl ?_ (by simp[Value.oneCell']) (by simp[maxLen];omega) Zo hbase ?_
 ·intro j u hj
  match j,hj with
  | 0, hj =>
    have:=hb.cell 0;simp at hj;subst hj;simpa[Addr.add]using this
  | j+1,hj=>simp at hj
 ·intro v' w' h3 h4 _
  refine h v' w' ?_ h4;have e:(List.range n).map (λi=>Value.int .i64 (f i))++[.int .i64 y]=(List.range (n+1)).map λi=>.int .i64 (if i<n then f i else y):=by
   rw[Ydo,List.map_append];congr 1
   ·exact Yfy λi hi=>by rw[if_pos (Yeu.1 hi)]
   ·simp
  unfold OwnF;rw[<-e];exact h3
section
variable {P:Program} {ops:Array Oper} {Q:Exit->Act->World->Prop} {md:Region.Mode} {S:World->Prop}
theorem Zb8 (B:Nat) (T:TypeId) (i:Nat) {o:Oper} (hi:ops[i]? = some o) (hg:o.guard=none) (hd:o.dst=none) {ty:TypeId} {x y:Operand} (ho:o.op=.store ty x y) (off:Nat) (cells cs new:Array Value) {a:Act} {fuel:Nat} {listed:Array Bool} {w:World}
  (hr:Region.ready md ops listed=[i]) (hS:∀w i u,S w->S (w.setCell ⟨B,i,none⟩ u)) (hx:a.eval x=.pointer (some ⟨B,off,none⟩)) (hy:a.eval y=.agg cells)
  (hb:Box w B T cs) (hs:S w) (hi2:(P.info? ty).map (·.size)=some cells.size) (hoff:off+cells.size<=cs.size) (h1:cells.all (·.oneCell')=true)
  (hn:cs.toList.take off++cells.toList++cs.toList.drop (off+cells.size)=new.toList)
  (h:∀w',KeepBut B w.heap.size w w'->Box w' B T new->S w'->wpAnyH P md ops Q S fuel (listed.setIfInBounds i true) a w'):wpAnyH P md ops Q S (fuel+1) listed a w:=by
 refine wpAnyH_all hr Zs λj hj=>?_;obtain rfl:j=i:=by simpa using hj
 unfold wpOp;rw[hi];have hw:Region.wanted o (yielded ops a.tmps)=true:=by simp[Region.wanted,hg]
 simp only[hw,if_true];left
 have hb2:=Box.setCells cells.toList off w cs hb (by simpa using hoff);have hb3:Box (w.setCells B off cells.toList) B T new:=by simpa[hn]using hb2
 have hs2:=Zbn hS cells.toList off w hs;refine wp_store_mid ty x y ho B off cells hx hy (hb.there off cells.size hoff) hi2 h1 ?_;rw[hd];exact⟨hs2,h _ ((KeepBut.refl _ _).setCells _ _ _) hb3 hs2⟩
end
end
end Go.Mono
namespace Go.Proofs.W
open Go.RowKit Go.Mono
theorem Zgq (p:Option Addr) (n c1:Nat) (f:Nat->Int) (w:World) (h1:SlF w (.slice p n c1) n f) (hn:n<=1000000) :
  Calls Tryz.prog 158 #[.slice p n c1] w λe w'=>∃v,e=.returned v∧OwnF w' w.heap.size v n f∧Below w.heap.size w w':=by
 have hq:∀(w:World),(binOp .eql 119 (.slice p n c1) (.slice none 0 0)).run Tryz.prog w=.ok (.bool p.isNone) w:=λw=>Lib.run_eql_slice_nil w _ _ p n c1 0 0 Tryz.underlying119;cases p with
 | none =>
   obtain⟨rfl,rfl⟩:n=0∧c1=0:=by
    rcases h1 with ⟨h,rfl⟩|⟨b,off,cap,cs,fr,h,_⟩
    ·simp at h;exact⟨rfl,h⟩
    ·simp at h
   go_enter Tryz.func158,Tryz.ntmps158
   go_wp2
   go_ret
   exact⟨_,rfl,OwnF.nil _ _ _,Yae _ _⟩
 | some a =>
   have ho:OwnF (w.alloc (.cells #[] 3)) w.heap.size (.slice (some ⟨w.heap.size,0,none⟩) 0 0) 0 (λ_=>0):=World.ownsRow_lit w #[] 0 (Yab _) Zd rfl;have hx:Below w.heap.size w (w.alloc (.cells #[] 3)):=(Yae _ _).alloc (Yab _) _;have hs:=h1.ext (.of_below hx);clear h1;go_enter Tryz.func158,Tryz.ntmps158
   go_wp2_with (at_builtin;refine Za9 _ rfl _ _ 119 rfl Tryz.underlying119 Zby w.heap.size _ 0 (λ_=>0) rfl ho _ n c1 f rfl hs Zo Zs ?_;intro v' w1 ho' hg)
   go_ret
   refine⟨_,rfl,?_,hx.grown hg Zs (by rintro k ⟨⟩;exact Yab _)⟩;have:=ho'.congr (f':=f) (λi _=>Zs);rwa [Yba]at this
theorem Zqv (p q:Option Addr) (n m c1 c2:Nat) (f g:Nat->Int) (w:World) (h1:SlF w (.slice p n c1) n f) (h2:SlF w (.slice q m c2) m g)
  (f0:∀i,i<n->0<=f i) (f1:∀i,i<n->f i<1000000000) (g0:∀i,i<m->0<=g i) (g1:∀i,i<m->g i<1000000000) (hmn:m<=n) (hn:n<=1000000) (hle:vf g m<=vf f n) :
  Calls Tryz.prog 164 #[.slice p n c1,.slice q m c2] w λe w'=>∃p k c h,e=.returned (.slice p k c)∧SlF w' (.slice p k c) k h∧Digs h k∧vf h k=vf f n-vf g m∧k<=n∧Below w.heap.size w w':=by
 obtain⟨hc2,hn2,hx2⟩:=h2.opens;clear h2;by_cases h0:n=0
 ·subst h0
  obtain rfl:m=0:=Zo;go_enter Tryz.func164,Tryz.ntmps164
  go_wp2_with (go_at_call 158;refine(Zgq _ _ _ f _ h1 Zo).mono ?_;rintro e w' ⟨v,rfl,ho,hb⟩)
  obtain⟨p2,c3,rfl⟩:=ho.shape;have hs:=ho.sl Zo;go_wp2_with fail
  go_loopw [13] (λa wr=>a=.int .i64 0∧wr=w') (λ_ _=>0)
  case atStart=>exact⟨rfl,rfl⟩
  case round=>
   obtain⟨rfl,rfl⟩:=hrel;go_wp2
   go_loopw [28] (λa wr'=>a=.int .i64 0∧wr'=wr) (λ_ _=>0)
   case atStart=>exact⟨rfl,rfl⟩
   case round=>
    obtain⟨rfl,rfl⟩:=hrel;go_wp2_with (go_at_call 161;refine(Zcj _ _ _ f _ hs).mono ?_;rintro e w' ⟨rfl,rfl⟩)
    go_ret
    exact⟨p2,0,c3,f,rfl,hs,⟨λi hi=>Zo,λi hi=>Zo,λhi=>Zo⟩,by simp[vf],Yab _,hb⟩
 ·go_enter Tryz.func164,Tryz.ntmps164
  go_wp2_with (go_at_call 158;refine(Zgq _ _ _ f _ h1 Zo).mono ?_;rintro e w' ⟨v,rfl,ho,hb⟩)
  rcases ho.open with ⟨_,h⟩|⟨r,cap,rfl,hB,hcap,hr⟩
  ·exact absurd h h0
  clear ho h1;have HP:=MinusInv.start hmn f0 f1 g0 g1;have hS:0<=vf f n-vf g m:=Zo;go_wp2_with fail
  go_loopw [13] (λa wr=>∃k:Nat,k<=m∧a=.int .i64 k∧Below w.heap.size w wr∧RowF wr r n (λj=>f j-(if j<k then g j else 0))) (λa _=>m-(intOf a).toNat)
  case atStart=>exact⟨0,Yat _,rfl,hb,hr.congr λi _=>Zs⟩
  case round=>
   clear hb hr;obtain⟨k,hk,rfl,hb,hr⟩:=hrel;by_cases hlt:k<m
   ·obtain⟨b,off,rfl,hbs,hcell⟩:=hx2 Zo
    have a1:=(hb.cell (p:=⟨b,off+k,none⟩) hbs).trans (hcell k hlt);have a2:=hr.cell k Zo;rw[if_neg Zo,Int.sub_zero]at a2;have a3:=hr.frozen k;have d1:=f0 k Zo;have d2:=f1 k Zo;have d3:=g0 k hlt;have d4:=g1 k hlt;clear hcell hx2 f0 f1 g0 g1 HP;go_wp2
    go_roundw
    case rel=>
     refine⟨k+1,Zo,by go_num,hb.setCell (p:=⟨r,k,none⟩) hB _,(hr.set k _).congr λi hi=>?_⟩;by_cases e:i=k
     ·subst e;simp
     ·rw[if_neg e];simp only[show i<k+1↔i<k by omega]
    case measure=>simp[intOf];omega
   ·obtain rfl:k=m:=by omega
    clear hlt hk hx2;clear f0 f1 g0 g1;go_wp2
    go_loopw [28] (λa wr=>∃i:Nat,i<=n∧a=.int .i64 i∧Below w.heap.size w wr∧∃h,RowF wr r n h∧MinusInv n (vf f n-vf g k) i h) (λa _=>n-(intOf a).toNat)
    case atStart=>exact⟨0,Yat _,rfl,hb,_,hr,HP⟩
    case round=>
     clear hb hr HP;obtain⟨i,hi,rfl,hb,h,hr,HP⟩:=hrel;by_cases hlt:i<n
     ·obtain⟨q1,q2,q3⟩:=HP.bd hlt
      have a2:=hr.cell i Zo;have a3:=hr.frozen i;by_cases hge:h i<0
      ·have hl:=HP.last hS hlt hge
       obtain⟨q4,q5⟩:=q3 hl;have a4:=hr.cell (i+1) Zo;have a5:=hr.frozen (i+1);have r1:=hr.set i (h i+1000000000);have a6:=r1.cell (i+1) Zo;have a7:=r1.frozen (i+1);simp only[show ¬i+1=i by omega,if_false]at a6;clear q3;go_wp2
       go_roundw
       case rel=>exact⟨i+1,Zo,by go_num,(hb.setCell (p:=⟨r,i,none⟩) hB _).setCell (p:=⟨r,i+1,none⟩) hB _,_,r1.set (i+1) (h (i+1)-1),HP.carry hl hge⟩
       case measure=>simp[intOf];omega
      ·have hge':0<=h i:=by omega
       clear q3;go_wp2
       go_roundw
       case rel=>exact⟨i+1,Zo,by go_num,hb,_,hr,HP.plain hlt hge'⟩
       case measure=>simp[intOf];omega
     ·obtain rfl:i=n:=by omega
      clear hlt hi;have hs:=hr.slice Zo i (Yab _) cap hcap;obtain⟨c1',c2'⟩:=HP.done;have hle:=Za3 h i;replace c2':=Yah c2';go_wp2_with (go_at_call 161;refine(Zcj _ _ _ h _ hs).mono ?_;rintro e w' ⟨rfl,rfl⟩)
      go_ret
      exact⟨_,_,_,h,rfl,hs.take _ hle,c1',c2'.out,hle,hb⟩
theorem Znr (m1 m2:Nat) (w wf:World) (hx:Ext wf w) (p q:Option Addr) (n m c1 c2:Nat) (N M:Int) (h1:Sz m1 wf (.slice p n c1) N) (h2:Sz m2 wf (.slice q m c2) M) (hm1:m1<=1000000) (hle:M<=N) :
  Calls Tryz.prog 164 #[.slice p n c1,.slice q m c2] w λe w'=>∃p k c,e=.returned (.slice p k c)∧Sz m1 w' (.slice p k c) (N-M)∧Below w.heap.size w w':=by
 obtain⟨n,f,s1,d1,rfl,l1,rfl⟩:=(h1.ext hx).sl;obtain⟨m,g,s2,d2,rfl,l2,rfl⟩:=(h2.ext hx).sl;refine(Zqv p q n m c1 c2 f g w s1 s2 d1.lo d1.hi d2.lo d2.hi (d2.len_le d1 hle) Zo hle).mono ?_;rintro e w' ⟨p,k,c,h,rfl,hs,hd,hv,hk,hb⟩;exact⟨_,_,_,rfl,⟨k,h,hs,hd,hv,Zo⟩,hb⟩
end Go.Proofs.W
namespace Go.Mono
open Go.RowKit
theorem Zbe {P:Program} {ops:Array Oper} {rest:List Oper} {op:Oper} {a:Act} {w:World} {Q:Exit->Act->World->Prop} (hw:Region.wanted op (yielded ops a.tmps)=true) (ty:TypeId) (x:Operand) (ho:op.op=.load ty x)
  (b o:Nat) (hx:a.eval x=.pointer (some ⟨b,o,none⟩)) (cs:List Value) (d:TypeDesc) (hc:w.rangeAt b o cs)
  (hu:P.underlying ty=some d) (hd:d.isRow=true) (hi:(P.info? ty).map (·.size)=some cs.length)
  (h:wpList P ops Q rest (a.put op.dst (.agg cs.toArray)) w):wpList P ops Q (op::rest) a w:=
 wpList_step λK hK=>by
  simp only[hw,if_true];exact wp_load_mid ty x ho b o hx cs d hc hu hd hi (hK _ _ h)
theorem Box.resultsT {P:Program} {w:World} {B:Nat} {T:TypeId} {cs:Array Value} (b:Box w B T cs) {fn:Func} {p p1:Tmp} {ty:TypeId} (h:fn.results = #[.cell p ty,.tmp p1]) (tmps:Array Value) (d:TypeDesc)
  (ht:tmps.getD p undef=.pointer (some ⟨B,0,none⟩)) (hu:P.underlying ty=some d) (hd:d.isRow=true) (hi:(P.info? ty).map (·.size)=some cs.size):(Go.results fn tmps).run P w=.ok (.tuple #[.agg cs,tmps.getD p1 undef]) w:=by
 have hp':tmps[p]?.getD undef=.pointer (some ⟨B,0,none⟩):=by simpa using ht
 have hld:=run_loadVar_row (P:=P) w B T ty cs (0,0) d b.blk hu (by cases d<;>simp_all [TypeDesc.isRow]) hi;simp[Go.results,h,hp',asAddr,hld]
section
section
variable {P:Program} {ops:Array Oper} {rest:List Oper} {o1 o2 o3 o4:Oper} {a:Act} {w:World} {Q:Exit->Act->World->Prop}
theorem Zeb (T:TypeId) (d:Tmp) (y:Operand) (C zs:Array Value) (g1:o1.guard=none) (h1:o1.op=.alloc T) (e1:o1.dst=some d) (g2:o2.guard=none) (h2:o2.op=.store T (.tmp d) y) (e2:o2.dst=none)
  (hrun:∀w,(Instr.alloc T true (.tuple #[])).run P w=.ok (.pointer (some ⟨w.heap.size,0,none⟩)) (w.alloc (.cells zs T)))
  (hx:∀p,(a.put (some d) p).eval (.tmp d)=p) (hy:∀p,(a.put (some d) p).eval y=.agg C) (hi:(P.info? T).map (·.size)=some C.size) (hs:zs.size=C.size) (ho:C.all (·.oneCell')=true)
  (h:∀W B,w.heap.size<=B->Below w.heap.size w W->Box W B T C->wpList P ops Q rest (a.put (some d) (.pointer (some ⟨B,0,none⟩))) W):wpList P ops Q (o1::o2::rest) a w:=by
 refine Zak g1 T h1 zs hrun ?_;intro W1 B hle hb b1;rw[e1];refine Zab g2 T (.tmp d) y h2 B 0 T zs C C (hx _) (hy _) b1 hi (by rw[Yba];exact Ybl hs.symm) ho (Zag hs) ?_;intro W2 hk b2;rw[e2];exact h W2 B hle (hk.below hb hle hb.size) b2
theorem Zcc (T:TypeId) (d d':Tmp) (y y':Operand) (C C' zs:Array Value) (g1:o1.guard=none) (h1:o1.op=.alloc T) (e1:o1.dst=some d) (g2:o2.guard=none) (h2:o2.op=.alloc T) (e2:o2.dst=some d')
  (g3:o3.guard=none) (h3:o3.op=.store T (.tmp d) y) (e3:o3.dst=none) (g4:o4.guard=none) (h4:o4.op=.store T (.tmp d') y') (e4:o4.dst=none)
  (hrun:∀w,(Instr.alloc T true (.tuple #[])).run P w=.ok (.pointer (some ⟨w.heap.size,0,none⟩)) (w.alloc (.cells zs T)))
  (hx:∀p p',((a.put (some d) p).put (some d') p').eval (.tmp d)=p) (hx':∀p p',((a.put (some d) p).put (some d') p').eval (.tmp d')=p') (hy:∀p p',((a.put (some d) p).put (some d') p').eval y=.agg C) (hy':∀p p',((a.put (some d) p).put (some d') p').eval y'=.agg C')
  (hi:(P.info? T).map (·.size)=some zs.size) (hs:zs.size=C.size) (hs':zs.size=C'.size) (ho:C.all (·.oneCell')=true) (ho':C'.all (·.oneCell')=true)
  (h:∀W B B',w.heap.size<=B->w.heap.size<=B'->B≠B'->Below w.heap.size w W->Box W B T C->Box W B' T C'->wpList P ops Q rest ((a.put (some d) (.pointer (some ⟨B,0,none⟩))).put (some d') (.pointer (some ⟨B',0,none⟩))) W):wpList P ops Q (o1::o2::o3::o4::rest) a w:=by
 refine Zak g1 T h1 zs hrun ?_;intro W1 B hle hb b1;rw[e1];have hB1:=b1.lt;refine Zak g2 T h2 zs hrun ?_;intro W2 B' hle' hb' b1';rw[e2];have hBB:B≠B':=Zo;have b12:=b1.below hb';refine Zab g3 T (.tmp d) y h3 B 0 T zs C C (hx _ _) (hy _ _) b12 (by rw[<-hs];exact hi) (by rw[Yba];exact Ybl hs.symm) ho (Zag hs) ?_;intro W3 hk b2;rw[e3];have b13:=hk.box b1' b1'.lt (λh=>hBB h.symm);refine Zab g4 T (.tmp d') y' h4 B' 0 T zs C' C' (hx' _ _) (hy' _ _) b13 (by rw[<-hs'];exact hi) (by rw[Yba];exact Ybl hs'.symm) ho' (Zag hs') ?_;intro W4 hk4 b4;rw[e4];have b5:=hk4.box b2 b2.lt hBB;have hw1:=Zaa hb hb';have hw3:=hk.below hw1 hle hw1.size;exact h W4 B B' hle (by have:=hb.size;omega) hBB (hk4.below hw3 (by have:=hb.size;omega) hw3.size) b5 b4
end
end
theorem Zks {f g:Nat->Int} {n m:Nat} (hf:Digs f n) (hg:Digs g m):(cmpV f n g m<0↔vf f n<vf g m)∧(cmpV f n g m=0↔vf f n=vf g m):=by
 unfold cmpV;by_cases h:n=m
 ·subst h
  rw[if_pos rfl];exact Zkr hf.lo hf.hi hg.lo hg.hi (cmpDown f g) rfl λk=>rfl
 ·rw[if_neg h]
  rcases Nat.lt_or_gt_of_ne h with h1|h1
  ·have a1:=hf.lt
   have a2:=hg.ge Zo;have a3:=Zbp (i:=n) (k:=m-1) Zo;omega
  ·have a1:=hg.lt
   have a2:=hf.ge Zo;have a3:=Zbp (i:=m) (k:=n-1) Zo;omega
end Go.Mono
namespace Go.Proofs.W
open Go.RowKit Go.Mono
theorem Zkt (m1 m2:Nat) (w wf:World) (hx:Ext wf w) (p q:Option Addr) (n m c1 c2:Nat) (N M:Int) (h1:Sz m1 wf (.slice p n c1) N) (h2:Sz m2 wf (.slice q m c2) M) :
  Calls Tryz.prog 156 #[.slice p n c1,.slice q m c2] w λe w'=>∃c:Int,(e=.returned (.int .i64 c)∧∃k,w'=w.drewN k)∧(c<0↔N<M)∧(c=0↔N=M):=by
 obtain⟨n,f,s1,d1,rfl,l1,rfl⟩:=(h1.ext hx).sl;obtain⟨m,g,s2,d2,rfl,l2,rfl⟩:=(h2.ext hx).sl;refine(Zww p q n m c1 c2 f g w s1 s2 d1.lo d1.hi d2.lo d2.hi).mono ?_;intro e w' h;exact⟨_,h,Zks d1 d2⟩
theorem Zqz (m1 m2:Nat) (w wf:World) (hx:Ext wf w) (p q:Option Addr) (n m c1 c2:Nat) (N M:Int) (h1:Sz m1 wf (.slice p n c1) N) (h2:Sz m2 wf (.slice q m c2) M) (hlt:N<M) :
  Calls Tryz.prog 162 #[.slice p n c1,.slice q m c2] w λe w'=>e=.returned (.tuple #[.slice none 0 0,.slice p n c1])∧∃k,w'=w.drewN k:=by
 have hc:=Zkt m1 m2 w wf hx p q n m c1 c2 N M h1 h2;clear h1 h2;go_enter Tryz.func162,Tryz.ntmps162
 go_wp2_with (go_at_call 156;refine hc.mono ?_;rintro e w' ⟨c,⟨rfl,k,rfl⟩,hc1,hc2⟩;have hc0:c<0:=hc1.2 hlt;clear hc1 hc2)
 go_ret2
 exact⟨rfl,_,rfl⟩
theorem Zul (m1:Nat) (w wf:World) (hx:Ext wf w) (p q:Option Addr) (n c1 c2:Nat) (N M:Int) (h1:Sz m1 wf (.slice p n c1) N) (h2:Sz 1 wf (.slice q 1 c2) M) (hM:0<M) (hle:M<=N) (hm1:m1<=1000000) :
  Calls Tryz.prog 162 #[.slice p n c1,.slice q 1 c2] w λe w'=>∃p1 k1 c1 p2 k2 c2,e=.returned (.tuple #[.slice p1 k1 c1,.slice p2 k2 c2])∧Sz m1 w' (.slice p1 k1 c1) (N/M)∧Sz 1 w' (.slice p2 k2 c2) (N%M)∧Below w.heap.size w w':=by
 have hc:=Zkt m1 1 w wf hx p q n 1 c1 c2 N M h1 h2;obtain⟨n',g,s2,d2,hv2,l2,rfl⟩:=(h2.ext hx).sl;obtain⟨_,_,hx2⟩:=s2.opens;obtain⟨b,off,rfl,hb2,hcell⟩:=hx2 Zo;have a1:=hcell 0 Zo;rw[Yce]at a1;have eM:g 0=M:=by rw[<-hv2];simp[vf,pw]
 rw[eM]at a1;have M1:M<1000000000:=by rw[<-eM];exact d2.hi 0 Zo
 have h1':=h1.ext hx;clear hcell hx2 h1 h2 s2 d2 hv2 eM hx;go_enter Tryz.func162,Tryz.ntmps162
 go_wp2_with (go_at_call 156;refine hc.mono ?_;rintro e w' ⟨c,⟨rfl,k,rfl⟩,hc1,hc2⟩;have hc0:¬c<0:=λh=>by have:=hc1.1 h;omega)
 have hp:=Zqu m1 (w.drewN k) w ((Ext.refl w).below (below_drewN (Yae _ _) k)) p n c1 N M h1' hm1 hM M1;go_wp2_with (go_at_call 190;refine hp.mono ?_;rintro e w1 ⟨p1,k1,c3,rfl,hs1,hb1⟩)
 have hB:Below w.heap.size w w1:=(below_drewN (Yae _ _) k).trans hb1
 have hr0 : RowF (w1.alloc (.cells #[.int .i64 (N % M)] 3)) w1.heap.size 1 (λ_ => N % M) := ⟨#[.int .i64 (N % M)], by show (w1.heap.push _)[w1.heap.size]? = _; simp, Zs, λi hi => by obtain rfl : i = 0 := by omega
                                                                                                                                                                                      simp⟩
 have hs2:=hr0.slice Zo 1 (Yab _) 1 (Yab _);have r0:=Ycc N (show M≠0 by omega);have r1:=Ybu N hM;obtain⟨q1,q2⟩:=Zb5 (f:=λ_=>N%M) (k:=1) (λ_ _=>r0) (λ_ _=>Zo);have q3:=Za3 (λ_=>N%M) 1;have q4:vf (λ_=>N%M) 1=N%M:=by simp[vf,pw]
 have q5:=Yah (q2.trans q4);clear q2 q4;go_wp2_with (go_at_call 161;refine(Zcj _ _ _ _ _ hs2).mono ?_;rintro e w2 ⟨rfl,rfl⟩)
 go_ret2
 exact⟨_,_,_,_,_,_,rfl,hs1.ext ((Ext.refl _).alloc _),⟨_,_,hs2.take _ q3,q1,q5.out,q3⟩,hB.alloc hB.size _⟩
end Go.Proofs.W
