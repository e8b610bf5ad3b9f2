/- Contracts of package paraxial,and a verified evaluator. Part 27 of 28. No condition beside the row. -/
import Derived.Maps.OwnIn
import Derived.Maps.AppendAt
import Derived.OwnWalkIn
import Derived.RangeFuncBox
import Derived.Test.YtfgmlkjibdegfaaGreatDoorA07
import Derived.Test.YtfgmlkjibdegfaaGreatDoorA12
import Derived.Test.YtfgmlkjibdegfaaGreatDoorA21
import Derived.Test.YtfgmlkjibdegfaaGreatDoorA23
import Derived.Test.YtfgmlkjibdegfaaGreatDoorA24
import Derived.Test.YtfgmlkjibdegfaaGreatDoorA25
import Derived.Test.YtfgmlkjibdegfaaGreatDoorA26
set_option linter.unusedVariables false
set_option linter.unusedSimpArgs false
set_option maxRecDepth 100000
set_option maxHeartbeats 4000000
namespace Go.Mono
open Go.RowKit
theorem RayAt.below {w w':World} {R:Nat} {T:TypeId} {y u:Rat} (h:RayAt w R T y u) (hB:Below w.heap.size w w'):RayAt w' R T y u:=by
 obtain⟨p,k,c,p',k',c',r,l,d,r',l',d',b,q1,q2⟩:=h;exact⟨p,k,c,p',k',c',r,l,d,r',l',d',b.below hB,q1.ext (.of_below hB),q2.ext (.of_below hB)⟩
theorem RayAt.grown {w w':World} {R:Nat} {T:TypeId} {y u:Rat} (h:RayAt w R T y u) {row:Option Nat} (hg:w.grownBy w' row) (hr:∀r,row=some r->∃o:Obj,w.heap[r]? = some o∧o.isCells=false):RayAt w' R T y u:=by
 obtain⟨p,k,c,p',k',c',r,l,d,r',l',d',b,q1,q2⟩:=h;exact⟨p,k,c,p',k',c',r,l,d,r',l',d',b.grown hg hr,q1.ext (.grownNo hg hr),q2.ext (.grownNo hg hr)⟩
def PenQ (w:World) (C:Array Value) (x:Rat×Rat):Prop:=
 ∃p k c p' k' c' r l d r' l' d',C = #[.bool (decide (x.1.num<0)),.slice p k c,.bool false,.slice p' k' c',.bool (decide (x.2.num<0)),.slice r l d,.bool false,.slice r' l' d']∧
   QV w (.agg #[.bool (decide (x.1.num<0)),.slice p k c,.bool false,.slice p' k' c']) x.1∧QV w (.agg #[.bool (decide (x.2.num<0)),.slice r l d,.bool false,.slice r' l' d']) x.2
theorem PenQ.ext {w w':World} {C:Array Value} {x:Rat×Rat} (h:PenQ w C x) (hx:Ext w w'):PenQ w' C x:=by
 obtain⟨p,k,c,p',k',c',r,l,d,r',l',d',e,q1,q2⟩:=h;exact⟨p,k,c,p',k',c',r,l,d,r',l',d',e,q1.ext hx,q2.ext hx⟩
def Lns.tr (a:Lns) (k:Nat) (y u:Rat):Nat->Rat×Rat
 | 0=>(y,u)
 | s + 1 =>
   let r:=a.tr k y u s
   let y2:=if s=0 then r.1 else r.1+(Rat.divInt (1*(a.S (s-1)).thick) 1000000*r.2)/a.nI k (s-1)
   (y2,r.2-Rat.divInt 1 1*(y2*a.pow k s))
theorem Zl0 (C:Nat->Array Value) (i:Nat) (h:∀j,j<i->(C j).size=8):(pens C i).length=i*8:=by
 induction i with
 | zero=>rfl
 | succ i ih=>rw[Zce,Yay,ih (λj hj=>h j Zo),Yaz,h i Zo];omega
theorem Zh6 (C D:Nat->Array Value) (i:Nat) (h:∀j,j<i->C j=D j):pens C i=pens D i:=by
 induction i with
 | zero=>rfl
 | succ i ih=>rw[Zce,Zce,ih (λj hj=>h j Zo),h i Zo]
theorem Ztx (C:Nat->Array Value) (n:Nat) (h:∀j,j<n->(C j).size=8) (i j:Nat) (hi:i<n) (hj:j<8):(pens C n)[i*8+j]? = some ((C i).getD j undef):=by
 induction n with
 | zero=>omega
 | succ n ih =>
   have hl:=Zl0 C n (λj hj=>h j Zo);rw[Zce];by_cases hin:i<n
   ·rw[Ybb Zo]
    exact ih (λj hj=>h j Zo) hin
   ·obtain rfl:i=n:=by omega
    have hs:=h i hi;rw[Ybc Zo,hl,show i*8+j-i*8=j by omega,Yaq,Yax,Yby Zo];rfl
theorem Zox {w:World} {base g n cap:Nat} {e:TypeId} {C:Nat->Array Value} (h:w.ownsRow base e 8 (.slice (some ⟨g,0,none⟩) n cap) n (pens C n)) (hC:∀j,j<n->(C j).size=8) (hn:n<=140737488351232):RdC w (some ⟨g,0,none⟩) n cap 8 (λi j=>(C i).getD j undef):=by
 obtain⟨hl,h⟩:=h;rcases h with ⟨h1,_⟩|⟨g',cap',cur,hv,hb,hg,h1,h2,h3,h4⟩
 ·cases h1
 ·cases hv
  refine⟨h1,hn,λ_=>⟨g,0,rfl,Zao hg,λi j hi hj=>?_⟩⟩;have hc:=(Box.mk hg).cell (0+i*8+j);rw[hc,<-Yaq];have:=Ztx C n hC i j hi hj;rw[<-h4,List.getElem?_take_of_lt Zo]at this;rw[Yba];exact this
theorem Lns.tr_one (a:Lns) (k:Nat) (y u:Rat):a.tr k y u (0+1)=(y,u-Rat.divInt 1 1*(y*a.pow k 0)):=by
 rw[Lns.tr];rfl
theorem Lns.tr_next (a:Lns) (k:Nat) (y u:Rat) (t:Nat):a.tr k y u (t+1+1)=((a.tr k y u (t+1)).1+(Rat.divInt (1*(a.S t).thick) 1000000*(a.tr k y u (t+1)).2)/a.nI k t,(a.tr k y u (t+1)).2-Rat.divInt 1 1*(((a.tr k y u (t+1)).1+(Rat.divInt (1*(a.S t).thick) 1000000*(a.tr k y u (t+1)).2)/a.nI k t)*a.pow k (t+1))):=by
 rw[Lns.tr];simp only[Nat.add_one_ne_zero,if_false,Ybf]
def PensAt (w:World) (base:Nat) (T:TypeId) (p:Option Addr) (n c:Nat) (f:Nat->Rat×Rat):Prop:=
 ∃C:Nat->Array Value,w.ownsRow base T 8 (.slice p n c) n (pens C n)∧∀j,j<n->(C j).size=8∧PenQ w (C j) (f j)
theorem PensAt.below {w w':World} {base:Nat} {T:TypeId} {p:Option Addr} {n c:Nat} {f:Nat->Rat×Rat} (h:PensAt w base T p n c f) (hB:Below w.heap.size w w'):PensAt w' base T p n c f:=by
 obtain⟨C,h1,h2⟩:=h;exact⟨C,Zaf h1 hB,λj hj=>⟨(h2 j hj).1,(h2 j hj).2.ext (.of_below hB)⟩⟩
theorem PensAt.keep {w w':World} {base:Nat} {T:TypeId} {p:Option Addr} {n c:Nat} {f:Nat->Rat×Rat} (h:PensAt w base T p n c f) {R:Nat} {T':TypeId} {cs:Array Value} (b:Box w R T' cs) (hT:T'≠T) (h3:T'≠3) (hk:KeepBut R w.heap.size w w'):PensAt w' base T p n c f:=by
 obtain⟨C,h1,h2⟩:=h;exact⟨C,Zap h1 b hT hk,λj hj=>⟨(h2 j hj).1,(h2 j hj).2.ext (hk.ext b h3)⟩⟩
theorem PensAt.rd {w:World} {base:Nat} {T:TypeId} {p:Option Addr} {n c:Nat} {f:Nat->Rat×Rat} (h:PensAt w base T p n c f) (hn:0<n) (hm:n<=16):∃C:Nat->Array Value,RdC w p n c 8 (λi j=>(C i).getD j undef)∧∀j,j<n->(C j).size=8∧PenQ w (C j) (f j):=by
 obtain⟨C,h1,h2⟩:=h;obtain⟨m,rfl⟩:∃m,n=m+1:=⟨n-1,Zo⟩
 obtain⟨g,cap,e⟩:=ownsRow_succ h1;cases e;exact⟨C,Zox h1 (λj hj=>(h2 j hj).1) Zo,h2⟩
end Go.Mono
namespace Go.Proofs.W
open Go.RowKit Go.Mono
theorem Zoy:∃i z,Tryz.prog.info? 65=some i∧i.zero=some z∧i.size=8∧i.bytes=128∧z.cells.size=8:=by
 have h:(Tryz.prog.info? 65).map (λi=>(i.size,i.bytes,i.zero.map λz=>z.cells.size))=some (8,128,some 8):=Zk;cases hi:Tryz.prog.info? 65 with
 | none=>rw[hi]at h;cases h
 | some i =>
   rw[hi]at h;simp only[Yfx,Ybp,Yco]at h;obtain⟨h1,h2,h3⟩:=h;cases hz:i.zero with
   | none=>rw[hz]at h3;cases h3
   | some z=>rw[hz]at h3;exact⟨i,z,rfl,hz,h1,h2,by simpa using h3⟩
section
attribute [local go_sem] Oper.semAt_some
structure TrFits (a:Lns) (k:Nat) (y u:Rat):Prop where
 pow:∀s,s<a.ns->PowFits a k s
 num:∀s,s<a.ns->(a.nI k s).num≠0
 m1:∀s,s+1<a.ns->Fits (Rat.divInt (1*(a.S s).thick) 1000000*(a.tr k y u (s+1)).2)
 m2:∀s,s+1<a.ns->Fits ((Rat.divInt (1*(a.S s).thick) 1000000*(a.tr k y u (s+1)).2)/a.nI k s)
 m3:∀s,s+1<a.ns->Fits ((a.tr k y u (s+1)).1+((Rat.divInt (1*(a.S s).thick) 1000000*(a.tr k y u (s+1)).2)/a.nI k s))
 b1:∀s,s<a.ns->Fits ((a.tr k y u (s+1)).1*a.pow k s)
 b2:∀s,s<a.ns->Fits (Rat.divInt 1 1*((a.tr k y u (s+1)).1*a.pow k s))
 b3:∀s,s<a.ns->Fits ((a.tr k y u (s+1)).2)
def TrInv (a:Lns) (q:Plc) (k:Nat) (y u:Rat) (w W1 W3:World) (Bn Bb i:Nat) (V:World):Prop:=∃(v:Value) (C:Nat->Array Value),RayAt V W3.heap.size 104 (a.tr k y u i).1 (a.tr k y u i).2∧Box V w.heap.size 58 #[v]∧V.ownsRow w.heap.size 65 8 v i (pens C i)∧(∀j,j<i->(C j).size=8∧PenQ V (C j) (a.tr k y u (j+1)))∧Below w.heap.size w V∧Box V W1.heap.size 100 (a.vvals q k)∧Box V Bn 3 #[.int .i64 (a.ns:Int)]∧Box V Bb 4 #[.bool false]
theorem Zkn (X:World) (cs:Array Value) (T:TypeId):∀j u,cs.toList[j]? = some u->(X.alloc (.cells cs T)).cell? (Addr.add ⟨X.heap.size,0,none⟩ j)=some u:=by
 intro j u h;rw[show Addr.add ⟨X.heap.size,0,none⟩ j=⟨X.heap.size,j,none⟩ from by simp[Addr.add];exact λh=>h.symm,(Box.new X T cs).cell,<-Yaq];exact h
theorem Zl1 (a:Lns) (ha:a.opt) (q:Plc) (hchk:Chk a q) (k:Nat) (k1:k<a.nw) (y u:Rat) (hf:TrFits a k y u) (w:World) (h:OptAt w a q) (m:Nat) (hp:PowsAt w m)
  (Bo Bk By Bu:Nat) (bo:Box w Bo 45 (a.ovals q)) (bk:Box w Bk 3 #[.int .i64 (k:Int)]) (Cy Cu:Array Value) (by_:Box w By 54 Cy) (bu:Box w Bu 54 Cu) (Ry:QV w (.agg Cy) y) (Ru:QV w (.agg Cu) u) :
  CallsIn Fence.wide 6 Tryz.prog 44 #[.pointer (some ⟨Bo,0,none⟩),.pointer (some ⟨Bk,0,none⟩),.pointer (some ⟨By,0,none⟩),.pointer (some ⟨Bu,0,none⟩)] w λe w'=>∃(p:Option Addr) (c:Nat),e=.returned (.slice p a.ns c)∧PensAt w' w.heap.size 65 p a.ns c (λi=>a.tr k y u (i+1))∧Below w.heap.size w w':=by
 have hro:Fence.wide.round=none:=rfl;have hmf:∀(fn:Fn) (first cap:Array Value) (w:World),(Instr.makeFunc fn first cap).run Tryz.prog w=.ok (.func fn first cap) w:=λ_ _ _ _=>rfl;have hlook:=λW (hW:Below w.heap.size w W)=>Zv3 a q hchk k W (h.below hW) k1;have co:=bo.cell;have lo:=bo.lt;have ck:=bk.cell;have lk:=bk.lt;obtain⟨p1,k1x,c1,p1',k1',c1',e1,z1,y1⟩:=id Ry;obtain⟨p2,k2,c2,p2',k2',c2',e2,z2,y2⟩:=id Ru;cases e1;cases e2;have cy:=by_.cell;have ly:=by_.lt;have cu:=bu.cell;have lu:=bu.lt;simp only[Lns.ovals,Lns.vvals]at hlook;simp only[Lns.ovals]at co;refine callsIn_of_wp_marks Tryz.func44 rfl trivial ?_ hro;simp only[Tryz.ntmps44,Yfl,Ybm,Ydf,Nat.reduceAdd,Nat.reduceSub,Yes,Yer,Yfm,Yey,Ydp,Ydi];refine wpIn_wide.2 ?_;go_wp2_with fail
 refine Zbv λW hB hs bOut=>?_;refine(hlook W hB).mono ?_;rintro e W1 ⟨rfl,hb⟩;have hB1:=Zaa hB hb;replace bOut:=bOut.below hb;clear hlook co lo ck lk cy ly cu lu;have cy:=(by_.below hB1).cell;have ly:=(by_.below hB1).lt;have cu:=(bu.below hB1).cell;have lu:=(bu.below hB1).lt;go_wp2_with fail
 refine Zbi λW2 hB2 hs2 bV bF=>?_;have hB2':=Zaa hB1 hB2;have cF:=bF.cell;have Ry2:=Ry.ext (.of_below hB2');have Ru2:=Ru.ext (.of_below hB2');refine(Zkm 2 _ 2 (λi=>if i=0 then #[.bool (decide (y.num<0)),.slice p1 k1x c1,.bool false,.slice p1' k1' c1'] else #[.bool (decide (u.num<0)),.slice p2 k2 c2,.bool false,.slice p2' k2' c2']) (λi=>if i=0 then y else u) W2 ⟨Yab _,Zd,λ_=>⟨_,_,rfl,bF.lt,λi j hi hj=>?_⟩⟩ (λi=>by split<;>rfl) (λi hi=>by split<;>assumption)).mono ?_
 ·rw[cF]
  match i,j,hi,hj with
  | 0,0,_,_=>rfl
  | 0,1,_,_=>rfl
  | 0,2,_,_=>rfl
  | 0,3,_,_=>rfl
  | 1,0,_,_=>rfl
  | 1,1,_,_=>rfl
  | 1,2,_,_=>rfl
  | 1,3,_,_=>rfl
 rintro e W3 ⟨rfl,hb3⟩;have hB3:=Zaa hB1 (Zaa hB2 hb3);replace bV:=bV.below hb3;replace bOut:=(bOut.below hB2).below hb3;clear cy ly cu lu cF Ry2 Ru2 bF;have cy:=(by_.below hB3).cell;have ly:=(by_.below hB3).lt;have cu:=(bu.below hB3).cell;have lu:=(bu.below hB3).lt;have cV:=bV.cell;have lV:=bV.lt;go_wp2_with fail
 refine Zbv λW4 hB4 hs4 bR=>?_;have eO:=Ztw a q k false W4;simp only[Lns.vvals]at eO;refine eO.mono ?_;rintro e W5 ⟨Bn,Bb,rfl,hBn,hBb,bn,bb,hb5⟩;have hB5:=Zaa hB4 hb5;have hN:=hs4;replace bR:=bR.below hb5;replace bV:=bV.below hB5;replace bOut:=bOut.below hB5;have hB0:=Zaa hB3 hB5;clear eO cV lV cy ly cu lu;go_wp2_with fail
 refine(wpIn_wide (n:=6)).1 ?_;have hns:=ha.base.ns;obtain⟨i0,z0,pi1,pi2,pi3,pi4,pi5⟩:=Zoy;have hR5:RayAt W5 W3.heap.size 104 y u:=⟨_,_,_,_,_,_,_,_,_,_,_,_,bR,Ry.ext (.of_below hB0),Ru.ext (.of_below hB0)⟩
 have hw3:w.heap.size<=W3.heap.size:=hB3.size;have hw1:w.heap.size<=W1.heap.size:=hB1.size;have hw5:w.heap.size<=W5.heap.size:=hB0.size;clear bR Ry Ru z1 y1 z2 y2 by_ bu bo bk hB2' hB1 hB2 hB hb hs hs2;refine Zd7 hro Zo (gf:=93) (fi:=#[]) (lb:=#[.pointer (some ⟨Bn,0,none⟩),.pointer (some ⟨Bb,0,none⟩)]) rfl trivial (Go.Proofs.enters_of Tryz.func93 Zk rfl)
  (Zow Fence.wide 5 trivial rfl Zo a.ns Zo Bn Bb false) (λi=>rfl)
  (TrInv a q k y u w W1 W3 Bn Bb)
  ?hI ?hK ?hIB ?h0 ?hround ?hdone
 case hI=>
  rintro i V V' row ⟨v,C,hr,b1,h1,hC,hV,bV,bn,bb⟩ hg hro;have hg2:=λr e=>(hro r e).2;unfold TrInv;exact⟨v,C,hr.grown hg hg2,b1.grown hg hg2,Zdj h1 hg hg2,λj hj=>⟨(hC j hj).1,(hC j hj).2.ext (.grownNo hg hg2)⟩,hV.grown hg hV.size (λk e=>by have:=(hro k e).1;omega),bV.grown hg hg2,bn.grown hg hg2,bb.grown hg hg2⟩
 case hK=>
  rintro i V ⟨v,C,hr,b1,h1,hC,hV,bV,bn,bb⟩;exact⟨bn.cell 0,bb.cell 0⟩
 case hIB=>
  rintro i V V' ⟨v,C,hr,b1,h1,hC,hV,bV,bn,bb⟩ hb;unfold TrInv;exact⟨v,C,hr.below hb,b1.below hb,Zaf h1 hb,λj hj=>⟨(hC j hj).1,(hC j hj).2.ext (.of_below hb)⟩,Zaa hV hb,bV.below hb,bn.below hb,bb.below hb⟩
 case h0=>
  unfold TrInv;exact⟨.slice none 0 0,λ_=>#[],hR5,bOut,Yaj _ _ _ _,λj hj=>Zo,hB0,bV,bn,bb⟩
 case hround=>
  rintro l i V ⟨v,C,hr,b1,h1,hC,hV,bV,bn,bb⟩ hi hl hV4;simp only[ordAt,Ybq,if_false];gi_wp2
  refine⟨KeepsOthers.refl V,λV2 hg ho'=>?_⟩;obtain⟨o,ho,hoc⟩:=ho';have gr:∀r,some l=some r->∃o:Obj,V.heap[r]? = some o∧o.isCells=false:=λr e=>by cases e;exact⟨o,ho,hoc⟩
  replace hr:=hr.grown hg gr;replace b1:=b1.grown hg gr;replace h1:=Zdj h1 hg gr;replace hC:∀j,j<i->(C j).size=8∧PenQ V2 (C j) (a.tr k y u (j+1)):=λj hj=>⟨(hC j hj).1,(hC j hj).2.ext (.grownNo hg gr)⟩
  replace hV:Below w.heap.size w V2:=hV.grown hg hV.size (λk e=>by cases e;omega);replace bV:=bV.grown hg gr;replace bn:=bn.grown hg gr;replace bb:=bb.grown hg gr;clear hg ho hoc gr hV4;have hpow:=λX (hX:Below w.heap.size w X)=>Ztn a ha q hchk i k X (h.below hX) hi k1 (hf.pow i hi) m (hp.below hX);simp only[Lns.vvals]at bV hpow;have cV:=bV.cell;have lV:=bV.lt;cases i with
  | zero =>
    have ht:=a.tr_one k y u;have f1:=hf.b1 0 hi;have f2:=hf.b2 0 hi;have f3:=hf.b3 0 hi;rw[ht]at f1 f2 f3;have hKO:=KeepsOthers.refl V2;gi_wp2_with fail
    refine⟨trivial,?_⟩;gi_at_call 50
    refine(CallsIn.inRound l (callsIn_wide.2 (hpow _ hV))).mono ?_;rintro e X1 ⟨C9,rfl,R9,hb9⟩;clear hpow;replace hKO:=hKO.trans (Zbh hb9);replace hr:=hr.below hb9;replace b1:=b1.below hb9;replace h1:=Zaf h1 hb9;replace hC:∀j,j<0->(C j).size=8∧PenQ X1 (C j) (a.tr k y u (j+1)):=λj hj=>⟨(hC j hj).1,(hC j hj).2.ext (.of_below hb9)⟩
    replace hV:=Zaa hV hb9;replace bV:=bV.below hb9;replace bn:=bn.below hb9;replace bb:=bb.below hb9;clear cV lV;gi_wp2_with fail
    refine⟨trivial,?_⟩;gi_at_call 49
    refine(CallsIn.inRound l (callsIn_wide.2 (Zrg W3.heap.size _ _ (a.pow k 0) _ 1 Zd Zd X1 hr R9 f1 f2 f3))).mono ?_;rintro e X2 ⟨rfl,hk2,hr2⟩;obtain⟨pa,ka,ca,pa',ka',ca',pb,kb,cb,pb',kb',cb',bR,q1,q2⟩:=id hr2;obtain⟨qa,qb,qc,qa',qb',qc',ra,rb,rc,ra',rb',rc',bR0,_,_⟩:=hr;have hx2:=hk2.ext bR0 Zd;replace hKO:=hKO.trans (KeepsOthers.keepBut bR0 hk2);replace b1:=hk2.box b1 b1.lt (Box.ne b1 bR0 Zd);replace h1:=Zap h1 bR0 Zd hk2;replace hC:∀j,j<0->(C j).size=8∧PenQ X2 (C j) (a.tr k y u (j+1)):=λj hj=>⟨(hC j hj).1,(hC j hj).2.ext hx2⟩
    replace bV:=hk2.box bV bV.lt (Box.ne bV bR0 Zd);replace bn:=hk2.box bn bn.lt (Box.ne bn bR0 Zd);replace bb:=hk2.box bb bb.lt (Box.ne bb bR0 Zd);replace hV:=hk2.below hV hw3 hV.size;clear hk2 bR0 hx2 hb9;have cR:=bR.cell;have lR:=bR.lt;have c1:=b1.cell;have l1:=b1.lt;have fr1:=b1.frozen;gi_wp2_with (gi_at_builtin;(refine wpListIn_append_own _ rfl _ _ 58 rfl w.heap.size 65 i0 z0 8 128 Tryz.underlying58 pi1 pi2 pi3 pi4 pi5 Zd _ _ _ rfl (h1.alloc _) ⟨X2.heap.size,0,none⟩ 1 1 [_,_,_,_,_,_,_,_] rfl rfl (Zkn X2 #[_,_,_,_,_,_,_,_] _) (by simp[Value.oneCell']) (by first|omega|(unfold maxLen;omega)|(simp[maxLen];omega)) Zo (by have:=hV.size;simp;omega) ?_);intro v' w1 hown' hgrow _;obtain⟨g',cap',rfl⟩:=ownsRow_succ hown';have b11:=Box.appended (h1.alloc _) hgrow (b1.alloc _) (Zd);have c11:=b11.cell;have l11:=b11.lt;have f11:=b11.frozen)
    have kS:=(KeepBut.refl w.heap.size w1).set 0 (.slice (some ⟨g',0,none⟩) (0+1) cap');have bR1:=Box.appended (h1.alloc _) hgrow (bR.alloc _) Zd;have bR2:=kS.box bR1 bR1.lt (Box.ne bR1 b11 Zd);have bV1:=Box.appended (h1.alloc _) hgrow (bV.alloc _) Zd;have bn1:=Box.appended (h1.alloc _) hgrow (bn.alloc _) Zd;have bb1:=Box.appended (h1.alloc _) hgrow (bb.alloc _) Zd;have hx:=(((Ext.refl X2).alloc _).trans (Ext.appended (h1.alloc _) hgrow Zd)).trans (kS.ext b11 Zd);have hV1:=(Below.appended (h1.alloc _) hgrow (Zad hV _) (Yab _)).setCell (p:=⟨w.heap.size,0,none⟩) (Yab _) (.slice (some ⟨g',0,none⟩) (0+1) cap');have own1:=Zap hown' b11 Zd kS;refine⟨hKO.trans ((KeepsOthers.alloc _ _).trans ((KeepsOthers.appended (h1.alloc _) hgrow).trans (KeepsOthers.setCell _ _ _))),?_⟩;unfold TrInv;refine⟨_,λj=>if j=0 then #[.bool (decide (y.num<0)),.slice pa ka ca,.bool false,.slice pa' ka' ca',.bool (decide ((u-Rat.divInt 1 1*(y*a.pow k 0)).num<0)),.slice pb kb cb,.bool false,.slice pb' kb' cb'] else C j,?_,b11.set 0 _,?_,λj hj=>?_,hV1,kS.box bV1 bV1.lt (Box.ne bV1 b11 Zd),kS.box bn1 bn1.lt (Box.ne bn1 b11 Zd),kS.box bb1 bb1.lt (Box.ne bb1 b11 Zd)⟩
    ·rw[ht]
     exact⟨_,_,_,_,_,_,_,_,_,_,_,_,bR2,q1.ext hx,q2.ext hx⟩
    ·rw[Zce,Zh6 _ C 0 (λj hj=>if_neg Zo),if_pos rfl]
     first|exact own1|(simp only[Yga]at own1 ⊢;exact own1)
    ·by_cases e:j=0
     ·subst e
      dsimp only;rw[if_pos rfl];refine⟨rfl,?_⟩;rw[ht];exact⟨_,_,_,_,_,_,_,_,_,_,_,_,rfl,q1.ext hx,q2.ext hx⟩
     ·dsimp only
      rw[if_neg e];exact⟨(hC j Zo).1,(hC j Zo).2.ext hx⟩
  | succ t =>
    have hmv:=λX hX hRX=>Zv2 a ha q hchk t k w h Zo k1 X hX W3.heap.size hw3 (a.tr k y u (t+1)).1 (a.tr k y u (t+1)).2 hRX 1 (.inl rfl) (hf.num t Zo) (hf.m1 t hi) (hf.m2 t hi) (hf.m3 t hi);simp only[Lns.vvals]at hmv;have w1:IntKind.i64.wrap ((t:Int)+1-1)=(t:Int):=by rw[Ybi];omega
    have ht:=a.tr_next k y u t;have f1:=hf.b1 (t+1) hi;have f2:=hf.b2 (t+1) hi;have f3:=hf.b3 (t+1) hi;rw[ht]at f1 f2 f3;gi_wp2_with fail
    refine⟨trivial,?_⟩;gi_at_call 48
    refine(CallsIn.inRound l (callsIn_wide.2 (hmv _ hV hr))).mono ?_;rintro e X0 ⟨rfl,hk0,hr0⟩;obtain⟨qa,qb,qc,qa',qb',qc',ra,rb,rc,ra',rb',rc',bR0,_,_⟩:=hr;have hx0:=hk0.ext bR0 Zd;have hKO:=KeepsOthers.keepBut bR0 hk0;replace b1:=hk0.box b1 b1.lt (Box.ne b1 bR0 Zd);replace h1:=Zap h1 bR0 Zd hk0;replace hC:∀j,j<t+1->(C j).size=8∧PenQ X0 (C j) (a.tr k y u (j+1)):=λj hj=>⟨(hC j hj).1,(hC j hj).2.ext hx0⟩
    replace bV:=hk0.box bV bV.lt (Box.ne bV bR0 Zd);replace bn:=hk0.box bn bn.lt (Box.ne bn bR0 Zd);replace bb:=hk0.box bb bb.lt (Box.ne bb bR0 Zd);replace hV:=hk0.below hV hw3 hV.size;have hr:=hr0;clear hk0 bR0 hx0 hr0 hmv cV lV;have cV:=bV.cell;have lV:=bV.lt;gi_wp2_with fail
    refine⟨trivial,?_⟩;gi_at_call 50
    refine(CallsIn.inRound l (callsIn_wide.2 (hpow _ hV))).mono ?_;rintro e X1 ⟨C9,rfl,R9,hb9⟩;clear hpow;replace hKO:=hKO.trans (Zbh hb9);replace hr:=hr.below hb9;replace b1:=b1.below hb9;replace h1:=Zaf h1 hb9;replace hC:∀j,j<(t+1)->(C j).size=8∧PenQ X1 (C j) (a.tr k y u (j+1)):=λj hj=>⟨(hC j hj).1,(hC j hj).2.ext (.of_below hb9)⟩
    replace hV:=Zaa hV hb9;replace bV:=bV.below hb9;replace bn:=bn.below hb9;replace bb:=bb.below hb9;clear cV lV;gi_wp2_with fail
    refine⟨trivial,?_⟩;gi_at_call 49
    refine(CallsIn.inRound l (callsIn_wide.2 (Zrg W3.heap.size _ _ (a.pow k (t+1)) _ 1 Zd Zd X1 hr R9 f1 f2 f3))).mono ?_;rintro e X2 ⟨rfl,hk2,hr2⟩;obtain⟨pa,ka,ca,pa',ka',ca',pb,kb,cb,pb',kb',cb',bR,q1,q2⟩:=id hr2;obtain⟨qa,qb,qc,qa',qb',qc',ra,rb,rc,ra',rb',rc',bR0,_,_⟩:=hr;have hx2:=hk2.ext bR0 Zd;replace hKO:=hKO.trans (KeepsOthers.keepBut bR0 hk2);replace b1:=hk2.box b1 b1.lt (Box.ne b1 bR0 Zd);replace h1:=Zap h1 bR0 Zd hk2;replace hC:∀j,j<(t+1)->(C j).size=8∧PenQ X2 (C j) (a.tr k y u (j+1)):=λj hj=>⟨(hC j hj).1,(hC j hj).2.ext hx2⟩
    replace bV:=hk2.box bV bV.lt (Box.ne bV bR0 Zd);replace bn:=hk2.box bn bn.lt (Box.ne bn bR0 Zd);replace bb:=hk2.box bb bb.lt (Box.ne bb bR0 Zd);replace hV:=hk2.below hV hw3 hV.size;clear hk2 bR0 hx2 hb9;have cR:=bR.cell;have lR:=bR.lt;have c1:=b1.cell;have l1:=b1.lt;have fr1:=b1.frozen;gi_wp2_with (gi_at_builtin;(refine wpListIn_append_own _ rfl _ _ 58 rfl w.heap.size 65 i0 z0 8 128 Tryz.underlying58 pi1 pi2 pi3 pi4 pi5 Zd _ _ _ rfl (h1.alloc _) ⟨X2.heap.size,0,none⟩ 1 1 [_,_,_,_,_,_,_,_] rfl rfl (Zkn X2 #[_,_,_,_,_,_,_,_] _) (by simp[Value.oneCell']) (by first|omega|(unfold maxLen;omega)|(simp[maxLen];omega)) Zo (by have:=hV.size;simp;omega) ?_);intro v' w1 hown' hgrow _;obtain⟨g',cap',rfl⟩:=ownsRow_succ hown';have b11:=Box.appended (h1.alloc _) hgrow (b1.alloc _) (Zd);have c11:=b11.cell;have l11:=b11.lt;have f11:=b11.frozen)
    have kS:=(KeepBut.refl w.heap.size w1).set 0 (.slice (some ⟨g',0,none⟩) ((t+1)+1) cap');have bR1:=Box.appended (h1.alloc _) hgrow (bR.alloc _) Zd;have bR2:=kS.box bR1 bR1.lt (Box.ne bR1 b11 Zd);have bV1:=Box.appended (h1.alloc _) hgrow (bV.alloc _) Zd;have bn1:=Box.appended (h1.alloc _) hgrow (bn.alloc _) Zd;have bb1:=Box.appended (h1.alloc _) hgrow (bb.alloc _) Zd;have hx:=(((Ext.refl X2).alloc _).trans (Ext.appended (h1.alloc _) hgrow Zd)).trans (kS.ext b11 Zd);have hV1:=(Below.appended (h1.alloc _) hgrow (Zad hV _) (Yab _)).setCell (p:=⟨w.heap.size,0,none⟩) (Yab _) (.slice (some ⟨g',0,none⟩) ((t+1)+1) cap');have own1:=Zap hown' b11 Zd kS;refine⟨hKO.trans ((KeepsOthers.alloc _ _).trans ((KeepsOthers.appended (h1.alloc _) hgrow).trans (KeepsOthers.setCell _ _ _))),?_⟩;unfold TrInv;refine⟨_,λj=>if j=(t+1) then #[.bool (decide (((a.tr k y u (t+1)).1+(Rat.divInt (1*(a.S t).thick) 1000000*(a.tr k y u (t+1)).2)/a.nI k t).num<0)),.slice pa ka ca,.bool false,.slice pa' ka' ca',.bool (decide (((a.tr k y u (t+1)).2-Rat.divInt 1 1*(((a.tr k y u (t+1)).1+(Rat.divInt (1*(a.S t).thick) 1000000*(a.tr k y u (t+1)).2)/a.nI k t)*a.pow k (t+1))).num<0)),.slice pb kb cb,.bool false,.slice pb' kb' cb'] else C j,?_,b11.set 0 _,?_,λj hj=>?_,hV1,kS.box bV1 bV1.lt (Box.ne bV1 b11 Zd),kS.box bn1 bn1.lt (Box.ne bn1 b11 Zd),kS.box bb1 bb1.lt (Box.ne bb1 b11 Zd)⟩
    ·rw[ht]
     exact⟨_,_,_,_,_,_,_,_,_,_,_,_,bR2,q1.ext hx,q2.ext hx⟩
    ·rw[Zce,Zh6 _ C (t+1) (λj hj=>if_neg Zo),if_pos rfl]
     first|exact own1|(simp only[Yga]at own1 ⊢;exact own1)
    ·by_cases e:j=(t+1)
     ·rw[e]
      dsimp only;rw[if_pos rfl];refine⟨rfl,?_⟩;rw[ht];exact⟨_,_,_,_,_,_,_,_,_,_,_,_,rfl,q1.ext hx,q2.ext hx⟩
     ·dsimp only
      rw[if_neg e];exact⟨(hC j Zo).1,(hC j Zo).2.ext hx⟩
 case hdone=>
  rintro D V hD ⟨v,C,hr,b1,h1,hC,hV,bV,bn,bb⟩ hD2;obtain⟨g,cap,rfl⟩:∃g cap,v=.slice (some ⟨g,0,none⟩) a.ns cap:=by
   obtain⟨n',hn'⟩:∃n',a.ns=n'+1:=⟨a.ns-1,Zo⟩
   rw[hn']at h1 ⊢;exact ownsRow_succ h1
  have cR:=b1.cell;have lR:=b1.lt;have fR:=b1.frozen;go_wp2_with fail
  have bR2:=b1.set 0 (.slice (some ⟨g,0,none⟩) a.ns cap);have hK':=(KeepsOthers.setCell V ⟨w.heap.size,0,none⟩ (.slice (some ⟨g,0,none⟩) a.ns cap)).same D _ hD2 rfl;refine⟨Zs,.inl ⟨_,_,rfl,run_takeDeferred hK',?_⟩⟩;have bR3:=bR2.grown (grownBy_putObj' _ D (.deferred none)) (λr e=>by cases e;exact⟨_,hK',rfl⟩);have cR3:=bR3.cell 0;have k1':=(KeepBut.refl w.heap.size V).set 0 (.slice (some ⟨g,0,none⟩) a.ns cap);have hr1:=Zap h1 b1 Zd k1';have hg2:∀r,some D=some r->∃o:Obj,(V.setCell ⟨w.heap.size,0,none⟩ (.slice (some ⟨g,0,none⟩) a.ns cap)).heap[r]? = some o∧o.isCells=false:=λr e=>by cases e;exact⟨_,hK',rfl⟩
  have hr2:=Zdj hr1 (grownBy_putObj' _ D (.deferred none)) hg2;have hx:=(k1'.ext b1 Zd).trans (Ext.grownNo (grownBy_putObj' _ D (.deferred none)) hg2);refine⟨.slice (some ⟨g,0,none⟩) a.ns cap,?_,⟨_,cap,rfl,⟨C,hr2,λj hj=>⟨(hC j hj).1,(hC j hj).2.ext hx⟩⟩,Zfu (hV.setCell (p:=⟨w.heap.size,0,none⟩) (Yab _) _) (Yak hw5 hD) _⟩⟩;simp[results,Tryz.f44,go_sem,cR3]
end
theorem Zl2 {w1:World} {base N:Nat} {p:Option Addr} {n c:Nat} {f:Nat->Rat×Rat} (h:PensAt w1 base 65 p n c f) {c0 c1:Array Value} (b0:Box w1 N 58 c0) (b1:Box w1 (N+1) 59 c1) (u0 u1:Value) :
  PensAt ((w1.setCell ⟨N,0,none⟩ u0).setCell ⟨N+1,0,none⟩ u1) base 65 p n c f:=by
 have k0:=(KeepBut.refl N w1).set 0 u0;have h0:=h.keep b0 Zd Zd k0;have b1':=b1.other ⟨N,0,none⟩ u0 Zs;have k1:=(KeepBut.refl (N+1) (w1.setCell ⟨N,0,none⟩ u0)).set 0 u1;exact h0.keep b1' Zd Zd k1
theorem Zty (a:Lns) (ha:a.opt) (q:Plc) (hchk:Chk a q) (k:Nat) (k1:k<a.nw) (y u:Rat) (hf:TrFits a k y u) (w:World) (h:OptAt w a q) (m:Nat) (hp:PowsAt w m)
  (Cy Cu:Array Value) (Ry:QV w (.agg Cy) y) (Ru:QV w (.agg Cu) u) :
  Calls Tryz.prog 17 #[.agg (a.ovals q),.int .i64 (k:Int),.agg Cy,.agg Cu] w λe w'=>∃p c base,e=.returned (.tuple #[.slice p a.ns c,.int .i64 0])∧w.heap.size<=base∧PensAt w' base 65 p a.ns c (λi=>a.tr k y u (i+1))∧Below w.heap.size w w':=by
 have hmf:∀(fn:Fn) (first cap:Array Value) (w:World),(Instr.makeFunc fn first cap).run Tryz.prog w=.ok (.func fn first cap) w:=λ_ _ _ _=>rfl;have hOv:(a.ovals q) = #[.string a.nm,.int .i64 a.di,.int .i64 a.pu,.int .i64 a.st,.int .i64 a.pr,.slice q.pf a.nf q.cf,.slice q.pw a.nw q.cw,.slice q.ps a.ns q.cs,.slice q.pc 0 q.cc,.slice q.pi a.ns q.ci]:=rfl;obtain⟨p1,k1x,c1,p1',k1',c1',e1,z1,y1⟩:=id Ry;obtain⟨p2,k2,c2,p2',k2',c2',e2,z2,y2⟩:=id Ru;cases e1;cases e2;have hg:=λW (hW:Below w.heap.size w W) Bo Bk By Bu bo bk by_ bu=>(callsIn_wide (n:=6)).1 (Zl1 a ha q hchk k k1 y u hf W (h.below hW) m (hp.below hW) Bo Bk By Bu bo bk _ _ by_ bu (Ry.ext (.of_below hW)) (Ru.ext (.of_below hW)));clear Ry Ru z1 y1 z2 y2 h hp;rw[hOv]at hg ⊢;clear hOv;go_enter Tryz.func17,Tryz.ntmps17
 go_wp2_with fail
 refine Zfa λW hB hs bO bK bY bU=>?_;refine(Zlz 44 _ (Go.Proofs.enters_of Tryz.func44 Zk rfl) W (λv w1=>∃p c base,v=.slice p a.ns c∧W.heap.size<=base∧PensAt w1 base 65 p a.ns c (λi=>a.tr k y u (i+1))) ?_ ?_).mono ?_
 ·rintro v w1 u0 u1 c0 c1 b0 b1 ⟨p,c,base,rfl,hb,hP⟩
  exact⟨p,c,base,rfl,hb,Zl2 hP b0 b1 u0 u1⟩
 ·intro W2 hW2 hs2
  refine(hg W2 (Zaa hB hW2) _ _ _ _ (bO.below hW2) (bK.below hW2) (bY.below hW2) (bU.below hW2)).mono ?_;rintro e w' ⟨p,c,rfl,hP,hb⟩;exact⟨p,_,c,rfl,⟨p,c,_,rfl,Zo,hP⟩,hb⟩
 rintro e W3 ⟨p,n,c,rfl,⟨p',c',base,hv,hb,hP⟩,hb3⟩;cases hv;have hB3:=Zaa hB hb3;have hbs:w.heap.size<=base:=by have:=hB.size;omega
 go_wp2
 go_ret2
 exact⟨p,c,base,rfl,hbs,hP,hB3⟩
end Go.Proofs.W
namespace Go.Mono
theorem Ov.cast {N D D':Nat} {x:Rat} (h:Ov N D x) (e:D=D'):Ov N D' x:=e▸h
theorem Ov.fits {N D k:Nat} {x:Rat} (h:Ov N D x) (hk:k<=5399) (hN:N<=10 ^ k) (hD:D<=10 ^ k):Fits x:=Hs.fits (Hs.of_ov h hN hD) hk
theorem Ze5 {z:Int} {n:Nat} (h1 : -(n:Int)<=z) (h2:z<=n):z.natAbs<=n:=Zo
theorem Lns.opt.ix_ov {a:Lns} (ha:a.opt) {k s:Nat} (hs:s<a.ns) (hk:k<a.nw):∃m:Nat,10000000<=m∧m<=40000000∧(a.ix s k*a.sgn (s+1)).natAbs=m:=by
 have h:=ha.ir s k hs hk;rcases a.sgn_cases (s+1) with e|e<;>rw[e]
 ·exact⟨(a.ix s k).natAbs,Zo,Zo,Zo⟩
 ·exact⟨(a.ix s k).natAbs,Zo,Zo,Zo⟩
theorem Lns.opt.nI_ov {a:Lns} (ha:a.opt) {k s:Nat} (hs:s<a.ns) (hk:k<a.nw):Ov 40000000 10000000 (a.nI k s):=by
 obtain⟨m,h1,h2,h3⟩:=ha.ix_ov hs hk;exact Ov.of _ 10000000 Zd _ Zo
theorem Lns.opt.nI_num {a:Lns} (ha:a.opt) {k s:Nat} (hs:s<a.ns) (hk:k<a.nw):(a.nI k s).num≠0:=by
 obtain⟨m,h1,h2,h3⟩:=ha.ix_ov hs hk;intro h;have h0:=Rat.num_eq_zero.1 h;unfold Lns.nI at h0;rw[show(10000000:Int)=((10000000:Nat):Int) from rfl,Rat.divInt_ofNat,Rat.mkRat_eq_zero Zd]at h0;omega
theorem Lns.opt.nI_inv {a:Lns} (ha:a.opt) {k s:Nat} (hs:s<a.ns) (hk:k<a.nw):∃m:Nat,0<m∧m<=40000000∧Ov 10000000 m (a.nI k s)⁻¹:=by
 obtain⟨m,h1,h2,h3⟩:=ha.ix_ov hs hk;refine⟨m,Zo,h2,?_⟩;unfold Lns.nI;rw[Rat.inv_divInt];rcases Int.natAbs_eq (a.ix s k*a.sgn (s+1)) with e|e
 ·rw[e,h3]
  exact Ov.of _ m Zo _ Zd
 ·rw[e,h3]
  have:Rat.divInt 10000000 (-(m:Int))=Rat.divInt (-10000000) (m:Int):=by
   rw[Rat.divInt_neg']
  rw[this];exact Ov.of _ m Zo _ Zd
theorem Lns.opt.nB_ov {a:Lns} (ha:a.opt) {k s:Nat} (hs:s<a.ns) (hk:k<a.nw):Ov 40000000 10000000 (a.nB k s):=by
 unfold Lns.nB;split
 ·exact((Ov.of 1 1 Zd 1 Zd).scale 10000000 Zd).mono Zd
 ·exact ha.nI_ov Zo hk
theorem Lns.opt.cv_ov {a:Lns} (ha:a.opt) {s:Nat} (hs:s<a.ns):Ov 1000000000 1000000000 (a.cv s):=by
 have h:=(ha.base.sok s hs).curv;exact Ov.of _ 1000000000 Zd _ (Ze5 h.1 h.2)
theorem Lns.opt.step_ov {a:Lns} (ha:a.opt) {k s:Nat} (hs:s<a.ns) (hk:k<a.nw):Ov 80000000 10000000 (a.step k s):=
 (ha.nI_ov hs hk).sub_same (ha.nB_ov hs hk)
theorem Lns.opt.gr_ov {a:Lns} (ha:a.opt) {k s:Nat} (hs:s<a.ns) (hk:k<a.nw):Ov (6000000000*2500000) (10000000*10000000) (a.gr k s):=by
 have ho:=(ha.base.sok s hs).order;have hp:=(ha.base.sok s hs).p0;have hl:=ha.base.wl k hk;have h1:(2*(a.S s).order*(a.S s).p0).natAbs<=6000000000:=by
  rw[Yde];have e1:(2*(a.S s).order).natAbs<=6:=Ze5 (by have:=ho.1;omega) (by have:=ho.2;omega);have e2:((a.S s).p0).natAbs<=1000000000:=Ze5 hp.1 hp.2;exact Yak (Ybv e1 e2) Zd
 exact(Ov.of _ 10000000 Zd _ h1).mul (Ov.of _ 10000000 Zd _ Zo)
theorem Lns.opt.cs_ov {a:Lns} (ha:a.opt) {k s:Nat} (hs:s<a.ns) (hk:k<a.nw):Ov (1000000000*80000000) (1000000000*10000000) (a.cv s*a.step k s):=
 (ha.cv_ov hs).mul (ha.step_ov hs hk)
theorem Lns.opt.curved_ov {a:Lns} (ha:a.opt) {k s:Nat} (hs:s<a.ns) (hk:k<a.nw):Ov (10 ^ 19) (10 ^ 16) (a.cv s*a.step k s-a.gr k s):=by
 have h1:=(ha.cs_ov hs hk).cast (show 1000000000*10000000=10 ^ 16 by decide);have h2:=((ha.gr_ov hs hk).scale 100 Zd).cast (show 10000000*10000000*100=10 ^ 16 by decide);exact(h1.sub_same h2).mono Zd
theorem Lns.opt.pow_ov {a:Lns} (ha:a.opt) {k s:Nat} (hs:s<a.ns) (hk:k<a.nw):Ov (10 ^ 19) (10 ^ 16) (a.pow k s):=by
 unfold Lns.pow;split
 ·exact((Ov.of 0 1 Zd 0 Zd).scale (10 ^ 16) Zd).mono Zd |>.cast Zd
 ·split
  ·exact(((ha.cv_ov hs).scale 10000000 Zd).mono Zd).cast Zd
  ·exact ha.curved_ov hs hk
theorem Zgh {a b:Nat} (h:a<=b):10 ^ a<=10 ^ b:=Nat.pow_le_pow_right Zd h
theorem Lns.opt.gap_ov {a:Lns} (ha:a.opt) {s:Nat} (hs:s<a.ns) (j:Int) (hj:j.natAbs=1):Ov 1000000000 1000000 (Rat.divInt (j*(a.S s).thick) 1000000):=by
 have h:=(ha.base.sok s hs).thick;refine Ov.of _ 1000000 Zd _ ?_;rw[Yde,hj,Nat.one_mul];exact Ze5 h.1 h.2
theorem Lns.opt.move_ov {a:Lns} (ha:a.opt) {k s:Nat} (hs:s<a.ns) (hk:k<a.nw) (j:Int) (hj:j.natAbs=1) {N D:Nat} {y u:Rat} (hy:Ov N D y) (hu:Ov N D u) :
  ∃D',D'<=D*10 ^ 14∧D ∣ D'∧D'/D<=10 ^ 14∧Ov (10 ^ 9*N) (10 ^ 6*D) (Rat.divInt (j*(a.S s).thick) 1000000*u)∧Ov (N*10 ^ 16) D' ((Rat.divInt (j*(a.S s).thick) 1000000*u)/a.nI k s)∧Ov (N*10 ^ 17) D' (y+(Rat.divInt (j*(a.S s).thick) 1000000*u)/a.nI k s)∧Ov (N*10 ^ 14) D' u:=by
 obtain⟨m,m0,m1,hm⟩:=ha.nI_inv hs hk;have hD:=hy.1;have h1:=(ha.gap_ov hs j hj).mul hu;have e:1000000*D*m=D*(1000000*m):=by rw[Ycu 1000000 D,Yfv]
 have h2:Ov (N*10 ^ 16) (D*(1000000*m)) ((Rat.divInt (j*(a.S s).thick) 1000000*u)/a.nI k s):=by
  rw[Yew];refine((h1.mul hm).cast e).mono ?_;rw[Ycu 1000000000 N,Yfv];exact Yci _ Zd
 have hk':1000000*m<=10 ^ 14:=by
  have:(10:Nat) ^ 14=100000000000000:=Zd;omega
 have hy2:=(hy.scale (1000000*m) Zo).mono (Yci N hk');have hu2:=(hu.scale (1000000*m) Zo).mono (Yci N hk');refine⟨D*(1000000*m),Yci _ hk',Nat.dvd_mul_right _ _,?_,h1,h2,?_,hu2⟩
 ·rw[Nat.mul_div_cancel_left _ hD];exact hk'
 ·refine(hy2.add_same h2).mono ?_
  rw[<-Nat.mul_add];exact Yci _ Zd
theorem Lns.opt.bend_ov {a:Lns} (ha:a.opt) {k s:Nat} (hs:s<a.ns) (hk:k<a.nw) {N M D:Nat} {y u:Rat} (hy:Ov N D y) (hu:Ov M D u) (j:Rat) (hj:j=1∨j = -1) :
  Ov (N*10 ^ 19) (D*10 ^ 16) (y*a.pow k s)∧Ov (N*10 ^ 19) (D*10 ^ 16) (j*(y*a.pow k s))∧Ov (M*10 ^ 16+N*10 ^ 19) (D*10 ^ 16) (u-j*(y*a.pow k s)):=by
 have h1:=hy.mul (ha.pow_ov hs hk);have h2:Ov (N*10 ^ 19) (D*10 ^ 16) (j*(y*a.pow k s)):=by
  rcases hj with rfl|rfl
  ·rw[Rat.one_mul];exact h1
  ·rw[Rat.neg_mul,Rat.one_mul];exact h1.neg
 exact⟨h1,h2,(hu.scale _ Zd).sub_same h2⟩
theorem Lns.opt.tr_ov {a:Lns} (ha:a.opt) {k:Nat} (hk:k<a.nw) {y u:Rat} {K:Nat} {D0:Nat} (hD0:D0<=10 ^ K) (hy:Ov (10 ^ K) D0 y) (hu:Ov (10 ^ K) D0 u) :
  ∀s,s<=a.ns->∃D,D<=10 ^ (K+30*s)∧Ov (10 ^ (K+37*s)) D (a.tr k y u s).1∧Ov (10 ^ (K+37*s)) D (a.tr k y u s).2
 | 0,_=>⟨D0,hD0,hy,hu⟩
 | s + 1, hs => by
   obtain⟨D,hD,h1,h2⟩:=Lns.opt.tr_ov ha hk hD0 hy hu s Zo;obtain⟨D',hD',h3,h4⟩:∃D',D'<=D*10 ^ 14∧Ov (10 ^ (K+37*s)*10 ^ 17) D' (a.tr k y u (s+1)).1∧Ov (10 ^ (K+37*s)*10 ^ 17) D' (a.tr k y u s).2:=by
    rw[show(a.tr k y u (s+1)).1=(if s=0 then(a.tr k y u s).1 else(a.tr k y u s).1+(Rat.divInt (1*(a.S (s-1)).thick) 1000000*(a.tr k y u s).2)/a.nI k (s-1)) from rfl];split
    ·exact⟨D,Yfd _ (show 0<10 ^ 14 by decide),h1.mono (Yfd _ (show 0<10 ^ 17 by decide)),h2.mono (Yfd _ (show 0<10 ^ 17 by decide))⟩
    ·obtain⟨D',g1,_,_,_,_,g2,g3⟩:=ha.move_ov (s:=s-1) Zo hk 1 rfl h1 h2
     exact⟨D',g1,g2,g3.mono (Yci _ (show 10 ^ 14<=10 ^ 17 by decide))⟩
   obtain⟨_,_,h5⟩:=ha.bend_ov (s:=s) Zo hk h3 h4 (Rat.divInt 1 1) (.inl (by decide +kernel));have e1:(10:Nat) ^ (K+37*(s+1))=10 ^ (K+37*s)*10 ^ 37:=by rw[<-Ydn];congr 1
   have e2:(10:Nat) ^ (K+30*(s+1))=10 ^ (K+30*s)*10 ^ 30:=by rw[<-Ydn];congr 1
   refine⟨D'*10 ^ 16,?_,?_,?_⟩
   ·rw[e2]
    have:=Ybv hD (Yab (10 ^ 14));have h6:=Ybv (Yak hD' this) (Yab (10 ^ 16));rw[Yfv]at h6;exact h6
   ·rw[e1]
    refine(h3.scale (10 ^ 16) Zd).mono ?_;rw[Yfv];exact Yci _ Zd
   ·rw[e1]
    refine Ov.mono (show Ov _ _ (a.tr k y u (s+1)).2 from h5) ?_;rw[Yfv,Yfv,<-Nat.mul_add];exact Yci _ Zd
theorem Hs.two {k:Nat} {x y:Rat} (hx:Hs k x) (hy:Hs k y):∃D,D<=10 ^ (k+k)∧Ov (10 ^ (k+k)) D x∧Ov (10 ^ (k+k)) D y:=by
 refine⟨x.den*y.den,?_,?_,?_⟩
 ·rw[Ydn];exact Ybv hx.2 hy.2
 ·refine(hx.ov.scale y.den y.den_pos).mono ?_
  rw[Ydn];exact Yci _ hy.2
 ·refine((hy.ov.scale x.den x.den_pos).cast (Ycu _ _)).mono ?_
  rw[Ydn];exact Yci _ hx.2
end Go.Mono
namespace Go.Proofs.W
open Go.RowKit Go.Mono
theorem Zl3 {a:Lns} (ha:a.opt) {k s:Nat} (hs:s<a.ns) (hk:k<a.nw):PowFits a k s:=by
 exact⟨(ha.step_ov hs hk).fits (k:=30) Zd Zd Zd,(ha.cs_ov hs hk).fits (k:=30) Zd Zd Zd,(ha.gr_ov hs hk).fits (k:=30) Zd Zd Zd,(ha.curved_ov hs hk).fits (k:=30) Zd Zd Zd⟩
theorem Zoz {a:Lns} (ha:a.opt) {k:Nat} (hk:k<a.nw) {y u:Rat} {K:Nat} (hK:K<=4000) {D0:Nat} (hD0:D0<=10 ^ K) (hy:Ov (10 ^ K) D0 y) (hu:Ov (10 ^ K) D0 u):TrFits a k y u:=by
 have hn:=ha.base.ns;have tr:=λs hs=>ha.tr_ov hk hD0 hy hu s hs;have b':∀s c {n:Nat},n<=10 ^ (K+37*s)*10 ^ c->c<=20->n<=10 ^ (K+37*s+20):=λs c n h hc=>by
  rw[<-Ydn]at h;exact Yak h (Zgh Zo)
 have e30:∀s,(10:Nat) ^ (K+30*s)<=10 ^ (K+37*s):=λs=>Zgh Zo;refine⟨λs hs=>Zl3 ha hs hk,λs hs=>ha.nI_num hs hk,λs hs=>?_,λs hs=>?_,λs hs=>?_,λs hs=>?_,λs hs=>?_,λs hs=>?_⟩
 ·obtain⟨D,hD,h1,h2⟩:=tr (s+1) Zo
  obtain⟨D',g1,_,_,g2,g3,g4,_⟩:=ha.move_ov (s:=s) Zo hk 1 rfl h1 h2;refine g2.fits (k:=K+37*(s+1)+20) Zo (b' (s+1) 9 (by rw[Ycu];exact Yab _) Zd) (b' (s+1) 6 ?_ Zd);rw[Ycu];exact Ybd _ (Yak hD (e30 _))
 ·obtain⟨D,hD,h1,h2⟩:=tr (s+1) Zo
  obtain⟨D',g1,_,_,g2,g3,g4,_⟩:=ha.move_ov (s:=s) Zo hk 1 rfl h1 h2;exact g3.fits (k:=K+37*(s+1)+20) Zo (b' (s+1) 16 (Yab _) Zd) (b' (s+1) 14 (Yak g1 (Ybd _ (Yak hD (e30 _)))) Zd)
 ·obtain⟨D,hD,h1,h2⟩:=tr (s+1) Zo
  obtain⟨D',g1,_,_,g2,g3,g4,_⟩:=ha.move_ov (s:=s) Zo hk 1 rfl h1 h2;exact g4.fits (k:=K+37*(s+1)+20) Zo (b' (s+1) 17 (Yab _) Zd) (b' (s+1) 14 (Yak g1 (Ybd _ (Yak hD (e30 _)))) Zd)
 ·obtain⟨D,hD,h1,h2⟩:=tr (s+1) Zo
  obtain⟨g1,_,_⟩:=ha.bend_ov (s:=s) hs hk h1 h2 1 (.inl rfl);exact g1.fits (k:=K+37*(s+1)+20) Zo (b' (s+1) 19 (Yab _) Zd) (b' (s+1) 16 (Ybd _ (Yak hD (e30 _))) Zd)
 ·obtain⟨D,hD,h1,h2⟩:=tr (s+1) Zo
  obtain⟨_,g1,_⟩:=ha.bend_ov (s:=s) hs hk h1 h2 (Rat.divInt 1 1) (.inl (by decide +kernel));exact g1.fits (k:=K+37*(s+1)+20) Zo (b' (s+1) 19 (Yab _) Zd) (b' (s+1) 16 (Ybd _ (Yak hD (e30 _))) Zd)
 ·obtain⟨D,hD,h1,h2⟩:=tr (s+1) Zo
  exact h2.fits (k:=K+37*(s+1)+20) Zo (b' (s+1) 0 (by rw[Nat.pow_zero,Yfk];exact Yab _) Zd) (b' (s+1) 0 (by rw[Nat.pow_zero,Yfk];exact Yak hD (e30 _)) Zd)
end Go.Proofs.W
namespace Go.Ex
open Go.RowKit Go.Mono
def Ctr.listT {D:Den} {P:Program} {w0:World} (f:FuncId) (T:TypeId) (run:List SA->List (Nat×Blk)->List (Option Bool)->Option (Nat×List U×List SA×List Prop×List (Option Bool)))
    (sound:∀args bk orc m l rest obl orc',run args bk orc=some (m,l,rest,obl,orc')->(∀p∈obl,p)->∀ρ w vals,Frm w0 (λ_=>False) w->BkOk D ρ w w bk->denAs D ρ w args vals->
     Calls P f vals.toArray w λe w'=>∃b off cp cs vs,e=.returned (.tuple (Value.slice (some ⟨b,off,none⟩) m cp::vs).toArray)∧m<=cp∧w.heap.size<=b∧b<w'.heap.size∧w'.rangeAt b off cs∧denL D ρ w' l cs∧denAs D ρ w' rest vs∧Below w.heap.size w w'):Ctr D P w0 (λ_=>False) where
 f:=f
 run:=λargs bk c orc=>match run args bk orc with
  | some (m,l,rest,obl,orc')=>some ⟨.tup (.one (.sli c 0 m)::rest),[(c,⟨T,l,true,false,false⟩)],obl,orc',c+1,c+1,none⟩
  | none=>none
 cc:=by
  intro args bk c orc r h;split at h
  ·cases h;exact Nat.le_succ _
  ·cases h
 sound:=by
  intro args bk c orc r h hobl th ρ wc w vals hS hlt hn hargs;split at h
  ·rename_i m l rest obl orc' hr
   cases h;refine(sound _ _ _ _ _ _ _ _ hr hobl ρ w vals hS.fr (λk b hk hd=>?_) (hargs.mono (Nm.le.refl _) hS.ext)).mono ?_
   ·obtain⟨B,cs,h1,h2,h3,h4⟩:=hS.bkOk k b hk hd
    exact⟨B,cs,h1,h2,h3.mono (Nm.le.refl _) hS.ext,h4⟩
   ·rintro e w' ⟨b,off,cp,cs,vs,rfl,hm,hwb,hbw,hrg,hl,hrest,hb⟩
    obtain⟨k1,k2⟩:=hS.call hb c c (λk b hk=>Nat.not_le.2 (hlt k b hk));have hc:=hn c (Yab _) (Yca c);have g1:=k1.view hc T hbw (λj B hj _=>by have:=hS.lt j B hj;omega) hrg hl hlt;refine⟨_,_,w',rfl,⟨_,rfl,_,_,rfl,⟨_,cp,Zbf _ _ _,hm,rfl⟩,hrest.mono (Zdx hc) (Ext.refl _)⟩,g1,⟨Zdx hc,k2.ext,k2.size,k2.os,k2.tape,k2.output,k2.loc,λj x hj=>?_,Nat.le_succ _,λj hj=>Zax _ _ (by dsimp only at hj;omega)⟩⟩;rcases Zbu hj with ⟨rfl,rfl,_⟩|⟨e1,hj⟩
    ·exact .inr ⟨Yab _,Yca _,_,Zbf _ _ _,.inl hwb⟩
    ·exact .inl ⟨x,hj⟩
  ·cases h
end Go.Ex
namespace Go.Proofs.W
open Go.RowKit Go.Mono
section
open Go.Ex
theorem Zxb {a:Lns} (ha:a.opt) (q:Plc):Chk a q:=λW h=>Zqy a ha q W h
def oK (a:Lns) (q:Plc) (i:Nat):Value:=((a.ovals q)[i]?).getD (.bool false)
theorem oK1 (a:Lns) (q:Plc) (i:Nat):(oK a q i).oneCell'=true:=by
 unfold oK;match i with
 | 0=>rfl
 | 1=>rfl
 | 2=>rfl
 | 3=>rfl
 | 4=>rfl
 | 5=>rfl
 | 6=>rfl
 | 7=>rfl
 | 8=>rfl
 | 9=>rfl
 | i + 10 =>
   rw[Yfj (show(a.ovals q).size<=i+10 by show 10<=i+10;omega)];rfl
def toksO (l:List U):Option Value:=
 match l with
 | [.tok 0,.tok 1,.tok 2,.tok 3,.tok 4,.tok 5,.tok 6,.val v,.tok 8,.tok 9]=>some v
 | _=>none
def oU (a:Lns) (q:Plc) (ns:Nat):List U:=[.tok 0,.tok 1,.tok 2,.tok 3,.tok 4,.tok 5,.tok 6,.val (.slice q.ps ns q.cs),.tok 8,.tok 9]
theorem Zxc (a:Lns) (q:Plc) {ns:Nat} (hns:a.ns=ns) (ρ:Nm) (w:World):denL (qDen (oK a q) (oK1 a q)) ρ w (oU a q ns) (a.ovals q).toList:=by
 subst hns;exact⟨[_],_,rfl,rfl,[_],_,rfl,rfl,[_],_,rfl,rfl,[_],_,rfl,rfl,[_],_,rfl,rfl,[_],_,rfl,rfl,[_],_,rfl,rfl,[_],_,rfl,⟨rfl,rfl⟩,[_],_,rfl,rfl,[_],[],rfl,rfl,rfl⟩
theorem Ztz {a:Lns} {q:Plc} {l:List U} {v:Value} (h:toksO l=some v) (hv:v=.slice q.ps a.ns q.cs) {ρ:Nm} {w:World} {x:Value} (hd:denA (qDen (oK a q) (oK1 a q)) ρ w (.agg l) x):x=.agg (a.ovals q):=by
 unfold toksO at h;split at h
 ·cases h
  obtain⟨cs,rfl,c0,d0,rfl,e0,c1,d1,rfl,e1,c2,d2,rfl,e2,c3,d3,rfl,e3,c4,d4,rfl,e4,c5,d5,rfl,e5,c6,d6,rfl,e6,c7,d7,rfl,⟨e7,_⟩,c8,d8,rfl,e8,c9,d9,rfl,e9,hd9⟩:=hd;obtain rfl:d9=[]:=hd9;obtain rfl:c0=[oK a q 0]:=e0;obtain rfl:c1=[oK a q 1]:=e1;obtain rfl:c2=[oK a q 2]:=e2;obtain rfl:c3=[oK a q 3]:=e3;obtain rfl:c4=[oK a q 4]:=e4;obtain rfl:c5=[oK a q 5]:=e5;obtain rfl:c6=[oK a q 6]:=e6;obtain rfl:c8=[oK a q 8]:=e8;obtain rfl:c9=[oK a q 9]:=e9;subst e7;rw[hv];rfl
 ·cases h
def trU (a:Lns) (k:Nat) (y u:Rat):Nat->Nat->List U
 | _,0=>[]
 | s,n+1=>.quo (a.tr k y u (s+1)).1::.quo (a.tr k y u (s+1)).2::trU a k y u (s+1) n
theorem Zrh {K:Nat->Value} {hK:∀i,(K i).oneCell'=true} {a:Lns} {k:Nat} {y u:Rat} {ρ:Nm} {w:World} {C:Nat->Array Value}:∀(n s:Nat),(∀j,s<=j->j<s+n->PenQ w (C j) (a.tr k y u (j+1)))->denL (qDen K hK) ρ w (trU a k y u s n) ((List.range' s n).flatMap λj=>(C j).toList)
 | 0,s,_=>rfl
 | n + 1, s, h => by
   rw[List.range'_succ,List.flatMap_cons];obtain⟨p,k1,c,p',k',c',r,l,d,r',l',d',e,q1,q2⟩:=h s (Yab _) Zo;rw[e];exact⟨[_,_,_,_],_,rfl,q1,[_,_,_,_],_,rfl,q2,Zrh n (s+1) λj h1 h2=>h j Zo Zo⟩
def traceRun (a:Lns) (q:Plc) (ns:Nat) (args:List SA) (bk:List (Nat×Blk)) (orc:List (Option Bool)):Option (Nat×List U×List SA×List Prop×List (Option Bool)):=
 match args with
 | [.agg l, x, .agg y, .agg u] => match toksO l, intOf (some (.a x)), asQ y, asQ u with
   | some v,some (.i64,k,_),some y,some u=>some (ns,trU a k.toNat y u 0 ns,[okV],[v=.slice q.ps a.ns q.cs,0<=k∧k<a.nw,TrFits a k.toNat y u],orc)
   | _,_,_,_=>none
 | _=>none
theorem Zo0 {w:World} {b off n:Nat} {C:Nat->Array Value} (hs:∀j,j<n->(C j).size=8) (h:∀i j,i<n->j<8->w.cell? ⟨b,off+i*8+j,none⟩=some ((C i).getD j undef)):w.rangeAt b off ((List.range' 0 n).flatMap λj=>(C j).toList):=by
 intro j v hj;have e:((List.range' 0 n).flatMap λj=>(C j).toList)=pens C n:=by unfold pens;rw[List.range_eq_range']
 rw[e]at hj;have hl:=Zg5 C 8 n hs;have hjl:j<n*8:=by rw[<-hl];exact(Yan.1 hj).1
 have hg:=Ztv C 8 n hs (j/8) (j%8) Zo Zo;rw[show j/8*8+j%8=j by omega]at hg;rw[hg]at hj;cases hj;rw[<-h (j/8) (j%8) Zo Zo,show off+j/8*8+j%8=off+j by omega]
theorem Zri {w:World} {base n m size c:Nat} {p:Option Addr} {e:TypeId} {vals:List Value} (h:w.ownsRow base e size (.slice p m c) n vals):∀b off,p=some ⟨b,off,none⟩->base<=b:=λb off hp=>by
 obtain⟨_,⟨h0,_⟩|⟨g,cap,cur,hv,hb,_⟩⟩:=h
 ·subst hp;cases h0
 ·subst hp;cases hv;exact hb
def cTrace {a:Lns} (ha:a.opt) {q:Plc} {ns m:Nat} (hns:a.ns=ns) {w0:World} (ho:OptAt w0 a q) (hp:PowsAt w0 m):Ctr (qDen (oK a q) (oK1 a q)) Tryz.prog w0 (λ_=>False):=.listT 17 65 (traceRun a q ns)<|by
 intro args bk orc n l rest obl orc' hr hobl ρ w vals hfr hb hargs;unfold traceRun at hr;split at hr
 ·rename_i l1 x y u
  split at hr
  ·rename_i v k s y' u' h1 h2 h3 h4
   cases hr;obtain⟨v1,r1,rfl,d1,v2,r2,rfl,d2,v3,r3,rfl,d3,v4,r4,rfl,d4,h5⟩:=hargs;obtain rfl:r4=[]:=h5;obtain rfl:=Ztz h1 (hobl _ Zs) d1;obtain rfl:=Zdy (D:=qDen (oK a q) (oK1 a q)) (ρ:=ρ) (w:=w) h2 d2;have hk:=hobl (0<=k∧k<a.nw) Zs;have hfit:=hobl (TrFits a k.toNat y' u') Zs;obtain⟨kn,rfl⟩:∃kn:Nat,k=kn:=⟨k.toNat,Zo⟩
   rw[Ycb]at hfit;have qy:=Zet h3 d3;have qu:=Zet h4 d4;obtain⟨Cy,rfl⟩:∃C:Array Value,v3=.agg C:=by
    obtain⟨_,_,_,_,_,_,e,_⟩:=id qy;exact⟨_,e⟩
   obtain⟨Cu,rfl⟩:∃C:Array Value,v4=.agg C:=by
    obtain⟨_,_,_,_,_,_,e,_⟩:=id qu;exact⟨_,e⟩
   have hbl:=hfr.below;have hnn:=ha.base.ns;refine(Zty a ha q (Zxb ha q) kn Zo y' u' hfit w (ho.below hbl) m (hp.below hbl) Cy Cu qy qu).mono ?_;rintro e w' ⟨p,c,base,rfl,hbs,hP,hb'⟩;have hP2:=hP;obtain⟨C0,hrow,_⟩:=hP2;obtain⟨C,⟨hc,_,hx⟩,hC⟩:=hP.rd Zo hnn.2;obtain⟨b,off,rfl,hlt,hcell⟩:=hx Zo;subst hns;refine⟨b,off,c,_,[.int .i64 0],rfl,hc,Yak hbs (Zri hrow b off rfl),hlt,Zo0 (λj hj=>(hC j hj).1) hcell,?_,⟨_,[],rfl,⟨rfl,rfl⟩,rfl⟩,hb'⟩;rw[Ycb];exact Zrh _ 0 λj _ hj=>(hC j Zo).2
  ·cases hr
 ·cases hr
end
end Go.Proofs.W
