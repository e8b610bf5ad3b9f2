/- Contracts of package paraxial,and a verified evaluator. Part 25 of 28. No condition beside the row. -/
import Derived.Test.YtfgmlkjibdegfaaGreatDoorA09
import Derived.Test.YtfgmlkjibdegfaaGreatDoorA24
set_option linter.unusedVariables false
set_option linter.unusedSimpArgs false
set_option maxRecDepth 100000
set_option maxHeartbeats 4000000
namespace Go.Mono
open Go.RowKit
section
def KR (R:Nat) (W w:World):Prop:=KeepBut R W.heap.size W w∧∀o,o<4->w.cell? ⟨R,o,none⟩=W.cell? ⟨R,o,none⟩
section
variable {R:Nat} {W w w':World}
theorem KR.refl (R:Nat) (W:World):KR R W W:=⟨KeepBut.refl _ _,λ_ _=>rfl⟩
theorem KR.drew (h:KR R W w):KR R W w.drew:=⟨h.1.drew,h.2⟩
theorem KR.call (h:KR R W w) (hR:R<W.heap.size) (hb:Below w.heap.size w w'):KR R W w':=
 ⟨h.1.call hb,λo ho=>(hb.cell (p:=⟨R,o,none⟩) (Yaf hR h.1.size)).trans (h.2 o ho)⟩
theorem KR.alloc (h:KR R W w) (hR:R<W.heap.size) (x:Obj):KR R W (w.alloc x):=h.call hR ((Yae _ _).alloc (Yab _) x)
theorem KR.set (h:KR R W w) (i:Nat) (hi:4<=i) (u:Value):KR R W (w.setCell ⟨R,i,none⟩ u):=
 ⟨h.1.set i u,λo ho=>(Yet _ _ _ _ (by intro e;have:=congrArg Addr.off e;simp at this;omega)).trans (h.2 o ho)⟩
theorem KR.ext (h:KR R W w) {T:TypeId} {cs:Array Value} (hb:Box W R T cs) (hT:T≠3):Ext W w:=h.1.ext hb hT
theorem KR.S (h:KR R W w):(∀b o,b<W.heap.size->b≠R->w.cell? ⟨b,o,none⟩=W.cell? ⟨b,o,none⟩)∧(∀o,o<4->w.cell? ⟨R,o,none⟩=W.cell? ⟨R,o,none⟩)∧KR R W w:=⟨h.1.cell,h.2,h⟩
end
theorem Zrf {R:Nat} {W w':World} {T:TypeId} {a0 a1 a2 a3 a4 a5 a6 a7:Value} (h:KR R W w') (b:Box W R T #[a0,a1,a2,a3,a4,a5,a6,a7]):w'.rangeAt R 0 (#[a0,a1,a2,a3]:Array Value).toList:=λj v hv=>by
 have hj:j<4:=by
  have:=(Yan.1 hv).1;simpa using this
 rw[Yba,h.2 j hj,b.cell];match j,hv with
 | 0,hv=>simpa using hv
 | 1,hv=>simpa using hv
 | 2,hv=>simpa using hv
 | 3,hv=>simpa using hv
 | n+4,hv=>simp at hv
theorem Zd1 {w:World} {B:Nat} {T:TypeId} {a0 a1 a2 a3 a4 a5 a6 a7:Value} (b:Box w B T #[a0,a1,a2,a3,a4,a5,a6,a7]):w.rangeAt B 4 (#[a4,a5,a6,a7]:Array Value).toList:=λj v hv=>by
 rw[b.cell];match j,hv with
 | 0,hv=>simpa using hv
 | 1,hv=>simpa using hv
 | 2,hv=>simpa using hv
 | 3,hv=>simpa using hv
 | n+4,hv=>simp at hv
theorem Zgf {w:World} {B:Nat} {T:TypeId} {a0 a1 a2 a3 a4 a5 a6 a7:Value} (b:Box w B T #[a0,a1,a2,a3,a4,a5,a6,a7]):w.rangeAt B 0 (#[a0,a1,a2,a3]:Array Value).toList:=λj v hv=>by
 rw[b.cell];match j,hv with
 | 0,hv=>simpa using hv
 | 1,hv=>simpa using hv
 | 2,hv=>simpa using hv
 | 3,hv=>simpa using hv
 | n+4,hv=>simp at hv
def RayAt (w:World) (R:Nat) (T:TypeId) (y u:Rat):Prop:=
 ∃p k c p' k' c' r l d r' l' d',Box w R T #[.bool (decide (y.num<0)),.slice p k c,.bool false,.slice p' k' c',.bool (decide (u.num<0)),.slice r l d,.bool false,.slice r' l' d']∧
   QV w (.agg #[.bool (decide (y.num<0)),.slice p k c,.bool false,.slice p' k' c']) y∧QV w (.agg #[.bool (decide (u.num<0)),.slice r l d,.bool false,.slice r' l' d']) u
theorem KeepBut.of_below {R:Nat} {w W w':World} (hB:Below w.heap.size w W) (h:KeepBut R W.heap.size W w'):KeepBut R w.heap.size w w':=
 ⟨h.os.trans hB.os,h.tape.trans hB.tape,h.output.trans hB.output,Yak hB.size h.size,λk hk hR=>(h.block k (Yaf hk hB.size) hR).trans (hB.block k hk)⟩
section
variable {w:World} {R:Nat} {T:TypeId} {y u:Rat} {p:Option Addr} {k c:Nat} {p':Option Addr} {k' c':Nat} {r:Option Addr} {l d:Nat} {r':Option Addr} {l' d':Nat} {o0 o1 o2 o3:Value}
theorem Zd2 (hT:T≠3) (b:Box w R T #[.bool (decide (y.num<0)),.slice p k c,.bool false,.slice p' k' c',o0,o1,o2,o3])
  (Ry:QV ((((w.setCell ⟨R,4,none⟩ (.bool (decide (u.num<0)))).setCell ⟨R,5,none⟩ (.slice r l d)).setCell ⟨R,6,none⟩ (.bool false)).setCell ⟨R,7,none⟩ (.slice r' l' d')) (.agg #[.bool (decide (y.num<0)),.slice p k c,.bool false,.slice p' k' c']) y)
  (Ru:QV w (.agg #[.bool (decide (u.num<0)),.slice r l d,.bool false,.slice r' l' d']) u) :
  RayAt ((((w.setCell ⟨R,4,none⟩ (.bool (decide (u.num<0)))).setCell ⟨R,5,none⟩ (.slice r l d)).setCell ⟨R,6,none⟩ (.bool false)).setCell ⟨R,7,none⟩ (.slice r' l' d')) R T y u:=by
 have b1:=b.set 4 (.bool (decide (u.num<0)));have b2:=b1.set 5 (.slice r l d);have b3:=b2.set 6 (.bool false);have b4:=b3.set 7 (.slice r' l' d');exact⟨p,k,c,p',k',c',r,l,d,r',l',d',b4,Ry,Ru.ext (((((Ext.refl w).set b hT 4 _).set b1 hT 5 _).set b2 hT 6 _).set b3 hT 7 _)⟩
theorem Zgg (hT:T≠3) (b:Box w R T #[o0,o1,o2,o3,.bool (decide (u.num<0)),.slice r l d,.bool false,.slice r' l' d'])
  (Ry:QV w (.agg #[.bool (decide (y.num<0)),.slice p k c,.bool false,.slice p' k' c']) y)
  (Ru:QV ((((w.setCell ⟨R,0,none⟩ (.bool (decide (y.num<0)))).setCell ⟨R,1,none⟩ (.slice p k c)).setCell ⟨R,2,none⟩ (.bool false)).setCell ⟨R,3,none⟩ (.slice p' k' c')) (.agg #[.bool (decide (u.num<0)),.slice r l d,.bool false,.slice r' l' d']) u) :
  RayAt ((((w.setCell ⟨R,0,none⟩ (.bool (decide (y.num<0)))).setCell ⟨R,1,none⟩ (.slice p k c)).setCell ⟨R,2,none⟩ (.bool false)).setCell ⟨R,3,none⟩ (.slice p' k' c')) R T y u:=by
 have b1:=b.set 0 (.bool (decide (y.num<0)));have b2:=b1.set 1 (.slice p k c);have b3:=b2.set 2 (.bool false);have b4:=b3.set 3 (.slice p' k' c');exact⟨p,k,c,p',k',c',r,l,d,r',l',d',b4,Ry.ext (((((Ext.refl w).set b hT 0 _).set b1 hT 1 _).set b2 hT 2 _).set b3 hT 3 _),Ru⟩
end
end
section
theorem Zlr {P:Program} {S:World->Prop} {oi:Oper} {a:Act} (ty:TypeId) (x ix:Operand) (ok:Bool) (ho:oi.op=.lookup ty x ix ok) (m kv v:Value) (hx:a.eval x=m) (hk:a.eval ix=kv)
  (hrun:∀w,S w->(Instr.lookup ty m kv ok).run P w=.ok v w):∀w,S w->(execOp a.eval oi).run P w=.ok (.value v) w:=λw hS=>by
 unfold execOp;simp only[ho,hx,hk,Yar,hrun w hS,Yag,Yau]
section
variable {P:Program} {ops:Array Oper} {Q:Exit->Act->World->Prop} {md:Region.Mode} {S:World->Prop}
theorem Zi0 (B:Nat) (T:TypeId) (i:Nat) {o:Oper} (hi:ops[i]? = some o) (hg:o.guard=none) (hd:o.dst=none) {ty:TypeId} {x y:Operand} (ho:o.op=.store ty x y) (off:Nat) (cells cs new:Array Value) {a:Act} {fuel:Nat} {listed:Array Bool} {w:World}
  (hr:Region.ready md ops listed=[i]) (hS:∀w i u,S w->S (w.setCell ⟨B,i,none⟩ u)) (hx:a.eval x=.pointer (some ⟨B,off,none⟩)) (hy:a.eval y=.agg cells)
  (hb:Box w B T cs) (hs:S w) (hi2:(P.info? ty).map (·.size)=some cells.size) (hoff:off+cells.size<=cs.size) (h1:cells.all (·.oneCell')=true)
  (hn:cs.toList.take off++cells.toList++cs.toList.drop (off+cells.size)=new.toList)
  (h:∀w',KeepBut B w.heap.size w w'->Box w' B T new->S w'->wpAnyH P md ops Q S fuel (listed.setIfInBounds i true) a w'):wpAnyH P md ops Q S (fuel+1) listed a w:=by
 refine wpAnyH_all hr Zs λj hj=>?_;obtain rfl:j=i:=by simpa using hj
 unfold wpOp;rw[hi];have hw:Region.wanted o (yielded ops a.tmps)=true:=by simp[Region.wanted,hg]
 simp only[hw,if_true];left
 have hb2:=Box.setCells cells.toList off w cs hb (by simpa using hoff);have hb3:Box (w.setCells B off cells.toList) B T new:=by simpa[hn]using hb2
 have hs2:=Zbr hS cells.toList off w hs;refine wp_store_mid ty x y ho B off cells hx hy (hb.there off cells.size hoff) hi2 h1 ?_;rw[hd];exact⟨hs2,h _ ((KeepBut.refl _ _).setCells _ _ _) hb3 hs2⟩
end
def CB (R:Nat) (W w:World):Prop:=(∀b o,b<W.heap.size->b≠R->w.cell? ⟨b,o,none⟩=W.cell? ⟨b,o,none⟩)∧KeepBut R W.heap.size W w
theorem CB.set {R:Nat} {W:World} (w:World) (i:Nat) (u:Value) (h:(∀b o,b<W.heap.size->b≠R->w.cell? ⟨b,o,none⟩=W.cell? ⟨b,o,none⟩)∧KeepBut R W.heap.size W w) :
  (∀b o,b<W.heap.size->b≠R->(w.setCell ⟨R,i,none⟩ u).cell? ⟨b,o,none⟩=W.cell? ⟨b,o,none⟩)∧KeepBut R W.heap.size W (w.setCell ⟨R,i,none⟩ u):=KeepBut.S (h.2.set i u)
theorem Zls {R:Nat} {W w:World} (h:KeepBut R W.heap.size W w):(∀b o,b<W.heap.size->b≠R->w.cell? ⟨b,o,none⟩=W.cell? ⟨b,o,none⟩)∧KeepBut R W.heap.size W w:=KeepBut.S h
end
end Go.Mono
namespace Go.Proofs.W
open Go.RowKit Go.Mono
structure PowsAt (w:World) (m:Nat):Prop where
 lt:m<w.heap.size
 pos:0<w.heap.size
 cell:w.cell? ⟨0,0,none⟩=some (.map (some m))
 look:∀w':World,w'.heap[m]? = w.heap[m]?->(Instr.lookup 173 (.map (some m)) (.int .i64 1) false).run Tryz.prog w'=.ok (.func (.func 281) #[] #[]) w'∧(Instr.lookup 173 (.map (some m)) (.int .i64 2) false).run Tryz.prog w'=.ok (.func (.func 281) #[] #[]) w'∧
  (Instr.lookup 173 (.map (some m)) (.int .i64 3) false).run Tryz.prog w'=.ok (.func (.func 282) #[] #[]) w'∧(Instr.lookup 173 (.map (some m)) (.int .i64 4) false).run Tryz.prog w'=.ok (.func (.func 283) #[] #[]) w'
theorem PowsAt.below {w w':World} {m:Nat} (h:PowsAt w m) (hB:Below w.heap.size w w'):PowsAt w' m:=
 ⟨Yaf h.lt hB.size,Yaf h.pos hB.size,(hB.cell (p:=⟨0,0,none⟩) h.pos).trans h.cell,λw2 h2=>h.look w2 (h2.trans (hB.block m h.lt))⟩
theorem PowsAt.kind {w:World} {m:Nat} (h:PowsAt w m) {kd:Int} (k1:1<=kd) (k2:kd<=4):∀w':World,w'.heap[m]? = w.heap[m]?->(Instr.lookup 173 (.map (some m)) (.int .i64 kd) false).run Tryz.prog w'=.ok (.func (.func (if kd=3 then 282 else if kd=4 then 283 else 281)) #[] #[]) w':=λw' hw=>by
 obtain⟨h1,h2,h3,h4⟩:=h.look w' hw;rcases(by omega:kd=1∨kd=2∨kd=3∨kd=4) with rfl|rfl|rfl|rfl
 ·exact h1
 ·exact h2
 ·exact h3
 ·exact h4
theorem Zok (kd:Int):∀args w,(callFunc (if kd=3 then 282 else if kd=4 then 283 else 281) args).run Tryz.prog w=.ok (.enter (if kd=3 then 282 else if kd=4 then 283 else 281) args) w:=by
 by_cases h3:kd=3
 ·rw[if_pos h3];exact Go.Proofs.enters_of Tryz.func282 Zk rfl
 ·rw[if_neg h3]
  by_cases h4:kd=4
  ·rw[if_pos h4];exact Go.Proofs.enters_of Tryz.func283 Zk rfl
  ·rw[if_neg h4];exact Go.Proofs.enters_of Tryz.func281 Zk rfl
structure PowFits (a:Lns) (k s:Nat):Prop where
 f1:Fits (a.step k s)
 f2:Fits (a.cv s*a.step k s)
 f3:Fits (a.gr k s)
 f4:Fits (a.cv s*a.step k s-a.gr k s)
theorem Zvy (a:Lns) (ha:a.opt) (q:Plc) (hchk:Chk a q) (s k:Nat) (w:World) (h:OptAt w a q) (s1:s<a.ns) (k1:k<a.nw) (hf:PowFits a k s) :
  Calls Tryz.prog (if(a.S s).kind=3 then 282 else if(a.S s).kind=4 then 283 else 281) #[.agg (a.vvals q k),.int .i64 (s:Int)] w λe w'=>∃C,e=.returned (.agg C)∧QV w' (.agg C) (a.pow k s)∧Below w.heap.size w w':=by
 by_cases h3:(a.S s).kind=3
 ·rw[if_pos h3]
  have e:a.pow k s=Rat.divInt 0 1:=by unfold Lns.pow;rw[if_pos h3]
  rw[e];exact Zvw _ _ w
 ·rw[if_neg h3]
  by_cases h4:(a.S s).kind=4
  ·rw[if_pos h4]
   have e:a.pow k s=a.cv s:=by unfold Lns.pow;rw[if_neg h3,if_pos h4]
   rw[e];have:=(ha.base.sok s s1).curv;exact Ztm a q s k w h s1 this.1 this.2
  ·rw[if_neg h4]
   have e:a.pow k s=a.cv s*a.step k s-a.gr k s:=by unfold Lns.pow;rw[if_neg h3,if_neg h4]
   rw[e];exact Zq5 a ha q hchk s k w h s1 k1 hf.f1 hf.f2 hf.f3 hf.f4
theorem Ztn (a:Lns) (ha:a.opt) (q:Plc) (hchk:Chk a q) (s k:Nat) (w:World) (h:OptAt w a q) (s1:s<a.ns) (k1:k<a.nw) (hf:PowFits a k s) (m:Nat) (hp:PowsAt w m) :
  Calls Tryz.prog 50 #[.agg (a.vvals q k),.int .i64 (s:Int)] w λe w'=>∃C,e=.returned (.agg C)∧QV w' (.agg C) (a.pow k s)∧Below w.heap.size w w':=by
 obtain⟨b,off,hps,hbl,hcell⟩:=h.surfs.2.2 Zo;have f0:w.cell? ⟨b,off+s*22,none⟩=some (.int .i64 (a.S s).kind):=hcell s 0 s1 Zo;have hc:=λW (hW:Below w.heap.size w W)=>Zvy a ha q hchk s k W (h.below hW) s1 k1 hf;have eg:=Zok (a.S s).kind;have hlk:=hp.kind (ha.base.sok s s1).k1 (ha.base.sok s s1).k2;have hpc:=hp.cell;have hpl:=hp.lt;simp only[Lns.vvals]at hc ⊢;rw[hps]at hc ⊢;have s1':(s:Int)<a.ns:=Zo;have hp0:=hp.pos;clear hcell hf;generalize (a.S s).kind=kd at *;generalize (if kd=3 then 282 else if kd=4 then 283 else 281)=g at *;go_enter Tryz.func50,Tryz.ntmps50
 go_wp2_with fail
 refine Zeh λW hB hs bV bR=>?_;have cV:=bV.cell;have lV:=bV.lt;replace f0:=(hB.cell (p:=⟨b,off+s*22,none⟩) hbl).trans f0;have lb:=Yaf hbl hB.size;have nb:b≠w.heap.size+1:=Zo;have nV:w.heap.size≠w.heap.size+1:=Zo;have n0:0≠w.heap.size+1:=Zo;have l0:0<W.heap.size:=Zo;replace hpc:=(hB.cell (p:=⟨0,0,none⟩) hp0).trans hpc;have hlk':∀w',((∀b o,b<W.heap.size->b≠w.heap.size+1->w'.cell? ⟨b,o,none⟩=W.cell? ⟨b,o,none⟩)∧KeepBut (w.heap.size+1) W.heap.size W w')->(Instr.lookup 173 (.map (some m)) (.int .i64 kd) false).run Tryz.prog w'=.ok (.func (.func g) #[] #[]) w':=λw' hS=>
  hlk w' ((hS.2.block m Zo Zo).trans (hB.block m hpl))
 have hSt:=λ(w':World) (i:Nat) (u:Value)=>CB.set (R:=w.heap.size+1) (W:=W) w' i u;replace hSt:=Yah hSt;replace hlk':=Yah hlk';clear hlk;refine wp_region_held_drew (S:=λw'=>(∀b o,b<W.heap.size->b≠w.heap.size+1->w'.cell? ⟨b,o,none⟩=W.cell? ⟨b,o,none⟩)∧KeepBut (w.heap.size+1) W.heap.size W w') Zk (Zls (KeepBut.refl _ _).drew) (λhHeld=>?_);refine tk 0 (some 5) ?_;refine tk 1 (some 6) ?_;refine tk 2 (some 7) ?_;refine tk 3 (some 8) ?_;refine tk 4 (some 9) ?_;refine tk 5 (some 10) ?_;refine tk 6 (some 11) ?_;refine tk 7 (some 12) ?_;refine tk 8 (some 13) ?_;refine tl 9 (some 14) rfl (.func (.func g) #[] #[]) (Zlr 173 _ _ false rfl (.map (some m)) (.int .i64 kd) _ rfl rfl hlk'.out) ?_;refine tk 10 (some 15) ?_;refine tk 11 (some 16) ?_;refine Mono.st 12 ?_;intro K hK;go_simp
 (refine(hc _ ?_).mono ?_;(exact hHeld.2.below hB Zo hB.size);rintro e W2 ⟨C,rfl,R,hb⟩)
 refine kp hK (Zls (hHeld.2.call hb)) (λhHeld=>?_);clear hK K;obtain⟨C',hC',hC,h1⟩:=R.cells;cases hC';have hi:(Tryz.prog.info? 54).map (·.size)=some C.size:=by rw[hC];exact Zan
 have bR2:=bR.drew.below hb;refine Zi0 (w.heap.size+1) 54 13 rfl rfl rfl rfl 0 C _ C Zk hSt.out rfl rfl bR2 hHeld hi (Ybl (by rw[hC];rfl)) h1 (Zah (by rw[hC];rfl)) (λW3 hk3 b3 hHeld3=>?_);refine wpAnyH_done Zk ?_ _;go_wp2
 refine bodyPost_ret (b3.results rfl _ _ rfl Tryz.underlying54 rfl hi) rfl ?_;exact⟨C,rfl,R.ext (hk3.ext bR2 Zd),hHeld3.2.below hB Zo hB.size⟩
theorem Ztt {v1 v2:Value} {a b:Rat} (w:World) (h1:QtV 600 w v1 a) (h2:QtV 600 w v2 b) (hf:Fits (a+b)) :
  Calls Tryz.prog 97 #[v1,v2] w λe w'=>∃C,e=.returned (.tuple #[.agg C,.int .i64 0])∧QtV 600 w' (.agg C) (a+b)∧Below w.heap.size w w':=by
 have hr1:=λ(X:World) (hX:Ext w X)=>Zb1 X (h1.ext hX);have hr2:=λ(X:World) (hX:Ext w X)=>Zb1 X (h2.ext hX);have hc:=λ(X:World) (hX:Ext w X)=>Zts X (h1.ext hX) (h2.ext hX) Zd;obtain⟨s1,p1,n1,c1,t1,q1,m1,d1,rfl,x1,x2⟩:=h1;obtain⟨s2,p2,n2,c2,t2,q2,m2,d2,rfl,y1,y2⟩:=h2;clear x1 x2 y1 y2;go_enter Tryz.func97,Tryz.ntmps97
 go_wp2_with fail
 refine Zby λW hB hs b0 b1 bO=>?_;refine(hr1 W (.of_below hB)).mono ?_;rintro e W2 ⟨rfl,hb⟩;replace b0:=b0.below hb;replace b1:=b1.below hb;replace bO:=bO.below hb;replace hB:=Zaa hB hb;have cb0:=b0.cell;have lb0:=b0.lt;have fb0:=b0.frozen;have cb1:=b1.cell;have lb1:=b1.lt;have fb1:=b1.frozen;clear hb hr1 hs;go_wp2_with fail
 refine(hr2 W2 (.of_below hB)).mono ?_;rintro e W3 ⟨rfl,hb⟩;replace b0:=b0.below hb;replace b1:=b1.below hb;replace bO:=bO.below hb;replace hB:=Zaa hB hb;clear cb0 lb0 fb0 cb1 lb1 fb1;have cb0:=b0.cell;have lb0:=b0.lt;have fb0:=b0.frozen;have cb1:=b1.cell;have lb1:=b1.lt;have fb1:=b1.frozen;clear hb hr2;go_wp2_with fail
 refine(hc W3 (.of_below hB)).mono ?_;rintro e W4 ⟨V,rfl,hV,hb4⟩;replace bO:=bO.below hb4;replace hB:=Zaa hB hb4;go_wp2_with fail
 refine(Zg4 W4 (hV.tight hf.1 hf.2)).mono ?_;rintro e W5 ⟨rfl,hb9⟩;have h9:=(hV.tight hf.1 hf.2).below hb9;obtain⟨C,rfl,zC,oC⟩:=h9.cells;replace bO:=bO.below hb9;replace hB:=Zaa hB hb9;go_wp2_with first|(refine Zab rfl 54 (.tmp 4) (.tmp 19) rfl (w.heap.size+1+1) 0 54 _ C C rfl rfl bO (by rw[zC];exact Zan) (Ybl (by rw[zC];rfl)) oC (Zah (by rw[zC];rfl)) ?_;intro W6 hk b2)
 refine bodyPost_ret (b2.resultsT rfl _ _ rfl Tryz.underlying54 rfl (by rw[zC];exact Zan)) rfl ?_;exact⟨_,rfl,h9.ext (hk.ext bO Zd),hk.below hB Zo hB.size⟩
theorem Ztu {v1 v2:Value} {a b:Rat} (w:World) (h1:QtV 600 w v1 a) (h2:QtV 600 w v2 b) (hf:Fits (a*b)) :
  Calls Tryz.prog 100 #[v1,v2] w λe w'=>∃C,e=.returned (.tuple #[.agg C,.int .i64 0])∧QtV 600 w' (.agg C) (a*b)∧Below w.heap.size w w':=by
 have hr1:=λ(X:World) (hX:Ext w X)=>Zb1 X (h1.ext hX);have hr2:=λ(X:World) (hX:Ext w X)=>Zb1 X (h2.ext hX);have hc:=λ(X:World) (hX:Ext w X)=>Zre X (h1.ext hX) (h2.ext hX) Zd;obtain⟨s1,p1,n1,c1,t1,q1,m1,d1,rfl,x1,x2⟩:=h1;obtain⟨s2,p2,n2,c2,t2,q2,m2,d2,rfl,y1,y2⟩:=h2;clear x1 x2 y1 y2;go_enter Tryz.func100,Tryz.ntmps100
 go_wp2_with fail
 refine Zby λW hB hs b0 b1 bO=>?_;refine(hr1 W (.of_below hB)).mono ?_;rintro e W2 ⟨rfl,hb⟩;replace b0:=b0.below hb;replace b1:=b1.below hb;replace bO:=bO.below hb;replace hB:=Zaa hB hb;have cb0:=b0.cell;have lb0:=b0.lt;have fb0:=b0.frozen;have cb1:=b1.cell;have lb1:=b1.lt;have fb1:=b1.frozen;clear hb hr1 hs;go_wp2_with fail
 refine(hr2 W2 (.of_below hB)).mono ?_;rintro e W3 ⟨rfl,hb⟩;replace b0:=b0.below hb;replace b1:=b1.below hb;replace bO:=bO.below hb;replace hB:=Zaa hB hb;clear cb0 lb0 fb0 cb1 lb1 fb1;have cb0:=b0.cell;have lb0:=b0.lt;have fb0:=b0.frozen;have cb1:=b1.cell;have lb1:=b1.lt;have fb1:=b1.frozen;clear hb hr2;go_wp2_with fail
 refine(hc W3 (.of_below hB)).mono ?_;rintro e W4 ⟨V,rfl,hV,hb4⟩;replace bO:=bO.below hb4;replace hB:=Zaa hB hb4;go_wp2_with fail
 refine(Zg4 W4 (hV.tight hf.1 hf.2)).mono ?_;rintro e W5 ⟨rfl,hb9⟩;have h9:=(hV.tight hf.1 hf.2).below hb9;obtain⟨C,rfl,zC,oC⟩:=h9.cells;replace bO:=bO.below hb9;replace hB:=Zaa hB hb9;go_wp2_with first|(refine Zab rfl 54 (.tmp 4) (.tmp 19) rfl (w.heap.size+1+1) 0 54 _ C C rfl rfl bO (by rw[zC];exact Zan) (Ybl (by rw[zC];rfl)) oC (Zah (by rw[zC];rfl)) ?_;intro W6 hk b2)
 refine bodyPost_ret (b2.resultsT rfl _ _ rfl Tryz.underlying54 rfl (by rw[zC];exact Zan)) rfl ?_;exact⟨_,rfl,h9.ext (hk.ext bO Zd),hk.below hB Zo hB.size⟩
theorem Zxa (q:Rat) (p:Option Addr) (k c:Nat) (p':Option Addr) (k' c':Nat) (w:World) :
  Calls Tryz.prog 64 #[.agg #[.bool (decide (q.num<0)),.slice p k c,.bool false,.slice p' k' c'],.int .i64 0] w λe w'=>e=.returned (.agg #[.bool (decide (q.num<0)),.slice p k c,.bool false,.slice p' k' c'])∧Below w.heap.size w w':=
 Za1 _ rfl (by simp[Value.oneCell']) w
theorem Zv2 (a:Lns) (ha:a.opt) (q:Plc) (hchk:Chk a q) (s k:Nat) (w0:World) (h:OptAt w0 a q) (s1:s<a.ns) (k1:k<a.nw) (w:World) (hw0:Below w0.heap.size w0 w) (R:Nat) (hR0:w0.heap.size<=R) (y u:Rat) (hR:RayAt w R 104 y u)
  (g:Int) (g1:g=1∨g = -1) (hn:(a.nI k s).num≠0) (hf1:Fits (Rat.divInt (g*(a.S s).thick) 1000000*u)) (hf2:Fits ((Rat.divInt (g*(a.S s).thick) 1000000*u)/a.nI k s)) (hf3:Fits (y+((Rat.divInt (g*(a.S s).thick) 1000000*u)/a.nI k s))) :
  Calls Tryz.prog 48 #[.pointer (some ⟨R,0,none⟩),.agg (a.vvals q k),.int .i64 (s:Int),.int .i64 g] w λe w'=>e=.returned (.tuple #[])∧KeepBut R w.heap.size w w'∧RayAt w' R 104 (y+((Rat.divInt (g*(a.S s).thick) 1000000*u)/a.nI k s)) u:=by
 obtain⟨p1,k1x,c1,p1',k1',c1',p2,k2,c2,p2',k2',c2',bR,Ry,Ru⟩:=hR;obtain⟨b,off,hps,hbl,hcell⟩:=h.surfs.2.2 Zo;have ft:w0.cell? ⟨b,off+s*22+12,none⟩=some (.int .i64 (a.S s).thick):=hcell s 12 s1 Zo;have hth:=(ha.base.sok s s1).thick;have hgt : -1000000000<=g*(a.S s).thick∧g*(a.S s).thick<=1000000000:=by
  obtain⟨t1,t2⟩:=hth;rcases g1 with rfl|rfl<;>omega
 have hwr:IntKind.i64.wrap (g*(a.S s).thick)=g*(a.S s).thick:=by rw[Ybi];omega
 have hO:=λW=>Zez (g*(a.S s).thick) 1000000 Zd W Zo Zo Zd Zd;have hI:=λW (hW:Below w0.heap.size w0 W)=>Ziz a ha q hchk s k W (h.below hW) s1 k1;have hRw:=bR.lt;simp only[Lns.vvals]at hI ⊢;rw[hps]at hI ⊢;have s1':(s:Int)<a.ns:=Zo;clear hcell hth hgt g1;go_enter Tryz.func48,Tryz.ntmps48
 go_wp2_with fail
 refine Zbo λW hB hs bV=>?_;have bR0:=bR.below hB;have hw1:Below w0.heap.size w0 W:=hw0.trans (hB.mono hw0.size);replace ft:=(hw1.cell (p:=⟨b,off+s*22+12,none⟩) hbl).trans ft;have lb:=Yaf hbl hw1.size;have cR:=bR0.cell;have lR:=bR0.lt;have cV:=bV.cell;have lV:=bV.lt;replace Ry:=Ry.ext (.of_below hB);replace Ru:=Ru.ext (.of_below hB);clear bR;go_cut [8] (λs8 wx=>∃B8,s8=.pointer (some ⟨B8,0,none⟩)∧W.heap.size<=B8∧BoxQ wx B8 54 (Rat.divInt (g*(a.S s).thick) 1000000*u)∧Below W.heap.size W wx)
 case first=>
  go_region_held3 (λw'=>(∀b o,b<W.heap.size->w'.cell? ⟨b,o,none⟩=W.cell? ⟨b,o,none⟩)∧Below W.heap.size W w') ((refine Za3 ?_;first|exact(Yae _ _).drew|(repeat' (first|exact Yai ‹_› | exact Zaa (Yai ‹_›) ‹_› | exact Zad (Yai ‹_›) _|exact Zad ‹_› _|refine Zai ?_ Zo _ _)))) (first|(go_at_call 94;(with_reducible refine(hO _).mono ?_);rintro e W5 ⟨C5,rfl,R5,hb5⟩;have r5:=R5;obtain⟨p5,k5,c5,p5',k5',c5',hC5,z5,y5⟩:=r5;cases hC5;clear z5 y5;(have hzhb5:=Zaa (Yai ‹_›) hb5);(have hshb5:=hzhb5.size);(first|(replace bn:=bn.below hb5;clear cbn fbn lbn;have cbn:=bn.cell;have fbn:=bn.frozen;have lbn:=bn.lt)|(have bn:=(Box.new _ 54 _).below hb5;have cbn:=bn.cell;have fbn:=bn.frozen;have lbn:=bn.lt)|(have bn:=(Box.new _ 54 _).drew.below hb5;have cbn:=bn.cell;have fbn:=bn.frozen;have lbn:=bn.lt)|skip))|(go_at_call 29;(with_reducible refine(Zdp (Rat.divInt (g*(a.S s).thick) 1000000) u _ _ _ W5 (by first|exact Ext.refl _|exact(Ext.refl _).alloc _|exact((Ext.refl _).alloc _).drew) R5 (Ru.ext (.of_below hzhb5)) hf1).mono ?_);rintro e W6 ⟨C6,rfl,R6,hb6⟩;have r6:=R6;obtain⟨p6,k6,c6,p6',k6',c6',hC6,z6,y6⟩:=r6;subst hC6;clear z6 y6;(have hzhb6:=Zaa (Yai ‹_›) hb6);(have hshb6:=hzhb6.size);(first|(replace bn:=bn.below hb6;clear cbn fbn lbn;have cbn:=bn.cell;have fbn:=bn.frozen;have lbn:=bn.lt)|(have bn:=(Box.new _ 54 _).below hb6;have cbn:=bn.cell;have fbn:=bn.frozen;have lbn:=bn.lt)|(have bn:=(Box.new _ 54 _).drew.below hb6;have cbn:=bn.cell;have fbn:=bn.frozen;have lbn:=bn.lt)|skip))|(go_at_call 64;(with_reducible refine(Zxa (Rat.divInt (g*(a.S s).thick) 1000000*u) p6 k6 c6 p6' k6' c6' _).mono ?_);rintro e W7 ⟨rfl,hb7⟩;replace R6:=R6.ext (by first|exact .of_below hb7|exact((Ext.refl _).alloc _).below hb7|exact((Ext.refl _).alloc _).drew.below hb7);(have hzhb7:=Zaa (Yai ‹_›) hb7);(have hshb7:=hzhb7.size);(first|(replace bn:=bn.below hb7;clear cbn fbn lbn;have cbn:=bn.cell;have fbn:=bn.frozen;have lbn:=bn.lt)|(have bn:=(Box.new _ 54 _).below hb7;have cbn:=bn.cell;have fbn:=bn.frozen;have lbn:=bn.lt)|(have bn:=(Box.new _ 54 _).drew.below hb7;have cbn:=bn.cell;have fbn:=bn.frozen;have lbn:=bn.lt)|skip)))
  all_goals
   go_wp2_with fail
   go_meet
   exact⟨_,rfl,Zo,(by first|exact Zf9 R6|exact Zga Zd bn R6),Yai ‹_›⟩
 case rest=>
  obtain⟨B8,rfl,hB8,hq8,hb⟩:=hcut;obtain⟨p8,k8,c8,p8',k8',c8',b8,R8⟩:=hq8;have hw3:Below w0.heap.size w0 wc:=hw1.trans (hb.mono hw1.size);have hN0:=hw3.size;have hBc:=Zaa hB hb;replace bR0:=bR0.below hb;replace bV:=bV.below hb;replace Ry:=Ry.ext (.of_below hb);replace Ru:=Ru.ext (.of_below hb);have bR:=bR0;have cbR:=bR.cell;have fbR:=bR.frozen;have lbR:=bR.lt;have cV:=bV.cell;have lV:=bV.lt;have cB:=b8.cell;have lB:=b8.lt;have nV:w.heap.size≠R:=Zo;have nB:B8≠R:=Zo;have K0:=KeepBut.refl R wc;clear cR lR ft lb hb hB hw1;go_wp2_with fail
  clear bR cbR fbR lbR cV lV cB lB;have bR:=bR0.drew;have hvi:(Tryz.prog.info? 100).map (·.size)=some 11:=Zk;refine wp_region_held_drew (S:=λw'=>KeepBut R wc.heap.size wc w') Zk K0.drew (λhHeld=>?_);refine tk 0 (some 29) ?_;refine tk 1 (some 30) ?_;refine tk 2 (some 31) ?_;refine tk 3 (some 32) ?_;refine tk 4 (some 33) ?_;refine tk 8 (some 37) ?_;refine tl 6 (some 35) rfl (.agg #[.bool (decide ((Rat.divInt (g*(a.S s).thick) 1000000*u).num<0)),.slice p8 k8 c8,.bool false,.slice p8' k8' c8']) (Zaj 54 _ rfl B8 0 rfl #[.bool (decide ((Rat.divInt (g*(a.S s).thick) 1000000*u).num<0)),.slice p8 k8 c8,.bool false,.slice p8' k8' c8'] (λw' hS=>(hS.box b8 b8.lt nB).range) _ Tryz.underlying54 rfl Zan) ?_;refine tl 7 (some 36) rfl (.agg #[.string a.nm,.int .i64 a.di,.int .i64 a.pu,.int .i64 a.st,.int .i64 a.pr,.slice q.pf a.nf q.cf,.slice q.pw a.nw q.cw,.slice (some ⟨b,off,none⟩) a.ns q.cs,.slice q.pc 0 q.cc,.slice q.pi a.ns q.ci,.int .i64 (k:Int)]) (Zaj 100 _ rfl w.heap.size 0 rfl #[.string a.nm,.int .i64 a.di,.int .i64 a.pu,.int .i64 a.st,.int .i64 a.pr,.slice q.pf a.nf q.cf,.slice q.pw a.nw q.cw,.slice (some ⟨b,off,none⟩) a.ns q.cs,.slice q.pc 0 q.cc,.slice q.pi a.ns q.ci,.int .i64 (k:Int)] (λw' hS=>(hS.box bV bV.lt nV).range) _ Tryz.underlying100 rfl hvi) ?_;refine wpAnyH_ready (rs:=[5,9]) Zk Zs ?_;refine Yal rfl (λK hK=>?_) (Yal rfl (λK hK=>?_) Yas)
  ·rw[if_pos (by rfl)]
   refine wp_load_mid 54 _ rfl R 0 rfl [.bool (decide (y.num<0)),.slice p1 k1x c1,.bool false,.slice p1' k1' c1'] _ (Zgf bR) Tryz.underlying54 rfl Zan ?_;refine hK.out _ _ hHeld (λhHeld=>?_);clear hK K;try simp only[Act.put,Zsi,Zs0,Zss]
   refine wpAnyH_ready (rs:=[9]) Zk Zs ?_;refine Yal rfl (λK hK=>?_) Yas;go_simp
   refine(hI _ (KeepBut.below hHeld hw3 hR0 hN0)).mono ?_;rintro e W5 ⟨C5,rfl,R5,hb5⟩;refine hK.out _ _ (hHeld.call hb5) (λhHeld=>?_);clear hK K;replace bR:=bR.below hb5;try simp only[Act.put,Zsi,Zs0,Zss]
   refine wpAnyH_ready (rs:=[10]) Zk Zs ?_;refine Yal rfl (λK hK=>?_) Yas;go_simp
   refine(Zmo (Rat.divInt (g*(a.S s).thick) 1000000*u) (a.nI k s) _ _ W5 W5 (Ext.refl _) (R8.ext (KeepBut.ext hHeld bR0 Zd)) R5 hn hf2).mono ?_;rintro e W6 ⟨r6,rfl,R6,hb6⟩;refine hK.out _ _ (hHeld.call hb6) (λhHeld=>?_);clear hK K;replace bR:=bR.below hb6;replace R5:=R5.ext (.of_below hb6);try simp only[Act.put,Zsi,Zs0,Zss]
   obtain⟨C6,rfl,z6,o6⟩:=R6.cells;refine tk 11 (some 40) ?_;refine tk 12 (some 41) ?_;refine wpAnyH_ready (rs:=[13]) Zk Zs ?_;refine Yal rfl (λK hK=>?_) Yas;go_simp
   refine(Za1 C6 z6 o6 _).mono ?_;rintro e W7 ⟨rfl,hb7⟩;refine hK.out _ _ (hHeld.call hb7) (λhHeld=>?_);clear hK K;replace bR:=bR.below hb7;replace R5:=R5.ext (.of_below hb7);replace R6:=R6.ext (.of_below hb7);try simp only[Act.put,Zsi,Zs0,Zss]
   refine wpAnyH_ready (rs:=[14]) Zk Zs ?_;refine Yal rfl (λK hK=>?_) Yas;go_simp
   refine(Zjo y _ _ _ _ _ (Ext.refl _) (Ry.ext (KeepBut.ext hHeld bR0 Zd)) R6 hf3).mono ?_;rintro e W8 ⟨r18,rfl,R18,hb8⟩;refine hK.out _ _ (hHeld.call hb8) (λhHeld=>?_);clear hK K;replace bR:=bR.below hb8;replace R5:=R5.ext (.of_below hb8);replace R6:=R6.ext (.of_below hb8);try simp only[Act.put,Zsi,Zs0,Zss]
   obtain⟨p18,k18,c18,p18',k18',c18',hC18,z18,y18⟩:=id R18;cases hC18;clear z18 y18;refine tk 15 (some 44) ?_;refine tk 16 (some 45) ?_;refine wpAnyH_ready (rs:=[17]) Zk Zs ?_;refine Yal rfl (λK hK=>?_) Yas;go_simp
   refine(Za1 _ rfl (by simp[Value.oneCell']) _).mono ?_;rintro e W9 ⟨rfl,hb9⟩;refine hK.out _ _ (hHeld.call hb9) (λhHeld=>?_);clear hK K;replace bR:=bR.below hb9;replace R5:=R5.ext (.of_below hb9);replace R6:=R6.ext (.of_below hb9);replace R18:=R18.ext (.of_below hb9);try simp only[Act.put,Zsi,Zs0,Zss]
   have cRR:=bR.cell;have lRR:=bR.lt;have fRR:=bR.frozen;refine tk 18 (some 47) ?_;refine tk 19 (some 48) ?_;refine tk 20 (some 49) ?_;refine Mono.st 21 ?_;intro K hK;go_simp
   refine kp hK ((hHeld.set 0 _).set 1 _ |>.set 2 _ |>.set 3 _) (λhHeld=>?_);clear hK K;refine wpAnyH_done Zk ?_ _;go_wp2
   go_end0
   exact⟨rfl,KeepBut.of_below hBc hHeld,Zgg Zd bR R18 (Ru.ext (KeepBut.ext hHeld bR0 Zd))⟩
  ·go_simp
   refine(hI _ (KeepBut.below hHeld hw3 hR0 hN0)).mono ?_;rintro e W5 ⟨C5,rfl,R5,hb5⟩;refine hK.out _ _ (hHeld.call hb5) (λhHeld=>?_);clear hK K;replace bR:=bR.below hb5;try simp only[Act.put,Zsi,Zs0,Zss]
   refine wpAnyH_ready (rs:=[5,10]) Zk Zs ?_;refine Yal rfl (λK hK=>?_) (Yal rfl (λK hK=>?_) Yas)
   ·rw[if_pos (by rfl)]
    refine wp_load_mid 54 _ rfl R 0 rfl [.bool (decide (y.num<0)),.slice p1 k1x c1,.bool false,.slice p1' k1' c1'] _ (Zgf bR) Tryz.underlying54 rfl Zan ?_;refine hK.out _ _ hHeld (λhHeld=>?_);clear hK K;try simp only[Act.put,Zsi,Zs0,Zss]
    refine wpAnyH_ready (rs:=[10]) Zk Zs ?_;refine Yal rfl (λK hK=>?_) Yas;go_simp
    refine(Zmo (Rat.divInt (g*(a.S s).thick) 1000000*u) (a.nI k s) _ _ W5 W5 (Ext.refl _) (R8.ext (KeepBut.ext hHeld bR0 Zd)) R5 hn hf2).mono ?_;rintro e W6 ⟨r6,rfl,R6,hb6⟩;refine hK.out _ _ (hHeld.call hb6) (λhHeld=>?_);clear hK K;replace bR:=bR.below hb6;replace R5:=R5.ext (.of_below hb6);try simp only[Act.put,Zsi,Zs0,Zss]
    obtain⟨C6,rfl,z6,o6⟩:=R6.cells;refine tk 11 (some 40) ?_;refine tk 12 (some 41) ?_;refine wpAnyH_ready (rs:=[13]) Zk Zs ?_;refine Yal rfl (λK hK=>?_) Yas;go_simp
    refine(Za1 C6 z6 o6 _).mono ?_;rintro e W7 ⟨rfl,hb7⟩;refine hK.out _ _ (hHeld.call hb7) (λhHeld=>?_);clear hK K;replace bR:=bR.below hb7;replace R5:=R5.ext (.of_below hb7);replace R6:=R6.ext (.of_below hb7);try simp only[Act.put,Zsi,Zs0,Zss]
    refine wpAnyH_ready (rs:=[14]) Zk Zs ?_;refine Yal rfl (λK hK=>?_) Yas;go_simp
    refine(Zjo y _ _ _ _ _ (Ext.refl _) (Ry.ext (KeepBut.ext hHeld bR0 Zd)) R6 hf3).mono ?_;rintro e W8 ⟨r18,rfl,R18,hb8⟩;refine hK.out _ _ (hHeld.call hb8) (λhHeld=>?_);clear hK K;replace bR:=bR.below hb8;replace R5:=R5.ext (.of_below hb8);replace R6:=R6.ext (.of_below hb8);try simp only[Act.put,Zsi,Zs0,Zss]
    obtain⟨p18,k18,c18,p18',k18',c18',hC18,z18,y18⟩:=id R18;cases hC18;clear z18 y18;refine tk 15 (some 44) ?_;refine tk 16 (some 45) ?_;refine wpAnyH_ready (rs:=[17]) Zk Zs ?_;refine Yal rfl (λK hK=>?_) Yas;go_simp
    refine(Za1 _ rfl (by simp[Value.oneCell']) _).mono ?_;rintro e W9 ⟨rfl,hb9⟩;refine hK.out _ _ (hHeld.call hb9) (λhHeld=>?_);clear hK K;replace bR:=bR.below hb9;replace R5:=R5.ext (.of_below hb9);replace R6:=R6.ext (.of_below hb9);replace R18:=R18.ext (.of_below hb9);try simp only[Act.put,Zsi,Zs0,Zss]
    have cRR:=bR.cell;have lRR:=bR.lt;have fRR:=bR.frozen;refine tk 18 (some 47) ?_;refine tk 19 (some 48) ?_;refine tk 20 (some 49) ?_;refine Mono.st 21 ?_;intro K hK;go_simp
    refine kp hK ((hHeld.set 0 _).set 1 _ |>.set 2 _ |>.set 3 _) (λhHeld=>?_);clear hK K;refine wpAnyH_done Zk ?_ _;go_wp2
    go_end0
    exact⟨rfl,KeepBut.of_below hBc hHeld,Zgg Zd bR R18 (Ru.ext (KeepBut.ext hHeld bR0 Zd))⟩
   ·go_simp
    refine(Zmo (Rat.divInt (g*(a.S s).thick) 1000000*u) (a.nI k s) _ _ W5 W5 (Ext.refl _) (R8.ext (KeepBut.ext hHeld bR0 Zd)) R5 hn hf2).mono ?_;rintro e W6 ⟨r6,rfl,R6,hb6⟩;refine hK.out _ _ (hHeld.call hb6) (λhHeld=>?_);clear hK K;replace bR:=bR.below hb6;replace R5:=R5.ext (.of_below hb6);try simp only[Act.put,Zsi,Zs0,Zss]
    obtain⟨C6,rfl,z6,o6⟩:=R6.cells;refine tk 11 (some 40) ?_;refine tk 12 (some 41) ?_;refine wpAnyH_ready (rs:=[5,13]) Zk Zs ?_;refine Yal rfl (λK hK=>?_) (Yal rfl (λK hK=>?_) Yas)
    ·rw[if_pos (by rfl)]
     refine wp_load_mid 54 _ rfl R 0 rfl [.bool (decide (y.num<0)),.slice p1 k1x c1,.bool false,.slice p1' k1' c1'] _ (Zgf bR) Tryz.underlying54 rfl Zan ?_;refine hK.out _ _ hHeld (λhHeld=>?_);clear hK K;try simp only[Act.put,Zsi,Zs0,Zss]
     refine wpAnyH_ready (rs:=[13]) Zk Zs ?_;refine Yal rfl (λK hK=>?_) Yas;go_simp
     refine(Za1 C6 z6 o6 _).mono ?_;rintro e W7 ⟨rfl,hb7⟩;refine hK.out _ _ (hHeld.call hb7) (λhHeld=>?_);clear hK K;replace bR:=bR.below hb7;replace R5:=R5.ext (.of_below hb7);replace R6:=R6.ext (.of_below hb7);try simp only[Act.put,Zsi,Zs0,Zss]
     refine wpAnyH_ready (rs:=[14]) Zk Zs ?_;refine Yal rfl (λK hK=>?_) Yas;go_simp
     refine(Zjo y _ _ _ _ _ (Ext.refl _) (Ry.ext (KeepBut.ext hHeld bR0 Zd)) R6 hf3).mono ?_;rintro e W8 ⟨r18,rfl,R18,hb8⟩;refine hK.out _ _ (hHeld.call hb8) (λhHeld=>?_);clear hK K;replace bR:=bR.below hb8;replace R5:=R5.ext (.of_below hb8);replace R6:=R6.ext (.of_below hb8);try simp only[Act.put,Zsi,Zs0,Zss]
     obtain⟨p18,k18,c18,p18',k18',c18',hC18,z18,y18⟩:=id R18;cases hC18;clear z18 y18;refine tk 15 (some 44) ?_;refine tk 16 (some 45) ?_;refine wpAnyH_ready (rs:=[17]) Zk Zs ?_;refine Yal rfl (λK hK=>?_) Yas;go_simp
     refine(Za1 _ rfl (by simp[Value.oneCell']) _).mono ?_;rintro e W9 ⟨rfl,hb9⟩;refine hK.out _ _ (hHeld.call hb9) (λhHeld=>?_);clear hK K;replace bR:=bR.below hb9;replace R5:=R5.ext (.of_below hb9);replace R6:=R6.ext (.of_below hb9);replace R18:=R18.ext (.of_below hb9);try simp only[Act.put,Zsi,Zs0,Zss]
     have cRR:=bR.cell;have lRR:=bR.lt;have fRR:=bR.frozen;refine tk 18 (some 47) ?_;refine tk 19 (some 48) ?_;refine tk 20 (some 49) ?_;refine Mono.st 21 ?_;intro K hK;go_simp
     refine kp hK ((hHeld.set 0 _).set 1 _ |>.set 2 _ |>.set 3 _) (λhHeld=>?_);clear hK K;refine wpAnyH_done Zk ?_ _;go_wp2
     go_end0
     exact⟨rfl,KeepBut.of_below hBc hHeld,Zgg Zd bR R18 (Ru.ext (KeepBut.ext hHeld bR0 Zd))⟩
    ·go_simp
     refine(Za1 C6 z6 o6 _).mono ?_;rintro e W7 ⟨rfl,hb7⟩;refine hK.out _ _ (hHeld.call hb7) (λhHeld=>?_);clear hK K;replace bR:=bR.below hb7;replace R5:=R5.ext (.of_below hb7);replace R6:=R6.ext (.of_below hb7);try simp only[Act.put,Zsi,Zs0,Zss]
     refine wpAnyH_ready (rs:=[5]) Zk Zs ?_;refine Yal rfl (λK hK=>?_) Yas;rw[if_pos (by rfl)];refine wp_load_mid 54 _ rfl R 0 rfl [.bool (decide (y.num<0)),.slice p1 k1x c1,.bool false,.slice p1' k1' c1'] _ (Zgf bR) Tryz.underlying54 rfl Zan ?_;refine hK.out _ _ hHeld (λhHeld=>?_);clear hK K;try simp only[Act.put,Zsi,Zs0,Zss]
     refine wpAnyH_ready (rs:=[14]) Zk Zs ?_;refine Yal rfl (λK hK=>?_) Yas;go_simp
     refine(Zjo y _ _ _ _ _ (Ext.refl _) (Ry.ext (KeepBut.ext hHeld bR0 Zd)) R6 hf3).mono ?_;rintro e W8 ⟨r18,rfl,R18,hb8⟩;refine hK.out _ _ (hHeld.call hb8) (λhHeld=>?_);clear hK K;replace bR:=bR.below hb8;replace R5:=R5.ext (.of_below hb8);replace R6:=R6.ext (.of_below hb8);try simp only[Act.put,Zsi,Zs0,Zss]
     obtain⟨p18,k18,c18,p18',k18',c18',hC18,z18,y18⟩:=id R18;cases hC18;clear z18 y18;refine tk 15 (some 44) ?_;refine tk 16 (some 45) ?_;refine wpAnyH_ready (rs:=[17]) Zk Zs ?_;refine Yal rfl (λK hK=>?_) Yas;go_simp
     refine(Za1 _ rfl (by simp[Value.oneCell']) _).mono ?_;rintro e W9 ⟨rfl,hb9⟩;refine hK.out _ _ (hHeld.call hb9) (λhHeld=>?_);clear hK K;replace bR:=bR.below hb9;replace R5:=R5.ext (.of_below hb9);replace R6:=R6.ext (.of_below hb9);replace R18:=R18.ext (.of_below hb9);try simp only[Act.put,Zsi,Zs0,Zss]
     have cRR:=bR.cell;have lRR:=bR.lt;have fRR:=bR.frozen;refine tk 18 (some 47) ?_;refine tk 19 (some 48) ?_;refine tk 20 (some 49) ?_;refine Mono.st 21 ?_;intro K hK;go_simp
     refine kp hK ((hHeld.set 0 _).set 1 _ |>.set 2 _ |>.set 3 _) (λhHeld=>?_);clear hK K;refine wpAnyH_done Zk ?_ _;go_wp2
     go_end0
     exact⟨rfl,KeepBut.of_below hBc hHeld,Zgg Zd bR R18 (Ru.ext (KeepBut.ext hHeld bR0 Zd))⟩
theorem Zrg (R:Nat) (y u p:Rat) (P:Value) (g:Int) (g1 : -1<=g) (g2:g<=1) (w:World) (hR:RayAt w R 104 y u) (hP:QV w P p)
  (hf1:Fits (y*p)) (hf2:Fits (Rat.divInt g 1*(y*p))) (hf3:Fits (u-Rat.divInt g 1*(y*p))) :
  Calls Tryz.prog 49 #[.pointer (some ⟨R,0,none⟩),P,.int .i64 g] w λe w'=>e=.returned (.tuple #[])∧KeepBut R w.heap.size w w'∧RayAt w' R 104 y (u-Rat.divInt g 1*(y*p)):=by
 obtain⟨p1,k1,c1,p1',k1',c1',p2,k2,c2,p2',k2',c2',bR,Ry,Ru⟩:=hR;have hP':=hP;obtain⟨p3,k3,c3,p3',k3',c3',rfl,_,_⟩:=hP;have hO:=λW=>Zez g 1 Zd W Zo Zo Zd Zd;clear g1 g2;have hRw:=bR.lt;go_enter Tryz.func49,Tryz.ntmps49
 go_wp2_with fail
 refine Zbo λW hB hs bP=>?_;have bR0:=bR.below hB;have cR:=bR0.cell;have lR:=bR0.lt;have cP:=bP.cell;have lP:=bP.lt;have nP:w.heap.size≠R:=Zo;replace Ry:=Ry.ext (.of_below hB);replace Ru:=Ru.ext (.of_below hB);have Rp:=hP'.ext (.of_below hB);clear hP' bR;have bR:=bR0.drew;clear cR cP lP hRw;refine wp_region_held_drew (S:=λw'=>KR R W w') Zk (KR.refl R W).drew (λhHeld=>?_);refine tk 0 (some 6) ?_;refine tk 1 (some 7) ?_;refine tk 2 (some 8) ?_;refine tk 3 (some 9) ?_;refine tk 4 (some 10) ?_;refine tk 6 (some 12) ?_;refine tk 8 (some 14) ?_;refine tk 9 (some 15) ?_;refine tk 10 (some 16) ?_;refine tk 11 (some 17) ?_;refine tl 12 (some 18) rfl (.agg #[.bool (decide (y.num<0)),.slice p1 k1 c1,.bool false,.slice p1' k1' c1']) (Zaj 54 _ rfl R 0 rfl #[.bool (decide (y.num<0)),.slice p1 k1 c1,.bool false,.slice p1' k1' c1'] (λw hS=>Zrf hS bR0) _ Tryz.underlying54 rfl Zan) ?_;refine tl 13 (some 19) rfl (.agg #[.bool (decide (p.num<0)),.slice p3 k3 c3,.bool false,.slice p3' k3' c3']) (Zaj 54 _ rfl w.heap.size 0 rfl #[.bool (decide (p.num<0)),.slice p3 k3 c3,.bool false,.slice p3' k3' c3'] (λw' hS=>(hS.1.box bP bP.lt nP).range) _ Tryz.underlying54 rfl Zan) ?_;refine wpAnyH_ready (rs:=[5,7]) Zk Zs ?_;refine Yal rfl (λK hK=>?_) (Yal rfl (λK hK=>?_) Yas)
 ·rw[if_pos (by rfl)]
  refine wp_load_mid 54 _ rfl R 4 rfl [.bool (decide (u.num<0)),.slice p2 k2 c2,.bool false,.slice p2' k2' c2'] _ (Zd1 bR) Tryz.underlying54 rfl Zan ?_;refine hK.out _ _ hHeld (λhHeld=>?_);clear hK K;try simp only[Act.put,Zsi,Zs0,Zss]
  refine wpAnyH_ready (rs:=[7]) Zk Zs ?_;refine Yal rfl (λK hK=>?_) Yas;go_simp
  refine(hO _).mono ?_;rintro e W5 ⟨C5,rfl,R5,hb5⟩;refine hK.out _ _ (hHeld.call lR hb5) (λhHeld=>?_);clear hK K;replace bR:=bR.below hb5;try simp only[Act.put,Zsi,Zs0,Zss]
  refine wpAnyH_ready (rs:=[14]) Zk Zs ?_;refine Yal rfl (λK hK=>?_) Yas;go_simp
  refine(Zdp y p _ _ _ W (KR.ext hHeld bR0 Zd) Ry Rp hf1).mono ?_;rintro e W6 ⟨r6,rfl,R6,hb6⟩;refine hK.out _ _ (hHeld.call lR hb6) (λhHeld=>?_);clear hK K;replace bR:=bR.below hb6;replace R5:=R5.ext (.of_below hb6);try simp only[Act.put,Zsi,Zs0,Zss]
  obtain⟨C6,rfl,z6,o6⟩:=R6.cells;refine tk 15 (some 21) ?_;refine tk 16 (some 22) ?_;refine wpAnyH_ready (rs:=[17]) Zk Zs ?_;refine Yal rfl (λK hK=>?_) Yas;go_simp
  refine(Za1 C6 z6 o6 _).mono ?_;rintro e W7 ⟨rfl,hb7⟩;refine hK.out _ _ (hHeld.call lR hb7) (λhHeld=>?_);clear hK K;replace bR:=bR.below hb7;replace R5:=R5.ext (.of_below hb7);replace R6:=R6.ext (.of_below hb7);try simp only[Act.put,Zsi,Zs0,Zss]
  refine wpAnyH_ready (rs:=[18]) Zk Zs ?_;refine Yal rfl (λK hK=>?_) Yas;go_simp
  refine(Zdp (Rat.divInt g 1) (y*p) _ _ _ W7 (Ext.refl _) R5 R6 hf2).mono ?_;rintro e W8 ⟨r8,rfl,R8,hb8⟩;refine hK.out _ _ (hHeld.call lR hb8) (λhHeld=>?_);clear hK K;replace bR:=bR.below hb8;replace R5:=R5.ext (.of_below hb8);replace R6:=R6.ext (.of_below hb8);try simp only[Act.put,Zsi,Zs0,Zss]
  obtain⟨C8,rfl,z8,o8⟩:=R8.cells;refine tk 19 (some 25) ?_;refine tk 20 (some 26) ?_;refine wpAnyH_ready (rs:=[21]) Zk Zs ?_;refine Yal rfl (λK hK=>?_) Yas;go_simp
  refine(Za1 C8 z8 o8 _).mono ?_;rintro e W9 ⟨rfl,hb9⟩;refine hK.out _ _ (hHeld.call lR hb9) (λhHeld=>?_);clear hK K;replace bR:=bR.below hb9;replace R5:=R5.ext (.of_below hb9);replace R6:=R6.ext (.of_below hb9);replace R8:=R8.ext (.of_below hb9);try simp only[Act.put,Zsi,Zs0,Zss]
  refine wpAnyH_ready (rs:=[22]) Zk Zs ?_;refine Yal rfl (λK hK=>?_) Yas;go_simp
  refine(Zel u _ _ _ _ _ (Ext.refl _) (Ru.ext (KR.ext hHeld bR0 Zd)) R8 hf3).mono ?_;rintro e W10 ⟨r10,rfl,R10,hb10⟩;refine hK.out _ _ (hHeld.call lR hb10) (λhHeld=>?_);clear hK K;replace bR:=bR.below hb10;replace R5:=R5.ext (.of_below hb10);replace R6:=R6.ext (.of_below hb10);replace R8:=R8.ext (.of_below hb10);try simp only[Act.put,Zsi,Zs0,Zss]
  obtain⟨p10,k10,c10,p10',k10',c10',hC10,z10,y10⟩:=id R10;cases hC10;clear z10 y10;refine tk 23 (some 29) ?_;refine tk 24 (some 30) ?_;refine wpAnyH_ready (rs:=[25]) Zk Zs ?_;refine Yal rfl (λK hK=>?_) Yas;go_simp
  refine(Za1 _ rfl (by simp[Value.oneCell']) _).mono ?_;rintro e W11 ⟨rfl,hb11⟩;refine hK.out _ _ (hHeld.call lR hb11) (λhHeld=>?_);clear hK K;replace bR:=bR.below hb11;replace R5:=R5.ext (.of_below hb11);replace R6:=R6.ext (.of_below hb11);replace R8:=R8.ext (.of_below hb11);replace R10:=R10.ext (.of_below hb11);try simp only[Act.put,Zsi,Zs0,Zss]
  have cR:=bR.cell;have lRR:=bR.lt;have fR:=bR.frozen;refine tk 26 (some 32) ?_;refine tk 27 (some 33) ?_;refine tk 28 (some 34) ?_;refine Mono.st 29 ?_;intro K hK;go_simp
  refine kp hK ((hHeld.set 4 Zd _).set 5 Zd _ |>.set 6 Zd _ |>.set 7 Zd _) (λhHeld=>?_);clear hK K;refine wpAnyH_done Zk ?_ _;go_wp2
  go_end0
  exact⟨rfl,KeepBut.of_below hB hHeld.1,Zd2 Zd bR (Ry.ext (KR.ext hHeld bR0 Zd)) R10⟩
 ·go_simp
  refine(hO _).mono ?_;rintro e W5 ⟨C5,rfl,R5,hb5⟩;refine hK.out _ _ (hHeld.call lR hb5) (λhHeld=>?_);clear hK K;replace bR:=bR.below hb5;try simp only[Act.put,Zsi,Zs0,Zss]
  refine wpAnyH_ready (rs:=[5,14]) Zk Zs ?_;refine Yal rfl (λK hK=>?_) (Yal rfl (λK hK=>?_) Yas)
  ·rw[if_pos (by rfl)]
   refine wp_load_mid 54 _ rfl R 4 rfl [.bool (decide (u.num<0)),.slice p2 k2 c2,.bool false,.slice p2' k2' c2'] _ (Zd1 bR) Tryz.underlying54 rfl Zan ?_;refine hK.out _ _ hHeld (λhHeld=>?_);clear hK K;try simp only[Act.put,Zsi,Zs0,Zss]
   refine wpAnyH_ready (rs:=[14]) Zk Zs ?_;refine Yal rfl (λK hK=>?_) Yas;go_simp
   refine(Zdp y p _ _ _ W (KR.ext hHeld bR0 Zd) Ry Rp hf1).mono ?_;rintro e W6 ⟨r6,rfl,R6,hb6⟩;refine hK.out _ _ (hHeld.call lR hb6) (λhHeld=>?_);clear hK K;replace bR:=bR.below hb6;replace R5:=R5.ext (.of_below hb6);try simp only[Act.put,Zsi,Zs0,Zss]
   obtain⟨C6,rfl,z6,o6⟩:=R6.cells;refine tk 15 (some 21) ?_;refine tk 16 (some 22) ?_;refine wpAnyH_ready (rs:=[17]) Zk Zs ?_;refine Yal rfl (λK hK=>?_) Yas;go_simp
   refine(Za1 C6 z6 o6 _).mono ?_;rintro e W7 ⟨rfl,hb7⟩;refine hK.out _ _ (hHeld.call lR hb7) (λhHeld=>?_);clear hK K;replace bR:=bR.below hb7;replace R5:=R5.ext (.of_below hb7);replace R6:=R6.ext (.of_below hb7);try simp only[Act.put,Zsi,Zs0,Zss]
   refine wpAnyH_ready (rs:=[18]) Zk Zs ?_;refine Yal rfl (λK hK=>?_) Yas;go_simp
   refine(Zdp (Rat.divInt g 1) (y*p) _ _ _ W7 (Ext.refl _) R5 R6 hf2).mono ?_;rintro e W8 ⟨r8,rfl,R8,hb8⟩;refine hK.out _ _ (hHeld.call lR hb8) (λhHeld=>?_);clear hK K;replace bR:=bR.below hb8;replace R5:=R5.ext (.of_below hb8);replace R6:=R6.ext (.of_below hb8);try simp only[Act.put,Zsi,Zs0,Zss]
   obtain⟨C8,rfl,z8,o8⟩:=R8.cells;refine tk 19 (some 25) ?_;refine tk 20 (some 26) ?_;refine wpAnyH_ready (rs:=[21]) Zk Zs ?_;refine Yal rfl (λK hK=>?_) Yas;go_simp
   refine(Za1 C8 z8 o8 _).mono ?_;rintro e W9 ⟨rfl,hb9⟩;refine hK.out _ _ (hHeld.call lR hb9) (λhHeld=>?_);clear hK K;replace bR:=bR.below hb9;replace R5:=R5.ext (.of_below hb9);replace R6:=R6.ext (.of_below hb9);replace R8:=R8.ext (.of_below hb9);try simp only[Act.put,Zsi,Zs0,Zss]
   refine wpAnyH_ready (rs:=[22]) Zk Zs ?_;refine Yal rfl (λK hK=>?_) Yas;go_simp
   refine(Zel u _ _ _ _ _ (Ext.refl _) (Ru.ext (KR.ext hHeld bR0 Zd)) R8 hf3).mono ?_;rintro e W10 ⟨r10,rfl,R10,hb10⟩;refine hK.out _ _ (hHeld.call lR hb10) (λhHeld=>?_);clear hK K;replace bR:=bR.below hb10;replace R5:=R5.ext (.of_below hb10);replace R6:=R6.ext (.of_below hb10);replace R8:=R8.ext (.of_below hb10);try simp only[Act.put,Zsi,Zs0,Zss]
   obtain⟨p10,k10,c10,p10',k10',c10',hC10,z10,y10⟩:=id R10;cases hC10;clear z10 y10;refine tk 23 (some 29) ?_;refine tk 24 (some 30) ?_;refine wpAnyH_ready (rs:=[25]) Zk Zs ?_;refine Yal rfl (λK hK=>?_) Yas;go_simp
   refine(Za1 _ rfl (by simp[Value.oneCell']) _).mono ?_;rintro e W11 ⟨rfl,hb11⟩;refine hK.out _ _ (hHeld.call lR hb11) (λhHeld=>?_);clear hK K;replace bR:=bR.below hb11;replace R5:=R5.ext (.of_below hb11);replace R6:=R6.ext (.of_below hb11);replace R8:=R8.ext (.of_below hb11);replace R10:=R10.ext (.of_below hb11);try simp only[Act.put,Zsi,Zs0,Zss]
   have cR:=bR.cell;have lRR:=bR.lt;have fR:=bR.frozen;refine tk 26 (some 32) ?_;refine tk 27 (some 33) ?_;refine tk 28 (some 34) ?_;refine Mono.st 29 ?_;intro K hK;go_simp
   refine kp hK ((hHeld.set 4 Zd _).set 5 Zd _ |>.set 6 Zd _ |>.set 7 Zd _) (λhHeld=>?_);clear hK K;refine wpAnyH_done Zk ?_ _;go_wp2
   go_end0
   exact⟨rfl,KeepBut.of_below hB hHeld.1,Zd2 Zd bR (Ry.ext (KR.ext hHeld bR0 Zd)) R10⟩
  ·go_simp
   refine(Zdp y p _ _ _ W (KR.ext hHeld bR0 Zd) Ry Rp hf1).mono ?_;rintro e W6 ⟨r6,rfl,R6,hb6⟩;refine hK.out _ _ (hHeld.call lR hb6) (λhHeld=>?_);clear hK K;replace bR:=bR.below hb6;replace R5:=R5.ext (.of_below hb6);try simp only[Act.put,Zsi,Zs0,Zss]
   obtain⟨C6,rfl,z6,o6⟩:=R6.cells;refine tk 15 (some 21) ?_;refine tk 16 (some 22) ?_;refine wpAnyH_ready (rs:=[5,17]) Zk Zs ?_;refine Yal rfl (λK hK=>?_) (Yal rfl (λK hK=>?_) Yas)
   ·rw[if_pos (by rfl)]
    refine wp_load_mid 54 _ rfl R 4 rfl [.bool (decide (u.num<0)),.slice p2 k2 c2,.bool false,.slice p2' k2' c2'] _ (Zd1 bR) Tryz.underlying54 rfl Zan ?_;refine hK.out _ _ hHeld (λhHeld=>?_);clear hK K;try simp only[Act.put,Zsi,Zs0,Zss]
    refine wpAnyH_ready (rs:=[17]) Zk Zs ?_;refine Yal rfl (λK hK=>?_) Yas;go_simp
    refine(Za1 C6 z6 o6 _).mono ?_;rintro e W7 ⟨rfl,hb7⟩;refine hK.out _ _ (hHeld.call lR hb7) (λhHeld=>?_);clear hK K;replace bR:=bR.below hb7;replace R5:=R5.ext (.of_below hb7);replace R6:=R6.ext (.of_below hb7);try simp only[Act.put,Zsi,Zs0,Zss]
    refine wpAnyH_ready (rs:=[18]) Zk Zs ?_;refine Yal rfl (λK hK=>?_) Yas;go_simp
    refine(Zdp (Rat.divInt g 1) (y*p) _ _ _ W7 (Ext.refl _) R5 R6 hf2).mono ?_;rintro e W8 ⟨r8,rfl,R8,hb8⟩;refine hK.out _ _ (hHeld.call lR hb8) (λhHeld=>?_);clear hK K;replace bR:=bR.below hb8;replace R5:=R5.ext (.of_below hb8);replace R6:=R6.ext (.of_below hb8);try simp only[Act.put,Zsi,Zs0,Zss]
    obtain⟨C8,rfl,z8,o8⟩:=R8.cells;refine tk 19 (some 25) ?_;refine tk 20 (some 26) ?_;refine wpAnyH_ready (rs:=[21]) Zk Zs ?_;refine Yal rfl (λK hK=>?_) Yas;go_simp
    refine(Za1 C8 z8 o8 _).mono ?_;rintro e W9 ⟨rfl,hb9⟩;refine hK.out _ _ (hHeld.call lR hb9) (λhHeld=>?_);clear hK K;replace bR:=bR.below hb9;replace R5:=R5.ext (.of_below hb9);replace R6:=R6.ext (.of_below hb9);replace R8:=R8.ext (.of_below hb9);try simp only[Act.put,Zsi,Zs0,Zss]
    refine wpAnyH_ready (rs:=[22]) Zk Zs ?_;refine Yal rfl (λK hK=>?_) Yas;go_simp
    refine(Zel u _ _ _ _ _ (Ext.refl _) (Ru.ext (KR.ext hHeld bR0 Zd)) R8 hf3).mono ?_;rintro e W10 ⟨r10,rfl,R10,hb10⟩;refine hK.out _ _ (hHeld.call lR hb10) (λhHeld=>?_);clear hK K;replace bR:=bR.below hb10;replace R5:=R5.ext (.of_below hb10);replace R6:=R6.ext (.of_below hb10);replace R8:=R8.ext (.of_below hb10);try simp only[Act.put,Zsi,Zs0,Zss]
    obtain⟨p10,k10,c10,p10',k10',c10',hC10,z10,y10⟩:=id R10;cases hC10;clear z10 y10;refine tk 23 (some 29) ?_;refine tk 24 (some 30) ?_;refine wpAnyH_ready (rs:=[25]) Zk Zs ?_;refine Yal rfl (λK hK=>?_) Yas;go_simp
    refine(Za1 _ rfl (by simp[Value.oneCell']) _).mono ?_;rintro e W11 ⟨rfl,hb11⟩;refine hK.out _ _ (hHeld.call lR hb11) (λhHeld=>?_);clear hK K;replace bR:=bR.below hb11;replace R5:=R5.ext (.of_below hb11);replace R6:=R6.ext (.of_below hb11);replace R8:=R8.ext (.of_below hb11);replace R10:=R10.ext (.of_below hb11);try simp only[Act.put,Zsi,Zs0,Zss]
    have cR:=bR.cell;have lRR:=bR.lt;have fR:=bR.frozen;refine tk 26 (some 32) ?_;refine tk 27 (some 33) ?_;refine tk 28 (some 34) ?_;refine Mono.st 29 ?_;intro K hK;go_simp
    refine kp hK ((hHeld.set 4 Zd _).set 5 Zd _ |>.set 6 Zd _ |>.set 7 Zd _) (λhHeld=>?_);clear hK K;refine wpAnyH_done Zk ?_ _;go_wp2
    go_end0
    exact⟨rfl,KeepBut.of_below hB hHeld.1,Zd2 Zd bR (Ry.ext (KR.ext hHeld bR0 Zd)) R10⟩
   ·go_simp
    refine(Za1 C6 z6 o6 _).mono ?_;rintro e W7 ⟨rfl,hb7⟩;refine hK.out _ _ (hHeld.call lR hb7) (λhHeld=>?_);clear hK K;replace bR:=bR.below hb7;replace R5:=R5.ext (.of_below hb7);replace R6:=R6.ext (.of_below hb7);try simp only[Act.put,Zsi,Zs0,Zss]
    refine wpAnyH_ready (rs:=[5,18]) Zk Zs ?_;refine Yal rfl (λK hK=>?_) (Yal rfl (λK hK=>?_) Yas)
    ·rw[if_pos (by rfl)]
     refine wp_load_mid 54 _ rfl R 4 rfl [.bool (decide (u.num<0)),.slice p2 k2 c2,.bool false,.slice p2' k2' c2'] _ (Zd1 bR) Tryz.underlying54 rfl Zan ?_;refine hK.out _ _ hHeld (λhHeld=>?_);clear hK K;try simp only[Act.put,Zsi,Zs0,Zss]
     refine wpAnyH_ready (rs:=[18]) Zk Zs ?_;refine Yal rfl (λK hK=>?_) Yas;go_simp
     refine(Zdp (Rat.divInt g 1) (y*p) _ _ _ W7 (Ext.refl _) R5 R6 hf2).mono ?_;rintro e W8 ⟨r8,rfl,R8,hb8⟩;refine hK.out _ _ (hHeld.call lR hb8) (λhHeld=>?_);clear hK K;replace bR:=bR.below hb8;replace R5:=R5.ext (.of_below hb8);replace R6:=R6.ext (.of_below hb8);try simp only[Act.put,Zsi,Zs0,Zss]
     obtain⟨C8,rfl,z8,o8⟩:=R8.cells;refine tk 19 (some 25) ?_;refine tk 20 (some 26) ?_;refine wpAnyH_ready (rs:=[21]) Zk Zs ?_;refine Yal rfl (λK hK=>?_) Yas;go_simp
     refine(Za1 C8 z8 o8 _).mono ?_;rintro e W9 ⟨rfl,hb9⟩;refine hK.out _ _ (hHeld.call lR hb9) (λhHeld=>?_);clear hK K;replace bR:=bR.below hb9;replace R5:=R5.ext (.of_below hb9);replace R6:=R6.ext (.of_below hb9);replace R8:=R8.ext (.of_below hb9);try simp only[Act.put,Zsi,Zs0,Zss]
     refine wpAnyH_ready (rs:=[22]) Zk Zs ?_;refine Yal rfl (λK hK=>?_) Yas;go_simp
     refine(Zel u _ _ _ _ _ (Ext.refl _) (Ru.ext (KR.ext hHeld bR0 Zd)) R8 hf3).mono ?_;rintro e W10 ⟨r10,rfl,R10,hb10⟩;refine hK.out _ _ (hHeld.call lR hb10) (λhHeld=>?_);clear hK K;replace bR:=bR.below hb10;replace R5:=R5.ext (.of_below hb10);replace R6:=R6.ext (.of_below hb10);replace R8:=R8.ext (.of_below hb10);try simp only[Act.put,Zsi,Zs0,Zss]
     obtain⟨p10,k10,c10,p10',k10',c10',hC10,z10,y10⟩:=id R10;cases hC10;clear z10 y10;refine tk 23 (some 29) ?_;refine tk 24 (some 30) ?_;refine wpAnyH_ready (rs:=[25]) Zk Zs ?_;refine Yal rfl (λK hK=>?_) Yas;go_simp
     refine(Za1 _ rfl (by simp[Value.oneCell']) _).mono ?_;rintro e W11 ⟨rfl,hb11⟩;refine hK.out _ _ (hHeld.call lR hb11) (λhHeld=>?_);clear hK K;replace bR:=bR.below hb11;replace R5:=R5.ext (.of_below hb11);replace R6:=R6.ext (.of_below hb11);replace R8:=R8.ext (.of_below hb11);replace R10:=R10.ext (.of_below hb11);try simp only[Act.put,Zsi,Zs0,Zss]
     have cR:=bR.cell;have lRR:=bR.lt;have fR:=bR.frozen;refine tk 26 (some 32) ?_;refine tk 27 (some 33) ?_;refine tk 28 (some 34) ?_;refine Mono.st 29 ?_;intro K hK;go_simp
     refine kp hK ((hHeld.set 4 Zd _).set 5 Zd _ |>.set 6 Zd _ |>.set 7 Zd _) (λhHeld=>?_);clear hK K;refine wpAnyH_done Zk ?_ _;go_wp2
     go_end0
     exact⟨rfl,KeepBut.of_below hB hHeld.1,Zd2 Zd bR (Ry.ext (KR.ext hHeld bR0 Zd)) R10⟩
    ·go_simp
     refine(Zdp (Rat.divInt g 1) (y*p) _ _ _ W7 (Ext.refl _) R5 R6 hf2).mono ?_;rintro e W8 ⟨r8,rfl,R8,hb8⟩;refine hK.out _ _ (hHeld.call lR hb8) (λhHeld=>?_);clear hK K;replace bR:=bR.below hb8;replace R5:=R5.ext (.of_below hb8);replace R6:=R6.ext (.of_below hb8);try simp only[Act.put,Zsi,Zs0,Zss]
     obtain⟨C8,rfl,z8,o8⟩:=R8.cells;refine tk 19 (some 25) ?_;refine tk 20 (some 26) ?_;refine wpAnyH_ready (rs:=[5,21]) Zk Zs ?_;refine Yal rfl (λK hK=>?_) (Yal rfl (λK hK=>?_) Yas)
     ·rw[if_pos (by rfl)]
      refine wp_load_mid 54 _ rfl R 4 rfl [.bool (decide (u.num<0)),.slice p2 k2 c2,.bool false,.slice p2' k2' c2'] _ (Zd1 bR) Tryz.underlying54 rfl Zan ?_;refine hK.out _ _ hHeld (λhHeld=>?_);clear hK K;try simp only[Act.put,Zsi,Zs0,Zss]
      refine wpAnyH_ready (rs:=[21]) Zk Zs ?_;refine Yal rfl (λK hK=>?_) Yas;go_simp
      refine(Za1 C8 z8 o8 _).mono ?_;rintro e W9 ⟨rfl,hb9⟩;refine hK.out _ _ (hHeld.call lR hb9) (λhHeld=>?_);clear hK K;replace bR:=bR.below hb9;replace R5:=R5.ext (.of_below hb9);replace R6:=R6.ext (.of_below hb9);replace R8:=R8.ext (.of_below hb9);try simp only[Act.put,Zsi,Zs0,Zss]
      refine wpAnyH_ready (rs:=[22]) Zk Zs ?_;refine Yal rfl (λK hK=>?_) Yas;go_simp
      refine(Zel u _ _ _ _ _ (Ext.refl _) (Ru.ext (KR.ext hHeld bR0 Zd)) R8 hf3).mono ?_;rintro e W10 ⟨r10,rfl,R10,hb10⟩;refine hK.out _ _ (hHeld.call lR hb10) (λhHeld=>?_);clear hK K;replace bR:=bR.below hb10;replace R5:=R5.ext (.of_below hb10);replace R6:=R6.ext (.of_below hb10);replace R8:=R8.ext (.of_below hb10);try simp only[Act.put,Zsi,Zs0,Zss]
      obtain⟨p10,k10,c10,p10',k10',c10',hC10,z10,y10⟩:=id R10;cases hC10;clear z10 y10;refine tk 23 (some 29) ?_;refine tk 24 (some 30) ?_;refine wpAnyH_ready (rs:=[25]) Zk Zs ?_;refine Yal rfl (λK hK=>?_) Yas;go_simp
      refine(Za1 _ rfl (by simp[Value.oneCell']) _).mono ?_;rintro e W11 ⟨rfl,hb11⟩;refine hK.out _ _ (hHeld.call lR hb11) (λhHeld=>?_);clear hK K;replace bR:=bR.below hb11;replace R5:=R5.ext (.of_below hb11);replace R6:=R6.ext (.of_below hb11);replace R8:=R8.ext (.of_below hb11);replace R10:=R10.ext (.of_below hb11);try simp only[Act.put,Zsi,Zs0,Zss]
      have cR:=bR.cell;have lRR:=bR.lt;have fR:=bR.frozen;refine tk 26 (some 32) ?_;refine tk 27 (some 33) ?_;refine tk 28 (some 34) ?_;refine Mono.st 29 ?_;intro K hK;go_simp
      refine kp hK ((hHeld.set 4 Zd _).set 5 Zd _ |>.set 6 Zd _ |>.set 7 Zd _) (λhHeld=>?_);clear hK K;refine wpAnyH_done Zk ?_ _;go_wp2
      go_end0
      exact⟨rfl,KeepBut.of_below hB hHeld.1,Zd2 Zd bR (Ry.ext (KR.ext hHeld bR0 Zd)) R10⟩
     ·go_simp
      refine(Za1 C8 z8 o8 _).mono ?_;rintro e W9 ⟨rfl,hb9⟩;refine hK.out _ _ (hHeld.call lR hb9) (λhHeld=>?_);clear hK K;replace bR:=bR.below hb9;replace R5:=R5.ext (.of_below hb9);replace R6:=R6.ext (.of_below hb9);replace R8:=R8.ext (.of_below hb9);try simp only[Act.put,Zsi,Zs0,Zss]
      refine wpAnyH_ready (rs:=[5]) Zk Zs ?_;refine Yal rfl (λK hK=>?_) Yas;rw[if_pos (by rfl)];refine wp_load_mid 54 _ rfl R 4 rfl [.bool (decide (u.num<0)),.slice p2 k2 c2,.bool false,.slice p2' k2' c2'] _ (Zd1 bR) Tryz.underlying54 rfl Zan ?_;refine hK.out _ _ hHeld (λhHeld=>?_);clear hK K;try simp only[Act.put,Zsi,Zs0,Zss]
      refine wpAnyH_ready (rs:=[22]) Zk Zs ?_;refine Yal rfl (λK hK=>?_) Yas;go_simp
      refine(Zel u _ _ _ _ _ (Ext.refl _) (Ru.ext (KR.ext hHeld bR0 Zd)) R8 hf3).mono ?_;rintro e W10 ⟨r10,rfl,R10,hb10⟩;refine hK.out _ _ (hHeld.call lR hb10) (λhHeld=>?_);clear hK K;replace bR:=bR.below hb10;replace R5:=R5.ext (.of_below hb10);replace R6:=R6.ext (.of_below hb10);replace R8:=R8.ext (.of_below hb10);try simp only[Act.put,Zsi,Zs0,Zss]
      obtain⟨p10,k10,c10,p10',k10',c10',hC10,z10,y10⟩:=id R10;cases hC10;clear z10 y10;refine tk 23 (some 29) ?_;refine tk 24 (some 30) ?_;refine wpAnyH_ready (rs:=[25]) Zk Zs ?_;refine Yal rfl (λK hK=>?_) Yas;go_simp
      refine(Za1 _ rfl (by simp[Value.oneCell']) _).mono ?_;rintro e W11 ⟨rfl,hb11⟩;refine hK.out _ _ (hHeld.call lR hb11) (λhHeld=>?_);clear hK K;replace bR:=bR.below hb11;replace R5:=R5.ext (.of_below hb11);replace R6:=R6.ext (.of_below hb11);replace R8:=R8.ext (.of_below hb11);replace R10:=R10.ext (.of_below hb11);try simp only[Act.put,Zsi,Zs0,Zss]
      have cR:=bR.cell;have lRR:=bR.lt;have fR:=bR.frozen;refine tk 26 (some 32) ?_;refine tk 27 (some 33) ?_;refine tk 28 (some 34) ?_;refine Mono.st 29 ?_;intro K hK;go_simp
      refine kp hK ((hHeld.set 4 Zd _).set 5 Zd _ |>.set 6 Zd _ |>.set 7 Zd _) (λhHeld=>?_);clear hK K;refine wpAnyH_done Zk ?_ _;go_wp2
      go_end0
      exact⟨rfl,KeepBut.of_below hB hHeld.1,Zd2 Zd bR (Ry.ext (KR.ext hHeld bR0 Zd)) R10⟩
end Go.Proofs.W
namespace Go.Mono
open Go.RowKit
theorem Box.third (w:World) (c0 c1 c2:Array Value) (T0 T1 T2:TypeId):Box (((w.alloc (.cells c0 T0)).alloc (.cells c1 T1)).alloc (.cells c2 T2)) (w.heap.size+1+1) T2 c2:=by
 have:=Box.new ((w.alloc (.cells c0 T0)).alloc (.cells c1 T1)) T2 c2;simpa only[Yav]using this
theorem Box.second (w:World) (c0 c1 c2:Array Value) (T0 T1 T2:TypeId):Box (((w.alloc (.cells c0 T0)).alloc (.cells c1 T1)).alloc (.cells c2 T2)) (w.heap.size+1) T1 c1:=by
 have:=(Box.new (w.alloc (.cells c0 T0)) T1 c1).alloc (.cells c2 T2);simpa only[Yav]using this
end Go.Mono
namespace Go.Proofs.W
open Go.RowKit Go.Mono
theorem Zkm (n:Nat) (p:Option Addr) (c:Nat) (C:Nat->Array Value) (f:Nat->Rat) (w:World) (hr:RdC w p n c 4 (λi j=>(C i).getD j undef)) (hC:∀i,(C i).size=4) (hq:∀i,i<n->QV w (.agg (C i)) (f i)) :
  Calls Tryz.prog 46 #[.slice p n c] w λe w'=>e=.returned (.tuple #[])∧Below w.heap.size w w':=by
 obtain⟨hc1,hn1,hx⟩:=hr;go_enter Tryz.func46,Tryz.ntmps46
 go_wp2
 go_loopw [7] (λx wr=>∃k:Nat,k<=n∧x=.int .i64 (k:Int)∧Below w.heap.size w wr) (λx _=>(n-intOf x).toNat)
 case atStart=>exact⟨0,Yat _,rfl,Yae _ _⟩
 case round=>
  obtain⟨k,hk,rfl,hBr⟩:=hrel;by_cases hkn:k<n
  ·obtain⟨b,off,rfl,hbl,hcell⟩:=hx Zo
   have hcel:=hcell k;have gz:=hC k;have Rk:=hq k hkn;obtain⟨C',hC',_,g1⟩:=Rk.cells;rw[Value.agg.injEq]at hC';rw[<-hC']at g1;have hsz:(Tryz.prog.info? 54).map (·.size)=some (C k).size:=by rw[gz];exact Zan
   have hsl:(Tryz.prog.info? 54).map (·.size)=some (C k).toList.length:=by rw[Yaz,gz];exact Zan
   have hrange:wr.rangeAt b (off+k*4) (C k).toList:=λj v hv=>by
    have hj:j<4:=by
     have:=(Yan.1 hv).1;simpa[gz]using this
    refine((hBr.cell (p:=⟨b,off+k*4+j,none⟩) hbl).trans (hcel j hkn hj)).trans ?_;rw[Yaq]at hv;rw[Yax,hv];rfl
   have hkn':(k:Int)<n:=Zo;clear hcell hcel hx hC hq hC';generalize C k=A at *;generalize f k=fk at *;go_wp2_with first|(refine wpList_load_mid rfl 54 _ rfl b (off+k*4) rfl A.toList _ hrange Tryz.underlying54 rfl hsl ?_)|(refine Zaq rfl 54 rfl _ Zoj ?_;intro W1 B1 hle hB1 b1)|(refine Zab rfl 54 (.tmp 3) (.tmp 10) rfl B1 0 54 _ A A rfl rfl b1 hsz (Ybl (by rw[gz];rfl)) g1 (Zah (by rw[gz];rfl)) ?_;intro W2 hk2 b2;have hBW2:Below wr.heap.size wr W2:=hk2.below hB1 hle hB1.size)|(refine Zac rfl 54 (.tmp 3) rfl B1 rfl 54 A b2 _ Tryz.underlying54 rfl hsz ?_)|(go_at_call 92;refine(Zek (.agg A) fk W2 w (Ext.of_below (Zaa hBr hBW2)) Rk).mono ?_;rintro e W3 ⟨rfl,hb3⟩)
   go_roundw
   case rel=>exact⟨k+1,Zo,Zs,Zaa (Zaa hBr hBW2) hb3⟩
   case measure=>simp[intOf];omega
  ·obtain rfl:k=n:=by omega
   clear hx;go_wp2
   go_end0
   exact⟨rfl,hBr⟩
theorem Zv3 (a:Lns) (q:Plc) (hchk:Chk a q) (k:Nat) (w:World) (h:OptAt w a q) (k1:k<a.nw) :
  Calls Tryz.prog 45 #[.agg (a.ovals q),.int .i64 (k:Int)] w λe w'=>e=.returned (.agg (a.vvals q k))∧Below w.heap.size w w':=by
 have hc:=λW (hW:Below w.heap.size w W)=>hchk W (h.below hW);have hi:(Tryz.prog.info? 100).map (·.size)=some 11:=Zk;have k1':(k:Int)<a.nw:=Zo;simp only[Lns.ovals,Lns.vvals]at hc ⊢;clear h hchk;go_enter Tryz.func45,Tryz.ntmps45
 go_wp2_with fail
 refine Zbi λW hB hs bO bR=>?_;refine(hc W hB).mono ?_;rintro e W1 ⟨rfl,hb⟩;replace hB:=Zaa hB hb;replace bO:=bO.below hb;replace bR:=bR.below hb;have cO:=bO.cell;have lO:=bO.lt;go_wp2_with (refine Zab rfl 100 (.tmp 4) (.tmp 27) rfl (w.heap.size+1) 0 100 _ #[.string a.nm,.int .i64 a.di,.int .i64 a.pu,.int .i64 a.st,.int .i64 a.pr,.slice q.pf a.nf q.cf,.slice q.pw a.nw q.cw,.slice q.ps a.ns q.cs,.slice q.pc 0 q.cc,.slice q.pi a.ns q.ci,.int .i64 (k:Int)] #[.string a.nm,.int .i64 a.di,.int .i64 a.pu,.int .i64 a.st,.int .i64 a.pr,.slice q.pf a.nf q.cf,.slice q.pw a.nw q.cw,.slice q.ps a.ns q.cs,.slice q.pc 0 q.cc,.slice q.pi a.ns q.ci,.int .i64 (k:Int)] rfl rfl bR hi (Yaa rfl) (by simp[Value.oneCell']) rfl ?_;intro W4 hk4 b4)
 refine bodyPost_ret (b4.results rfl _ _ rfl Tryz.underlying100 rfl hi) rfl ?_;exact⟨rfl,hk4.below hB Zo hB.size⟩
theorem Ztw (a:Lns) (q:Plc) (k:Nat) (back:Bool) (w:World) :
  Calls Tryz.prog 47 #[.agg (a.vvals q k),.bool back] w λe w'=>∃Bn Bb,e=.returned (.func (.func 93) #[] #[.pointer (some ⟨Bn,0,none⟩),.pointer (some ⟨Bb,0,none⟩)])∧w.heap.size<=Bn∧w.heap.size<=Bb∧Box w' Bn 3 #[.int .i64 (a.ns:Int)]∧Box w' Bb 4 #[.bool back]∧Below w.heap.size w w':=by
 have hmf:∀(fn:Fn) (first cap:Array Value) (w:World),(Instr.makeFunc fn first cap).run Tryz.prog w=.ok (.func fn first cap) w:=λ_ _ _ _=>rfl;simp only[Lns.vvals];go_enter Tryz.func47,Tryz.ntmps47
 go_wp2
 go_ret
 exact⟨_,_,rfl,Zo,Zo,Box.third _ _ _ _ _ _ _,Box.second _ _ _ _ _ _ _,(((Yae _ _).alloc (Yab _) _).alloc Zs _).alloc (by simp;omega) _⟩
end Go.Proofs.W
