/- Contracts of package paraxial,and a verified evaluator. Part 24 of 28. No condition beside the row. -/
import Derived.Outline
import Derived.Test.YtfgmlkjibdegfaaGreatDoorA02
import Derived.Test.YtfgmlkjibdegfaaGreatDoorA05
import Derived.Test.YtfgmlkjibdegfaaGreatDoorA06
import Derived.Test.YtfgmlkjibdegfaaGreatDoorA14
import Derived.Test.YtfgmlkjibdegfaaGreatDoorA16
import Derived.Test.YtfgmlkjibdegfaaGreatDoorA19
import Derived.Test.YtfgmlkjibdegfaaGreatDoorA23
set_option linter.unusedVariables false
set_option linter.unusedSimpArgs false
set_option maxRecDepth 100000
set_option maxHeartbeats 4000000
namespace Go.Mono
open Go.RowKit
section
section
variable {P:Program} {o:Oper} {a:Act} {w:World} {K:Act->World->Prop} {Q:Exit->Act->World->Prop}
end
section
variable {P:Program} {ops:Array Oper} {Q:Exit->Act->World->Prop} {md:Region.Mode} {S:World->Prop}
theorem Zdi (B:Nat) (T:TypeId) (i:Nat) {o:Oper} (hi:ops[i]? = some o) (hg:o.guard=none) (hd:o.dst=none) {ty:TypeId} {x y:Operand} (ho:o.op=.store ty x y) (off:Nat) (cells cs new:Array Value) {a:Act} {fuel:Nat} {listed:Array Bool} {w:World}
  (hr:Region.ready md ops listed=[i]) (hS:∀w i u,S w->S (w.setCell ⟨B,i,none⟩ u)) (hx:a.eval x=.pointer (some ⟨B,off,none⟩)) (hy:a.eval y=.agg cells)
  (hb:Box w B T cs) (hs:S w) (hi2:(P.info? ty).map (·.size)=some cells.size) (hoff:off+cells.size<=cs.size) (h1:cells.all (·.oneCell')=true)
  (hn:cs.toList.take off++cells.toList++cs.toList.drop (off+cells.size)=new.toList)
  (h:∀w',KeepBut B w.heap.size w w'->Box w' B T new->S w'->wpAnyH P md ops Q S fuel (listed.setIfInBounds i true) a w'):wpAnyH P md ops Q S (fuel+1) listed a w:=by
 refine wpAnyH_all hr Zs λj hj=>?_;obtain rfl:j=i:=by simpa using hj
 unfold wpOp;rw[hi];have hw:Region.wanted o (yielded ops a.tmps)=true:=by simp[Region.wanted,hg]
 simp only[hw,if_true];left
 have hb2:=Box.setCells cells.toList off w cs hb (by simpa using hoff);have hb3:Box (w.setCells B off cells.toList) B T new:=by simpa[hn]using hb2
 have hs2:=Zbr hS cells.toList off w hs;refine wp_store_mid ty x y ho B off cells hx hy (hb.there off cells.size hoff) hi2 h1 ?_;rw[hd];exact⟨hs2,h _ ((KeepBut.refl _ _).setCells _ _ _) hb3 hs2⟩
end
end
section
section
variable {P:Program} {ops:Array Oper} {rest:List Oper} {a:Act} {w:World} {Q:Exit->Act->World->Prop} {T0 T1 T2 T3:TypeId} {c0 c1 c2 c3:Array Value}
end
end
theorem QV.four {w:World} {C:Array Value} {q:Rat} (h:QV w (.agg C) q):∃x0 x1 x2 x3:Value,C = #[x0,x1,x2,x3]∧x0.oneCell'=true∧x1.oneCell'=true∧x2.oneCell'=true∧x3.oneCell'=true:=by
 obtain⟨p,k,c,p',k',c',e,_,_⟩:=h;cases e;exact⟨_,_,_,_,rfl,rfl,rfl,rfl,rfl⟩
theorem Zcs {P:Program} {S:World->Prop} {oi:Oper} {a:Act} (t:TypeId) (parts:Array (Nat×Operand)) (ho:oi.op=.build t parts) (cells:Array Value)
  (hc:P.built t (parts.map λ(i,x)=>(i,a.eval x)).toList=some cells):∀w,S w->(execOp a.eval oi).run P w=.ok (.value (.agg cells)) w:=λw _=>by
 unfold execOp;have:=run_build w t (parts.map λ(i,x)=>(i,a.eval x)) cells hc;simp only[ho,Yar];first
  | (simp only[this,Yag,Yau];done)
  | (simp[this,Yag,Yau])
structure MV (w:World) (C:Array Value) (m:Mat):Prop where
 parts:∃a0 a1 a2 a3 b0 b1 b2 b3 c0 c1 c2 c3 d0 d1 d2 d3:Value,C = #[a0,a1,a2,a3,b0,b1,b2,b3,c0,c1,c2,c3,d0,d1,d2,d3]∧
  QV w (.agg #[a0,a1,a2,a3]) m.a∧QV w (.agg #[b0,b1,b2,b3]) m.b∧QV w (.agg #[c0,c1,c2,c3]) m.c∧QV w (.agg #[d0,d1,d2,d3]) m.d
theorem MV.ext {w w':World} {C:Array Value} {m:Mat} (h:MV w C m) (hx:Ext w w'):MV w' C m:=by
 obtain⟨a0,a1,a2,a3,b0,b1,b2,b3,c0,c1,c2,c3,d0,d1,d2,d3,rfl,h1,h2,h3,h4⟩:=h.parts;exact⟨⟨_,_,_,_,_,_,_,_,_,_,_,_,_,_,_,_,rfl,h1.ext hx,h2.ext hx,h3.ext hx,h4.ext hx⟩⟩
theorem MV.size {w:World} {C:Array Value} {m:Mat} (h:MV w C m):C.size=16:=by
 obtain⟨a0,a1,a2,a3,b0,b1,b2,b3,c0,c1,c2,c3,d0,d1,d2,d3,rfl,h1,h2,h3,h4⟩:=h.parts;rfl
theorem QV.ones {w:World} {x0 x1 x2 x3:Value} {q:Rat} (h:QV w (.agg #[x0,x1,x2,x3]) q):x0.oneCell'=true∧x1.oneCell'=true∧x2.oneCell'=true∧x3.oneCell'=true:=by
 obtain⟨y0,y1,y2,y3,e,h0,h1,h2,h3⟩:=h.four;cases e;exact⟨h0,h1,h2,h3⟩
theorem MV.ones {w:World} {C:Array Value} {m:Mat} (h:MV w C m):C.all (·.oneCell')=true:=by
 obtain⟨a0,a1,a2,a3,b0,b1,b2,b3,c0,c1,c2,c3,d0,d1,d2,d3,rfl,h1,h2,h3,h4⟩:=h.parts;obtain⟨x0,x1,x2,x3⟩:=h1.ones;obtain⟨y0,y1,y2,y3⟩:=h2.ones;obtain⟨z0,z1,z2,z3⟩:=h3.ones;obtain⟨u0,u1,u2,u3⟩:=h4.ones;simp[*]
theorem Zw9 (k:Nat):pw k=((10 ^ (9*k):Nat):Int):=by
 induction k with
 | zero=>rfl
 | succ k ih =>
   rw[Za8,ih,show 9*(k+1)=9*k+9 from Zo,Ydn,Ycw];rfl
theorem Hs.fits_of {k n:Nat} {x:Rat} (h:Hs k x) (hn:n=9*600) (hk:k<n):(x.num.natAbs:Int)<pw 600∧(x.den:Int)<pw 600:=by
 have e:pw 600=((10 ^ n:Nat):Int):=by rw[hn];exact Zw9 600
 have hlt:10 ^ k<10 ^ n:=Nat.pow_lt_pow_right Zd hk;rw[e];exact⟨Int.ofNat_lt.2 (Nat.lt_of_le_of_lt h.1 hlt),Int.ofNat_lt.2 (Nat.lt_of_le_of_lt h.2 hlt)⟩
theorem Hs.fits {k:Nat} {x:Rat} (h:Hs k x) (hk:k<=5399):Fits x:=by
 obtain⟨n,hn⟩:∃n,n=9*600:=⟨_,rfl⟩
 exact h.fits_of hn Zo
theorem Box.part {w:World} {B:Nat} {T:TypeId} {cs:Array Value} (b:Box w B T cs) (off:Nat) (part:Array Value) (h:(cs.toList.drop off).take part.size=part.toList):w.rangeAt B off part.toList:=λj v hv=>by
 rw[b.cell,<-Yaq];rw[<-h,Ycv]at hv;split at hv
 ·rw[Yeh]at hv
  exact hv
 ·cases hv
def qc (q:Rat) (p:Option Addr) (k c:Nat) (p':Option Addr) (k' c':Nat):Array Value:=#[.bool (decide (q.num<0)),.slice p k c,.bool false,.slice p' k' c']
def BoxQ (w:World) (B:Nat) (T:TypeId) (q:Rat):Prop:=∃p k c p' k' c',Box w B T #[.bool (decide (q.num<0)),.slice p k c,.bool false,.slice p' k' c']∧QV w (.agg #[.bool (decide (q.num<0)),.slice p k c,.bool false,.slice p' k' c']) q
theorem BoxQ.below {w w':World} {B:Nat} {T:TypeId} {q:Rat} (h:BoxQ w B T q) (hB:Below w.heap.size w w'):BoxQ w' B T q:=by
 obtain⟨p,k,c,p',k',c',b,r⟩:=h;exact⟨p,k,c,p',k',c',b.below hB,r.ext (.of_below hB)⟩
theorem Zf9 {w:World} {T:TypeId} {q:Rat} {p:Option Addr} {k c:Nat} {p':Option Addr} {k' c':Nat} (r:QV w (.agg #[.bool (decide (q.num<0)),.slice p k c,.bool false,.slice p' k' c']) q) :
  BoxQ (w.alloc (.cells #[.bool (decide (q.num<0)),.slice p k c,.bool false,.slice p' k' c'] T)) w.heap.size T q:=
 ⟨p,k,c,p',k',c',Box.new _ _ _,r.ext ((Ext.refl _).alloc _)⟩
theorem Zga {w:World} {B:Nat} {T:TypeId} {q:Rat} {p:Option Addr} {k c:Nat} {p':Option Addr} {k' c':Nat} {o0 o1 o2 o3:Value} (hT:T≠3) (b:Box w B T #[o0,o1,o2,o3]) (r:QV w (.agg #[.bool (decide (q.num<0)),.slice p k c,.bool false,.slice p' k' c']) q) :
  BoxQ ((((w.setCell ⟨B,0,none⟩ (.bool (decide (q.num<0)))).setCell ⟨B,1,none⟩ (.slice p k c)).setCell ⟨B,2,none⟩ (.bool false)).setCell ⟨B,3,none⟩ (.slice p' k' c')) B T q:=by
 have b1:=b.set 0 (.bool (decide (q.num<0)));have b2:=b1.set 1 (.slice p k c);have b3:=b2.set 2 (.bool false);have b4:=b3.set 3 (.slice p' k' c');exact⟨p,k,c,p',k',c',b4,r.ext (((((Ext.refl w).set b hT 0 _).set b1 hT 1 _).set b2 hT 2 _).set b3 hT 3 _)⟩
def Lns.step (a:Lns) (k s:Nat):Rat:=a.nI k s-a.nB k s
def Lns.cv (a:Lns) (s:Nat):Rat:=Rat.divInt (a.S s).curv 1000000000
def Lns.gr (a:Lns) (k s:Nat):Rat:=Rat.divInt (2*(a.S s).order*(a.S s).p0) 10000000*Rat.divInt (a.L k) 10000000
def Lns.pow (a:Lns) (k s:Nat):Rat:=if(a.S s).kind=3 then Rat.divInt 0 1 else if(a.S s).kind=4 then a.cv s else a.cv s*a.step k s-a.gr k s
end Go.Mono
namespace Go.Proofs.W
open Go.RowKit Go.Mono
theorem Zvw (V:Array Value) (s:Int) (w:World) :
  Calls Tryz.prog 282 #[.agg V,.int .i64 s] w λe w'=>∃C,e=.returned (.agg C)∧QV w' (.agg C) (Rat.divInt 0 1)∧Below w.heap.size w w':=by
 have hpo:=λW=>Zez 0 1 Zd W Zd Zd Zd Zd;go_enter Tryz.func282,Tryz.ntmps282
 go_wp2_with fail
 refine Zbi λW hB hs bV bR=>?_;refine(hpo W).mono ?_;rintro e W3 ⟨C,rfl,hr,hb⟩;obtain⟨C',hC',hC,h1⟩:=hr.cells;cases hC';have hi:(Tryz.prog.info? 54).map (·.size)=some C.size:=by rw[hC];exact Zan
 replace hB:=Zaa hB hb;replace bR:=bR.below hb;have lR:=bR.lt;go_wp2_with (refine Zab rfl 54 (.tmp 4) (.tmp 5) rfl (w.heap.size+1) 0 54 _ C C rfl rfl bR hi (Ybl (by rw[hC];rfl)) h1 (Zah (by rw[hC];rfl)) ?_;intro W4 hk4 b4)
 refine bodyPost_ret (b4.results rfl _ _ rfl Tryz.underlying54 rfl hi) rfl ?_;exact⟨C,rfl,hr.ext (hk4.ext bR Zd),hk4.below hB Zo hB.size⟩
theorem Ztm (a:Lns) (q:Plc) (s k:Nat) (w:World) (h:OptAt w a q) (s1:s<a.ns) (hc1 : -1000000000<=(a.S s).curv) (hc2:(a.S s).curv<=1000000000) :
  Calls Tryz.prog 283 #[.agg (a.vvals q k),.int .i64 (s:Int)] w λe w'=>∃C,e=.returned (.agg C)∧QV w' (.agg C) (a.cv s)∧Below w.heap.size w w':=by
 have hpo:=λW=>Zez (a.S s).curv 1000000000 Zd W Zo Zo Zd Zd;rw[show Rat.divInt (a.S s).curv 1000000000=a.cv s from rfl]at hpo;obtain⟨b,off,hps,hbl,hcell⟩:=h.surfs.2.2 Zo;have f1:w.cell? ⟨b,off+s*22+1,none⟩=some (.int .i64 (a.S s).curv):=hcell s 1 s1 Zo;simp only[Lns.vvals];rw[hps];have s1':(s:Int)<a.ns:=Zo;clear hcell h hc1 hc2;generalize (a.S s).curv=cu at *;generalize a.cv s=rr at *;go_enter Tryz.func283,Tryz.ntmps283
 go_wp2_with fail
 refine Zbi λW hB hs bV bR=>?_;refine(hpo W).mono ?_;rintro e W3 ⟨C,rfl,hr,hb⟩;obtain⟨C',hC',hC,h1⟩:=hr.cells;cases hC';have hi:(Tryz.prog.info? 54).map (·.size)=some C.size:=by rw[hC];exact Zan
 replace hB:=Zaa hB hb;replace bR:=bR.below hb;have lR:=bR.lt;go_wp2_with (refine Zab rfl 54 (.tmp 4) (.tmp 13) rfl (w.heap.size+1) 0 54 _ C C rfl rfl bR hi (Ybl (by rw[hC];rfl)) h1 (Zah (by rw[hC];rfl)) ?_;intro W4 hk4 b4)
 refine bodyPost_ret (b4.results rfl _ _ rfl Tryz.underlying54 rfl hi) rfl ?_;exact⟨C,rfl,hr.ext (hk4.ext bR Zd),hk4.below hB Zo hB.size⟩
theorem Zq3 (a:Lns) (ha:a.opt) (q:Plc) (hchk:Chk a q) (s k:Nat) (w:World) (h:OptAt w a q) (s1:s<a.ns) (k1:k<a.nw) :
  Calls Tryz.prog 66 #[.agg (a.vvals q k),.int .i64 ((s:Int)-1)] w λe w'=>∃C,e=.returned (.agg C)∧QV w' (.agg C) (a.nB k s)∧Below w.heap.size w w':=by
 cases s with
 | zero=>exact Zq2 _ rfl w
 | succ t =>
   rw[show((t+1:Nat):Int)-1=(t:Int) by omega];have:=Ziz a ha q hchk t k w h Zo k1;simpa[Lns.nB]using this
end Go.Proofs.W
namespace Go.Mono
open Go.RowKit
theorem QtV.cells {m:Nat} {w:World} {v:Value} {q:Rat} (h:QtV m w v q):∃C:Array Value,v=.agg C∧C.size=4∧C.all (·.oneCell')=true:=by
 obtain⟨s,p,n,c,s',p',n',c',rfl,_,_⟩:=h;exact⟨_,rfl,rfl,by simp[Value.oneCell']⟩
theorem QtV.tight {m k:Nat} {w:World} {v:Value} {q:Rat} (h:QtV m w v q) (h1:(q.num.natAbs:Int)<pw k) (h2:(q.den:Int)<pw k):QtV k w v q:=by
 obtain⟨s,p,n,c,s',p',n',c',rfl,x,y⟩:=h;exact⟨s,p,n,c,s',p',n',c',rfl,x.tight h1,y.tight (by simpa using h2)⟩
theorem Zg3 (a b:Rat):Rat.divInt (a.num*b.num) ((a.den:Int)*b.den)=a*b:=by
 rw[<-Rat.divInt_mul_divInt,Yds,Yds]
theorem Zhq (a b:Rat):Rat.divInt (a.num*b.den+b.num*a.den) ((a.den:Int)*b.den)=a+b:=by
 have h:=Rat.divInt_add_divInt a.num b.num (d₁:=a.den) (d₂:=b.den) (by have:=a.den_pos;omega) (by have:=b.den_pos;omega);rw[<-h,Yds,Yds]
end Go.Mono
namespace Go.Proofs.W
open Go.RowKit Go.Mono

theorem Zre {m:Nat} {v1 v2:Value} {a b:Rat} (w:World) (h1:QtV m w v1 a) (h2:QtV m w v2 b) (hm:m<=50000) :
  Calls Tryz.prog 153 #[v1,v2] w λe w'=>∃v,e=.returned v∧QtV (m+m) w' v (a*b)∧Below w.heap.size w w':=by
 have hab:=Zg3 a b;have hden:(0:Int)<(a.den:Int)*b.den:=Int.mul_pos (by have:=a.den_pos;omega) (by have:=b.den_pos;omega);obtain⟨s1,p1,n1,c1,t1,q1,m1,d1,rfl,x1,x2⟩:=h1;obtain⟨s2,p2,n2,c2,t2,q2,m2,d2,rfl,y1,y2⟩:=h2;go_enter Tryz.func153,Tryz.ntmps153
 go_wp2_with fail
 refine Zfs λW hB hs b0 b1 bO=>?_;replace x1:=x1.below hB;replace x2:=x2.below hB;replace y1:=y1.below hB;replace y2:=y2.below hB;refine wp_region_held_drew (S:=λw'=>(∀b o,b<W.heap.size->b≠(w.heap.size+1+1)->w'.cell? ⟨b,o,none⟩=W.cell? ⟨b,o,none⟩)∧KeepBut (w.heap.size+1+1) W.heap.size W w') Zx (KeepBut.S (KeepBut.refl _ _).drew) (λhHeld=>?_);have hBel:Below W.heap.size W W.drew:=(Yae _ _).drew;refine tk 0 (some 5) ?_;refine tl 1 (some 6) rfl (.agg #[.bool s1,.slice p1 n1 c1]) (Zaj 52 _ rfl w.heap.size 0 rfl  #[.bool s1,.slice p1 n1 c1] (λw h=>(h.2.box b0 b0.lt Zo).part 0 #[.bool s1,.slice p1 n1 c1] rfl) _ Tryz.underlying52 rfl Zae) ?_;refine tk 2 (some 7) ?_;refine tl 3 (some 8) rfl (.agg #[.bool s2,.slice p2 n2 c2]) (Zaj 52 _ rfl (w.heap.size+1) 0 rfl  #[.bool s2,.slice p2 n2 c2] (λw h=>(h.2.box b1 b1.lt Zo).part 0 #[.bool s2,.slice p2 n2 c2] rfl) _ Tryz.underlying52 rfl Zae) ?_;refine tk 5 (some 10) ?_;refine tl 6 (some 11) rfl (.agg #[.bool t1,.slice q1 m1 d1]) (Zaj 52 _ rfl w.heap.size 2 rfl  #[.bool t1,.slice q1 m1 d1] (λw h=>(h.2.box b0 b0.lt Zo).part 2 #[.bool t1,.slice q1 m1 d1] rfl) _ Tryz.underlying52 rfl Zae) ?_;refine tk 7 (some 12) ?_;refine tl 8 (some 13) rfl (.agg #[.bool t2,.slice q2 m2 d2]) (Zaj 52 _ rfl (w.heap.size+1) 2 rfl  #[.bool t2,.slice q2 m2 d2] (λw h=>(h.2.box b1 b1.lt Zo).part 2 #[.bool t2,.slice q2 m2 d2] rfl) _ Tryz.underlying52 rfl Zae) ?_;refine Mono.stc 4 (some 9) (Zcw _ (x1.ext (.of_below hBel)) (y1.ext (.of_below hBel)) Zo Zo) (λe Wn4 hR=>?_);obtain⟨V4,rfl,R4,hb4⟩:=hR;replace hBel:=Zaa hBel hb4;refine⟨(KeepBut.S (hHeld.2.call hb4)),λhHeld=>Mono.pt ?_⟩;refine Mono.stc 9 (some 14) (Zcw _ (x2.ext (.of_below hBel)) (y2.ext (.of_below hBel)) Zo Zo) (λe Wn9 hR=>?_);obtain⟨V9,rfl,R9,hb9⟩:=hR;replace hBel:=Zaa hBel hb9;replace R4:=R4.ext (.of_below hb9);refine⟨(KeepBut.S (hHeld.2.call hb9)),λhHeld=>Mono.pt ?_⟩;refine Mono.stc 10 (some 15) (Zc3 _ R4 R9 hden Zo) (λe Wn10 hR=>?_);obtain⟨V10,rfl,R10,hb10⟩:=hR;replace hBel:=Zaa hBel hb10;replace R4:=R4.ext (.of_below hb10);replace R9:=R9.ext (.of_below hb10);refine⟨(KeepBut.S (hHeld.2.call hb10)),λhHeld=>Mono.pt ?_⟩;rw[hab]at R10;obtain⟨C,rfl,zC,oC⟩:=R10.cells;refine Zdi (w.heap.size+1+1) 54 11 rfl rfl rfl rfl 0 C _ C Zx (λw' i u hS=>KeepBut.S (hS.2.set i u)) rfl rfl (bO.below hBel) hHeld (by rw[zC];exact Zan) (Ybl (by rw[zC];rfl)) oC (Zah (by rw[zC];rfl)) (λWs hks bs hHeld=>?_);refine wpAnyH_done Zx ?_ _;have xS:=hks.ext (bO.below hBel) Zd;go_wp2
 refine bodyPost_ret (bs.results rfl _ _ rfl Tryz.underlying54 rfl (by rw[zC];exact Zan)) rfl ?_;exact⟨_,rfl,R10.ext xS,hHeld.2.below hB Zo hB.size⟩
theorem Zts {m:Nat} {v1 v2:Value} {a b:Rat} (w:World) (h1:QtV m w v1 a) (h2:QtV m w v2 b) (hm:m<=40000) :
  Calls Tryz.prog 150 #[v1,v2] w λe w'=>∃v,e=.returned v∧QtV (m+m+1) w' v (a+b)∧Below w.heap.size w w':=by
 have hab:=Zhq a b;have hden:(0:Int)<(a.den:Int)*b.den:=Int.mul_pos (by have:=a.den_pos;omega) (by have:=b.den_pos;omega);obtain⟨s1,p1,n1,c1,t1,q1,m1,d1,rfl,x1,x2⟩:=h1;obtain⟨s2,p2,n2,c2,t2,q2,m2,d2,rfl,y1,y2⟩:=h2;go_enter Tryz.func150,Tryz.ntmps150
 go_wp2_with fail
 refine Zfs λW hB hs b0 b1 bO=>?_;replace x1:=x1.below hB;replace x2:=x2.below hB;replace y1:=y1.below hB;replace y2:=y2.below hB;refine wp_region_held_drew (S:=λw'=>(∀b o,b<W.heap.size->b≠(w.heap.size+1+1)->w'.cell? ⟨b,o,none⟩=W.cell? ⟨b,o,none⟩)∧KeepBut (w.heap.size+1+1) W.heap.size W w') Zx (KeepBut.S (KeepBut.refl _ _).drew) (λhHeld=>?_);have hBel:Below W.heap.size W W.drew:=(Yae _ _).drew;refine tk 0 (some 5) ?_;refine tl 1 (some 6) rfl (.agg #[.bool s1,.slice p1 n1 c1]) (Zaj 52 _ rfl w.heap.size 0 rfl  #[.bool s1,.slice p1 n1 c1] (λw h=>(h.2.box b0 b0.lt Zo).part 0 #[.bool s1,.slice p1 n1 c1] rfl) _ Tryz.underlying52 rfl Zae) ?_;refine tk 2 (some 7) ?_;refine tl 3 (some 8) rfl (.agg #[.bool t2,.slice q2 m2 d2]) (Zaj 52 _ rfl (w.heap.size+1) 2 rfl  #[.bool t2,.slice q2 m2 d2] (λw h=>(h.2.box b1 b1.lt Zo).part 2 #[.bool t2,.slice q2 m2 d2] rfl) _ Tryz.underlying52 rfl Zae) ?_;refine tk 5 (some 10) ?_;refine tl 6 (some 11) rfl (.agg #[.bool s2,.slice p2 n2 c2]) (Zaj 52 _ rfl (w.heap.size+1) 0 rfl  #[.bool s2,.slice p2 n2 c2] (λw h=>(h.2.box b1 b1.lt Zo).part 0 #[.bool s2,.slice p2 n2 c2] rfl) _ Tryz.underlying52 rfl Zae) ?_;refine tk 7 (some 12) ?_;refine tl 8 (some 13) rfl (.agg #[.bool t1,.slice q1 m1 d1]) (Zaj 52 _ rfl w.heap.size 2 rfl  #[.bool t1,.slice q1 m1 d1] (λw h=>(h.2.box b0 b0.lt Zo).part 2 #[.bool t1,.slice q1 m1 d1] rfl) _ Tryz.underlying52 rfl Zae) ?_;refine tk 11 (some 16) ?_;refine tl 12 (some 17) rfl (.agg #[.bool t1,.slice q1 m1 d1]) (Zaj 52 _ rfl w.heap.size 2 rfl  #[.bool t1,.slice q1 m1 d1] (λw h=>(h.2.box b0 b0.lt Zo).part 2 #[.bool t1,.slice q1 m1 d1] rfl) _ Tryz.underlying52 rfl Zae) ?_;refine tk 13 (some 18) ?_;refine tl 14 (some 19) rfl (.agg #[.bool t2,.slice q2 m2 d2]) (Zaj 52 _ rfl (w.heap.size+1) 2 rfl  #[.bool t2,.slice q2 m2 d2] (λw h=>(h.2.box b1 b1.lt Zo).part 2 #[.bool t2,.slice q2 m2 d2] rfl) _ Tryz.underlying52 rfl Zae) ?_;refine Mono.stc 4 (some 9) (Zcw _ (x1.ext (.of_below hBel)) (y2.ext (.of_below hBel)) Zo Zo) (λe Wn4 hR=>?_);obtain⟨V4,rfl,R4,hb4⟩:=hR;replace hBel:=Zaa hBel hb4;refine⟨(KeepBut.S (hHeld.2.call hb4)),λhHeld=>Mono.pt ?_⟩;refine Mono.stc 9 (some 14) (Zcw _ (y1.ext (.of_below hBel)) (x2.ext (.of_below hBel)) Zo Zo) (λe Wn9 hR=>?_);obtain⟨V9,rfl,R9,hb9⟩:=hR;replace hBel:=Zaa hBel hb9;replace R4:=R4.ext (.of_below hb9);refine⟨(KeepBut.S (hHeld.2.call hb9)),λhHeld=>Mono.pt ?_⟩;refine Mono.stc 10 (some 15) (Znf _ R4 R9 Zo Zo) (λe Wn10 hR=>?_);obtain⟨V10,rfl,R10,hb10⟩:=hR;replace hBel:=Zaa hBel hb10;replace R4:=R4.ext (.of_below hb10);replace R9:=R9.ext (.of_below hb10);refine⟨(KeepBut.S (hHeld.2.call hb10)),λhHeld=>Mono.pt ?_⟩;refine Mono.stc 15 (some 20) (Zcw _ (x2.ext (.of_below hBel)) (y2.ext (.of_below hBel)) Zo Zo) (λe Wn15 hR=>?_);obtain⟨V15,rfl,R15,hb15⟩:=hR;replace hBel:=Zaa hBel hb15;replace R4:=R4.ext (.of_below hb15);replace R9:=R9.ext (.of_below hb15);replace R10:=R10.ext (.of_below hb15);refine⟨(KeepBut.S (hHeld.2.call hb15)),λhHeld=>Mono.pt ?_⟩
 refine Mono.stc 16 (some 21) (Zc3 (m:=m+m+1) _ (R10.mono Zo) (R15.mono Zo) hden Zo) (λe Wn16 hR=>?_);obtain⟨V16,rfl,R16,hb16⟩:=hR;replace hBel:=Zaa hBel hb16;replace R4:=R4.ext (.of_below hb16);replace R9:=R9.ext (.of_below hb16);replace R10:=R10.ext (.of_below hb16);replace R15:=R15.ext (.of_below hb16);refine⟨(KeepBut.S (hHeld.2.call hb16)),λhHeld=>Mono.pt ?_⟩;rw[hab]at R16;obtain⟨C,rfl,zC,oC⟩:=R16.cells;refine Zdi (w.heap.size+1+1) 54 17 rfl rfl rfl rfl 0 C _ C Zx (λw' i u hS=>KeepBut.S (hS.2.set i u)) rfl rfl (bO.below hBel) hHeld (by rw[zC];exact Zan) (Ybl (by rw[zC];rfl)) oC (Zah (by rw[zC];rfl)) (λWs hks bs hHeld=>?_);refine wpAnyH_done Zx ?_ _;have xS:=hks.ext (bO.below hBel) Zd;go_wp2
 refine bodyPost_ret (bs.results rfl _ _ rfl Tryz.underlying54 rfl (by rw[zC];exact Zan)) rfl ?_;exact⟨_,rfl,R16.ext xS,hHeld.2.below hB Zo hB.size⟩
end Go.Proofs.W
namespace Go.Mono
open Go.RowKit
section
def pens (C:Nat->Array Value) (i:Nat):List Value:=(List.range i).flatMap λj=>(C j).toList
theorem Zce (C:Nat->Array Value) (i:Nat):pens C (i+1)=pens C i++(C i).toList:=by simp[pens,Ydo]
theorem Zg5 (C:Nat->Array Value) (z i:Nat) (h:∀j,j<i->(C j).size=z):(pens C i).length=i*z:=by
 induction i with
 | zero=>simp[pens]
 | succ i ih=>rw[Zce,Yay,ih (λj hj=>h j Zo),Yaz,h i Zo,Yeb]
theorem Ztv (C:Nat->Array Value) (z n:Nat) (h:∀j,j<n->(C j).size=z) (i j:Nat) (hi:i<n) (hj:j<z):(pens C n)[i*z+j]? = some ((C i).getD j undef):=by
 induction n with
 | zero=>omega
 | succ n ih =>
   have hl:=Zg5 C z n (λj hj=>h j Zo);rw[Zce];by_cases hin:i<n
   ·have:i*z+j<n*z:=by
     have:=Ybd z (show i+1<=n by omega);rw[Yeb]at this;omega
    rw[Ybb Zo];exact ih (λj hj=>h j Zo) hin
   ·obtain rfl:i=n:=by omega
    have hs:=h i hi;rw[Ybc Zo,hl,show i*z+j-i*z=j by omega,Yaq,Yax,Yby Zo];rfl
section
variable {P:Program} {ops:Array Oper} {rest:List Oper} {Q:Exit->Act->World->Prop} {a:Act} {w:World} {T0 T1 T2 T3:TypeId} {c0 c1 c2 c3:Array Value}
end
end
theorem Zvx {o p:Int} (ho:In 3 o) (hp:In 1000000000 p) : -6000000000<=2*o*p∧2*o*p<=6000000000:=by
 obtain⟨h1,h2⟩:=ho;obtain⟨h3,h4⟩:=hp;rcases(by omega:o = -3∨o = -2∨o = -1∨o=0∨o=1∨o=2∨o=3) with rfl|rfl|rfl|rfl|rfl|rfl|rfl<;>omega
end Go.Mono
namespace Go.Proofs.W
open Go.RowKit Go.Mono
theorem Zq4 (q:Rat) (p:Option Addr) (k c:Nat) (p':Option Addr) (k' c':Nat) (w:World) :
  Calls Tryz.prog 64 #[.agg #[.bool (decide (q.num<0)),.slice p k c,.bool false,.slice p' k' c'],.int .i64 0] w λe w'=>e=.returned (.agg #[.bool (decide (q.num<0)),.slice p k c,.bool false,.slice p' k' c'])∧Below w.heap.size w w':=
 Za1 _ rfl (by simp[Value.oneCell']) w
theorem Zq5 (a:Lns) (ha:a.opt) (q:Plc) (hchk:Chk a q) (s k:Nat) (w:World) (h:OptAt w a q) (s1:s<a.ns) (k1:k<a.nw)
  (hf1:Fits (a.step k s)) (hf2:Fits (a.cv s*a.step k s)) (hf3:Fits (a.gr k s)) (hf4:Fits (a.cv s*a.step k s-a.gr k s)) :
  Calls Tryz.prog 281 #[.agg (a.vvals q k),.int .i64 (s:Int)] w λe w'=>∃C,e=.returned (.agg C)∧QV w' (.agg C) (a.cv s*a.step k s-a.gr k s)∧Below w.heap.size w w':=by
 obtain⟨b,off,hps,hbl,hcell⟩:=h.surfs.2.2 Zo;dsimp only at hcell;obtain⟨bw,ow,hpw,hblw,hcellw⟩:=h.waves.2.2 Zo;have fL:w.cell? ⟨bw,ow+k*2,none⟩=some (.int .i64 (a.L k)):=hcellw k 0 k1 Zo;obtain⟨L1,L2⟩:=ha.base.wl k k1;have hO3:=λW=>Zez (a.L k) 10000000 Zd W Zo Zo Zd Zd;have hor:=(ha.base.sok s s1).order;have hp0:=(ha.base.sok s s1).p0;obtain⟨m1,m2⟩:=Zvx hor hp0;have hw1:IntKind.i64.wrap (2*(a.S s).order)=2*(a.S s).order:=by obtain⟨_,_⟩:=hor;rw[Ybi];omega
 have hw2:IntKind.i64.wrap (2*(a.S s).order*(a.S s).p0)=2*(a.S s).order*(a.S s).p0:=by rw[Ybi];omega
 have hO2:=λW=>Zez (2*(a.S s).order*(a.S s).p0) 10000000 Zd W Zo Zo Zd Zd;have k1':(k:Int)<a.nw:=Zo;clear hcellw L1 L2 hor hp0 m1 m2;have hsok:=ha.base.sok s s1;have hI1:=λW (hW:Below w.heap.size w W)=>Ziz a ha q hchk s k W (h.below hW) s1 k1;have hI2:=λW (hW:Below w.heap.size w W)=>Zq3 a ha q hchk s k W (h.below hW) s1 k1;have hO1:=λW=>Zez (a.S s).curv 1000000000 Zd W (by have:=hsok.curv.1;omega) (by have:=hsok.curv.2;omega) Zd Zd;rw[show Rat.divInt (a.S s).curv 1000000000=a.cv s from rfl]at hO1;have s0:IntKind.i64.wrap ((s:Int)-1)=(s:Int)-1:=by have:=ha.base.ns;rw[Ybi];omega
 have hsz:(Tryz.prog.info? 117).map (·.size)=some ((a.S s).cs (q.cp s) (q.cl s)).size:=Zk;have hsl:(Tryz.prog.info? 117).map (·.size)=some ((a.S s).cs (q.cp s) (q.cl s)).toList.length:=Zk;have g1:((a.S s).cs (q.cp s) (q.cl s)).all (·.oneCell')=true:=by simp[Srf.cs,Value.oneCell']
 have gz:((a.S s).cs (q.cp s) (q.cl s)).size=22:=rfl;have e1:((a.S s).cs (q.cp s) (q.cl s))[1]? = some (.int .i64 (a.S s).curv):=rfl;have e11:((a.S s).cs (q.cp s) (q.cl s))[11]? = some (.int .i64 (a.S s).order):=rfl;have e9:((a.S s).cs (q.cp s) (q.cl s))[9]? = some (.int .i64 (a.S s).p0):=rfl;have hrange:∀W,Below w.heap.size w W->W.rangeAt b (off+s*22) ((a.S s).cs (q.cp s) (q.cl s)).toList:=λW hW j v hv=>by
  have hj:j<22:=by
   have:=(Yan.1 hv).1;simpa[gz]using this
  refine((hW.cell (p:=⟨b,off+s*22+j,none⟩) hbl).trans (hcell s j s1 hj)).trans ?_;rw[Yaq]at hv;rw[Yax,hv];rfl
 simp only[Lns.vvals]at hI1 hI2 ⊢;rw[hps,hpw]at hI1 hI2 ⊢;have s1':(s:Int)<a.ns:=Zo;clear hcell hsok;generalize (a.S s).cs (q.cp s) (q.cl s)=A at *;go_enter Tryz.func281,Tryz.ntmps281
 go_step
 go_step
 go_step
 go_step
 go_step
 go_step
 go_step
 go_step
 go_step
 refine Zb8 λW hB hs bV bR=>?_;have cV:=bV.cell;have lV:=bV.lt;go_wp2_with first|(refine wpList_load_mid rfl 117 _ rfl b (off+s*22) rfl A.toList _ (hrange W hB) Tryz.underlying117 rfl hsl ?_)|(refine Zaq rfl 117 rfl _ Za0 ?_;intro W1 B1 hle hB1 b1)|(refine Zab rfl 117 (.tmp 5) (.tmp 15) rfl B1 0 117 _ A A rfl rfl b1 hsz (Ybl (by rw[gz];rfl)) g1 (Zah (by rw[gz];rfl)) ?_;intro W2 hk2 bS)
 have hBW2:Below W.heap.size W W2:=hk2.below hB1 hle hB1.size;replace hB:=Zaa hB hBW2;replace bV:=bV.below hBW2;replace bR:=bR.below hBW2;have lB1:w.heap.size+2<=B1:=Zo;clear hk2 hB1 hle b1 hBW2 cV lV hrange hsl hsz hs;have cV:=bV.cell;have lV:=bV.lt;simp only[Act.put,Zsi,Zs0,Zss];go_cut [6] (λs6 wx=>∃B6,s6=.pointer (some ⟨B6,0,none⟩)∧W2.heap.size<=B6∧BoxQ wx B6 54 (a.nI k s-a.nB k s)∧Below W2.heap.size W2 wx)
 case first=>
  have hf1':Fits (a.nI k s-a.nB k s):=hf1;go_region_held3 (λw'=>(∀b o,b<W2.heap.size->w'.cell? ⟨b,o,none⟩=W2.cell? ⟨b,o,none⟩)∧Below W2.heap.size W2 w') ((refine Za3 ?_;first|exact(Yae _ _).drew|(repeat' (first|exact Yai ‹_› | exact Zaa (Yai ‹_›) ‹_› | exact Zad (Yai ‹_›) _|exact Zad ‹_› _|refine Zai ?_ Zo _ _)))) (first|(go_at_call 66;(with_reducible refine(hI1 _ (Zaa hB (Yai ‹_›))).mono ?_);rintro e W5 ⟨C5,rfl,R5,hb5⟩;have r5:=R5;obtain⟨p5,k5,c5,p5',k5',c5',hC5,z5,y5⟩:=r5;cases hC5;clear z5 y5;(have hzhb5:=Zaa (Yai ‹_›) hb5);(have hshb5:=hzhb5.size);(first|(replace bn:=bn.below hb5;clear cbn fbn lbn;have cbn:=bn.cell;have fbn:=bn.frozen;have lbn:=bn.lt)|(have bn:=(Box.new _ 54 _).below hb5;have cbn:=bn.cell;have fbn:=bn.frozen;have lbn:=bn.lt)|(have bn:=(Box.new _ 54 _).drew.below hb5;have cbn:=bn.cell;have fbn:=bn.frozen;have lbn:=bn.lt)|skip))|(go_at_call 66;(with_reducible refine(hI2 _ (Zaa hB (Yai ‹_›))).mono ?_);rintro e W6 ⟨C6,rfl,R6,hb6⟩;have r6:=R6;obtain⟨p6,k6,c6,p6',k6',c6',hC6,z6,y6⟩:=r6;cases hC6;clear z6 y6;replace R5:=R5.ext (by first|exact .of_below hb6|exact((Ext.refl _).alloc _).below hb6|exact((Ext.refl _).alloc _).drew.below hb6);(have hzhb6:=Zaa (Yai ‹_›) hb6);(have hshb6:=hzhb6.size);(first|(replace bn:=bn.below hb6;clear cbn fbn lbn;have cbn:=bn.cell;have fbn:=bn.frozen;have lbn:=bn.lt)|(have bn:=(Box.new _ 54 _).below hb6;have cbn:=bn.cell;have fbn:=bn.frozen;have lbn:=bn.lt)|(have bn:=(Box.new _ 54 _).drew.below hb6;have cbn:=bn.cell;have fbn:=bn.frozen;have lbn:=bn.lt)|skip))|(go_at_call 67;(with_reducible refine(Zel (a.nI k s) (a.nB k s) _ _ _ W6 (by first|exact Ext.refl _|exact(Ext.refl _).alloc _|exact((Ext.refl _).alloc _).drew) R5 R6 hf1').mono ?_);rintro e W7 ⟨C7,rfl,R7,hb7⟩;have r7:=R7;obtain⟨p7,k7,c7,p7',k7',c7',hC7,z7,y7⟩:=r7;subst hC7;clear z7 y7;(have hzhb7:=Zaa (Yai ‹_›) hb7);(have hshb7:=hzhb7.size);(first|(replace bn:=bn.below hb7;clear cbn fbn lbn;have cbn:=bn.cell;have fbn:=bn.frozen;have lbn:=bn.lt)|(have bn:=(Box.new _ 54 _).below hb7;have cbn:=bn.cell;have fbn:=bn.frozen;have lbn:=bn.lt)|(have bn:=(Box.new _ 54 _).drew.below hb7;have cbn:=bn.cell;have fbn:=bn.frozen;have lbn:=bn.lt)|skip))|(go_at_call 64;(with_reducible refine(Zq4 (a.nI k s-a.nB k s) p7 k7 c7 p7' k7' c7' _).mono ?_);rintro e W8 ⟨rfl,hb8⟩;replace R7:=R7.ext (by first|exact .of_below hb8|exact((Ext.refl _).alloc _).below hb8|exact((Ext.refl _).alloc _).drew.below hb8);(have hzhb8:=Zaa (Yai ‹_›) hb8);(have hshb8:=hzhb8.size);(first|(replace bn:=bn.below hb8;clear cbn fbn lbn;have cbn:=bn.cell;have fbn:=bn.frozen;have lbn:=bn.lt)|(have bn:=(Box.new _ 54 _).below hb8;have cbn:=bn.cell;have fbn:=bn.frozen;have lbn:=bn.lt)|(have bn:=(Box.new _ 54 _).drew.below hb8;have cbn:=bn.cell;have fbn:=bn.frozen;have lbn:=bn.lt)|skip)))
  all_goals
   go_wp2_with fail
   go_meet
   exact⟨_,rfl,Zo,(by first|exact Zf9 R7|exact Zga Zd bn R7),Yai ‹_›⟩
 case rest=>
  obtain⟨B6,rfl,hB6,hq6,hb⟩:=hcut;replace hB:=Zaa hB hb;replace bV:=bV.below hb;replace bR:=bR.below hb;replace bS:=bS.below hb;obtain⟨p9,k9,c9,p9',k9',c9',b6,R9⟩:=hq6;have c6:=b6.cell;have l6:=b6.lt;have lS:=bS.lt;have lW:=hb.size;have fS1:=(bS.cell 1).trans e1;clear cV lV hb hI1 hI2 hf1;go_wp2_with fail
  go_cut [7] (λs7 wx=>∃B7,s7=.pointer (some ⟨B7,0,none⟩)∧wc.heap.size<=B7∧BoxQ wx B7 54 (a.cv s*(a.nI k s-a.nB k s))∧Below wc.heap.size wc wx)
  case first=>
   have hf2':Fits (a.cv s*(a.nI k s-a.nB k s)):=hf2;go_region_held3 (λw'=>(∀b o,b<wc.heap.size->w'.cell? ⟨b,o,none⟩=wc.cell? ⟨b,o,none⟩)∧Below wc.heap.size wc w') ((refine Za3 ?_;first|exact(Yae _ _).drew|(repeat' (first|exact Yai ‹_› | exact Zaa (Yai ‹_›) ‹_› | exact Zad (Yai ‹_›) _|exact Zad ‹_› _|refine Zai ?_ Zo _ _)))) (first|(go_at_call 94;(with_reducible refine(hO1 _).mono ?_);rintro e W5 ⟨C5,rfl,R5,hb5⟩;have r5:=R5;obtain⟨p5,k5,c5,p5',k5',c5',hC5,z5,y5⟩:=r5;cases hC5;clear z5 y5;(have hzhb5:=Zaa (Yai ‹_›) hb5);(have hshb5:=hzhb5.size);(first|(replace bn:=bn.below hb5;clear cbn fbn lbn;have cbn:=bn.cell;have fbn:=bn.frozen;have lbn:=bn.lt)|(have bn:=(Box.new _ 54 _).below hb5;have cbn:=bn.cell;have fbn:=bn.frozen;have lbn:=bn.lt)|(have bn:=(Box.new _ 54 _).drew.below hb5;have cbn:=bn.cell;have fbn:=bn.frozen;have lbn:=bn.lt)|skip))|(go_at_call 29;(with_reducible refine(Zdp (a.cv s) (a.nI k s-a.nB k s) _ _ _ W5 (by first|exact Ext.refl _|exact(Ext.refl _).alloc _|exact((Ext.refl _).alloc _).drew) R5 (R9.ext (.of_below hzhb5)) hf2').mono ?_);rintro e W6 ⟨C6,rfl,R6,hb6⟩;have r6:=R6;obtain⟨p6,k6,c6,p6',k6',c6',hC6,z6,y6⟩:=r6;subst hC6;clear z6 y6;(have hzhb6:=Zaa (Yai ‹_›) hb6);(have hshb6:=hzhb6.size);(first|(replace bn:=bn.below hb6;clear cbn fbn lbn;have cbn:=bn.cell;have fbn:=bn.frozen;have lbn:=bn.lt)|(have bn:=(Box.new _ 54 _).below hb6;have cbn:=bn.cell;have fbn:=bn.frozen;have lbn:=bn.lt)|(have bn:=(Box.new _ 54 _).drew.below hb6;have cbn:=bn.cell;have fbn:=bn.frozen;have lbn:=bn.lt)|skip))|(go_at_call 64;(with_reducible refine(Zq4 (a.cv s*(a.nI k s-a.nB k s)) p6 k6 c6 p6' k6' c6' _).mono ?_);rintro e W7 ⟨rfl,hb7⟩;replace R6:=R6.ext (by first|exact .of_below hb7|exact((Ext.refl _).alloc _).below hb7|exact((Ext.refl _).alloc _).drew.below hb7);(have hzhb7:=Zaa (Yai ‹_›) hb7);(have hshb7:=hzhb7.size);(first|(replace bn:=bn.below hb7;clear cbn fbn lbn;have cbn:=bn.cell;have fbn:=bn.frozen;have lbn:=bn.lt)|(have bn:=(Box.new _ 54 _).below hb7;have cbn:=bn.cell;have fbn:=bn.frozen;have lbn:=bn.lt)|(have bn:=(Box.new _ 54 _).drew.below hb7;have cbn:=bn.cell;have fbn:=bn.frozen;have lbn:=bn.lt)|skip)))
   all_goals
    go_wp2_with fail
    go_meet
    exact⟨_,rfl,Zo,(by first|exact Zf9 R6|exact Zga Zd bn R6),Yai ‹_›⟩
  case rest=>
   obtain⟨B7,rfl,hB7,hq7,hb⟩:=hcut;replace hB:=Zaa hB hb;replace bV:=bV.below hb;replace bR:=bR.below hb;replace bS:=bS.below hb;have lS:=bS.lt;have lW:=hb.size;have fS11:=(bS.cell 11).trans e11;have fS9:=(bS.cell 9).trans e9;have cV:=bV.cell;have lV:=bV.lt;have fL':=(hB.cell (p:=⟨bw,ow+k*2,none⟩) hblw).trans fL;have lL:=Yaf hblw hB.size;clear hb c6 l6 b6 R9 hO1 fS1;go_wp2_with fail
   go_cut [8] (λs8 wx=>∃B8,s8=.pointer (some ⟨B8,0,none⟩)∧wc.heap.size<=B8∧BoxQ wx B8 54 (Rat.divInt (2*(a.S s).order*(a.S s).p0) 10000000*Rat.divInt (a.L k) 10000000)∧Below wc.heap.size wc wx)
   case first=>
    have hf3':Fits (Rat.divInt (2*(a.S s).order*(a.S s).p0) 10000000*Rat.divInt (a.L k) 10000000):=hf3;go_region_held3 (λw'=>(∀b o,b<wc.heap.size->w'.cell? ⟨b,o,none⟩=wc.cell? ⟨b,o,none⟩)∧Below wc.heap.size wc w') ((refine Za3 ?_;first|exact(Yae _ _).drew|(repeat' (first|exact Yai ‹_› | exact Zaa (Yai ‹_›) ‹_› | exact Zad (Yai ‹_›) _|exact Zad ‹_› _|refine Zai ?_ Zo _ _)))) (first|(go_at_call 94;(with_reducible refine(hO2 _).mono ?_);rintro e W5 ⟨C5,rfl,R5,hb5⟩;have r5:=R5;obtain⟨p5,k5,c5,p5',k5',c5',hC5,z5,y5⟩:=r5;cases hC5;clear z5 y5;(have hzhb5:=Zaa (Yai ‹_›) hb5);(have hshb5:=hzhb5.size);(first|(replace bn:=bn.below hb5;clear cbn fbn lbn;have cbn:=bn.cell;have fbn:=bn.frozen;have lbn:=bn.lt)|(have bn:=(Box.new _ 54 _).below hb5;have cbn:=bn.cell;have fbn:=bn.frozen;have lbn:=bn.lt)|(have bn:=(Box.new _ 54 _).drew.below hb5;have cbn:=bn.cell;have fbn:=bn.frozen;have lbn:=bn.lt)|skip))|(go_at_call 94;(with_reducible refine(hO3 _).mono ?_);rintro e W6 ⟨C6,rfl,R6,hb6⟩;have r6:=R6;obtain⟨p6,k6,c6,p6',k6',c6',hC6,z6,y6⟩:=r6;cases hC6;clear z6 y6;replace R5:=R5.ext (by first|exact .of_below hb6|exact((Ext.refl _).alloc _).below hb6|exact((Ext.refl _).alloc _).drew.below hb6);(have hzhb6:=Zaa (Yai ‹_›) hb6);(have hshb6:=hzhb6.size);(first|(replace bn:=bn.below hb6;clear cbn fbn lbn;have cbn:=bn.cell;have fbn:=bn.frozen;have lbn:=bn.lt)|(have bn:=(Box.new _ 54 _).below hb6;have cbn:=bn.cell;have fbn:=bn.frozen;have lbn:=bn.lt)|(have bn:=(Box.new _ 54 _).drew.below hb6;have cbn:=bn.cell;have fbn:=bn.frozen;have lbn:=bn.lt)|skip))|(go_at_call 29;(with_reducible refine(Zdp (Rat.divInt (2*(a.S s).order*(a.S s).p0) 10000000) (Rat.divInt (a.L k) 10000000) _ _ _ W6 (by first|exact Ext.refl _|exact(Ext.refl _).alloc _|exact((Ext.refl _).alloc _).drew) R5 R6 hf3').mono ?_);rintro e W7 ⟨C7,rfl,R7,hb7⟩;have r7:=R7;obtain⟨p7,k7,c7,p7',k7',c7',hC7,z7,y7⟩:=r7;subst hC7;clear z7 y7;(have hzhb7:=Zaa (Yai ‹_›) hb7);(have hshb7:=hzhb7.size);(first|(replace bn:=bn.below hb7;clear cbn fbn lbn;have cbn:=bn.cell;have fbn:=bn.frozen;have lbn:=bn.lt)|(have bn:=(Box.new _ 54 _).below hb7;have cbn:=bn.cell;have fbn:=bn.frozen;have lbn:=bn.lt)|(have bn:=(Box.new _ 54 _).drew.below hb7;have cbn:=bn.cell;have fbn:=bn.frozen;have lbn:=bn.lt)|skip))|(go_at_call 64;(with_reducible refine(Zq4 (Rat.divInt (2*(a.S s).order*(a.S s).p0) 10000000*Rat.divInt (a.L k) 10000000) p7 k7 c7 p7' k7' c7' _).mono ?_);rintro e W8 ⟨rfl,hb8⟩;replace R7:=R7.ext (by first|exact .of_below hb8|exact((Ext.refl _).alloc _).below hb8|exact((Ext.refl _).alloc _).drew.below hb8);(have hzhb8:=Zaa (Yai ‹_›) hb8);(have hshb8:=hzhb8.size);(first|(replace bn:=bn.below hb8;clear cbn fbn lbn;have cbn:=bn.cell;have fbn:=bn.frozen;have lbn:=bn.lt)|(have bn:=(Box.new _ 54 _).below hb8;have cbn:=bn.cell;have fbn:=bn.frozen;have lbn:=bn.lt)|(have bn:=(Box.new _ 54 _).drew.below hb8;have cbn:=bn.cell;have fbn:=bn.frozen;have lbn:=bn.lt)|skip)))
    all_goals
     go_wp2_with fail
     go_meet
     exact⟨_,rfl,Zo,(by first|exact Zf9 R7|exact Zga Zd bn R7),Yai ‹_›⟩
   case rest=>
    obtain⟨B8,rfl,hB8,hq8,hb⟩:=hcut;replace hB:=Zaa hB hb;replace bR:=bR.below hb;replace hq7:=hq7.below hb;obtain⟨p7,k7,c7,p7',k7',c7',b7,R7⟩:=hq7;obtain⟨p8,k8,c8,p8',k8',c8',b8,R8⟩:=hq8;have c7:=b7.cell;have l7:=b7.lt;have c8:=b8.cell;have l8:=b8.lt;have hf4':Fits ((a.cv s*(a.nI k s-a.nB k s))-(Rat.divInt (2*(a.S s).order*(a.S s).p0) 10000000*Rat.divInt (a.L k) 10000000)):=hf4;go_wp2_with fail
    refine(Zel (a.cv s*(a.nI k s-a.nB k s)) (Rat.divInt (2*(a.S s).order*(a.S s).p0) 10000000*Rat.divInt (a.L k) 10000000) _ _ wc wc (Ext.refl _) R7 R8 hf4').mono ?_;rintro e W1 ⟨C,rfl,R,hb1⟩;obtain⟨C',hC',hC,h1⟩:=R.cells;subst hC';have hi:(Tryz.prog.info? 54).map (·.size)=some C'.size:=by rw[hC];exact Zan
    replace hB:=Zaa hB hb1;replace bR:=bR.below hb1;go_wp2_with first|(go_at_call 64;refine(Za1 C' hC h1 _).mono ?_;rintro e W2 ⟨rfl,hb2⟩;have bR2:=bR.below hb2;have lR2:=bR2.lt)|(refine Zab rfl 54 (.tmp 4) (.tmp 62) rfl (w.heap.size+1) 0 54 _ C' C' rfl rfl bR2 hi (Ybl (by rw[hC];rfl)) h1 (Zah (by rw[hC];rfl)) ?_;intro W3 hk3 b3)
    refine bodyPost_ret (b3.results rfl _ _ rfl Tryz.underlying54 rfl hi) rfl ?_;exact⟨C',rfl,R.ext ((Ext.of_below hb2).trans (hk3.ext bR2 Zd)),hk3.below (Zaa hB hb2) Zo (by have:=hB.size;have:=hb2.size;omega)⟩
end Go.Proofs.W
namespace Go.Mono
open Go.RowKit
theorem LgV.len {m:Nat} {w:World} {s:Bool} {p:Option Addr} {n c:Nat} {z:Int} (h:LgV m w (.agg #[.bool s,.slice p n c]) z):n<=m∧s=decide (z<0)∧(0<z.natAbs↔0<n):=by
 obtain⟨p',n',c',f,hv,h1,h2,h3,h4⟩:=h;simp only[Value.agg.injEq,Array.mk.injEq,List.cons.injEq,Value.bool.injEq,Ydm,and_true]at hv;obtain⟨rfl,rfl,rfl,rfl⟩:=hv;refine⟨h4,rfl,?_⟩;have:=h2.pos;rw[h3]at this;omega
end Go.Mono
namespace Go.Proofs.W
open Go.RowKit Go.Mono
theorem Zg4 {v1:Value} {a:Rat} (w:World) (h1:QtV 600 w v1 a) :
  Calls Tryz.prog 149 #[v1] w λe w'=>e=.returned (.tuple #[v1,.int .i64 0])∧Below w.heap.size w w':=by
 obtain⟨s1,p1,n1,c1,t1,q1,m1,d1,rfl,x1,x2⟩:=h1;have l1:=x1.len.1;have l2:=x2.len.1;have l1':¬((600:Int)<n1):=Zo;have l2':¬((600:Int)<m1):=Zo;clear x1 x2;go_enter Tryz.func149,Tryz.ntmps149
 go_wp2
 have b:=Box.new (w.alloc (.cells #[.bool s1,.slice p1 n1 c1,.bool t1,.slice q1 m1 d1] 54)) 54 #[.bool s1,.slice p1 n1 c1,.bool t1,.slice q1 m1 d1];simp only[Yav]at b;exact bodyPost_ret (b.resultsT rfl _ _ rfl Tryz.underlying54 rfl Zan) rfl ⟨rfl,Zad (Zad (Yae _ _) _) _⟩
theorem Zb1 {v1:Value} {a:Rat} (w:World) (h1:QtV 600 w v1 a) :
  Calls Tryz.prog 148 #[v1] w λe w'=>e=.returned (.bool true)∧Below w.heap.size w w':=by
 obtain⟨s1,p1,n1,c1,t1,q1,m1,d1,rfl,x1,x2⟩:=h1;have hg:(Int.gcd a.num a.den:Int)=1:=by
  have:=a.reduced;have h:Int.gcd a.num a.den=1:=by simpa[Int.gcd,Nat.Coprime]using this
  rw[h];rfl
 have ht:t1=false:=by
  rw[x2.len.2.1];exact decide_eq_false Zo
 subst ht;have hn:=x2.len.2.2.1 (by have:=a.den_pos;omega);have hn':(0:Int)<m1:=Zo;have hr1:=λ(X:World) (hX:Ext w X)=>Zcr X (x1.ext hX);have hr2:=λ(X:World) (hX:Ext w X)=>Zcr X (x2.ext hX);have hc:=λ(X:World) (hX:Ext w X)=>Zg0 X (x1.ext hX) (x2.ext hX) Zd;rw[hg]at hc;clear x1 x2 hg;go_enter Tryz.func148,Tryz.ntmps148
 go_wp2_with fail
 refine Zbv λW hB hs b0=>?_;refine(hr1 W (.of_below hB)).mono ?_;rintro e W2 ⟨rfl,hb⟩;replace b0:=b0.below hb;replace hB:=Zaa hB hb;have cb0:=b0.cell;have lb0:=b0.lt;have fb0:=b0.frozen;clear hb;go_wp2_with (go_at_call 179;refine(hr2 W2 (.of_below hB)).mono ?_;rintro e W3 ⟨rfl,hb3⟩;replace b0:=b0.below hb3;replace hB:=Zaa hB hb3;clear cb0 lb0 fb0 hb3;have cb0:=b0.cell;have lb0:=b0.lt;have fb0:=b0.frozen)
 go_wp2_with (go_at_call 184;refine(hc W3 (.of_below hB)).mono ?_;rintro e W4 ⟨v,rfl,hv,hb4⟩;replace hB:=Zaa hB hb4)
 go_wp2_with (go_at_call 138;refine(Zeb 1 W4 Zd Zd).mono ?_;rintro e W5 ⟨u,rfl,hu,hb5⟩;replace hB:=Zaa hB hb5)
 go_wp2_with (go_at_call 61;refine(Zkj W5 (hv.below hb5) hu).mono ?_;rintro e W6 ⟨rfl,hb6⟩;replace hB:=Zaa hB hb6)
 go_wp2
 go_ret
 exact⟨Zs,hB⟩
end Go.Proofs.W
