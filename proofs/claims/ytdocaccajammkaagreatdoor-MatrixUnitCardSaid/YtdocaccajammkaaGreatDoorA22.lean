/- Contracts of package matrix,and a verified evaluator. Part 22 of 28. No condition beside the row. -/
import Derived.Outline
import Derived.Test.YtdocaccajammkaaGreatDoorA02
import Derived.Test.YtdocaccajammkaaGreatDoorA11
import Derived.Test.YtdocaccajammkaaGreatDoorA12
import Derived.Test.YtdocaccajammkaaGreatDoorA16
import Derived.Test.YtdocaccajammkaaGreatDoorA21
set_option linter.unusedVariables false
set_option linter.unusedSimpArgs false
set_option maxRecDepth 100000
set_option maxHeartbeats 4000000
namespace Go.Mono
open Go.RowKit
theorem QV.cells {w:World} {v:Value} {q:Rat} (h:QV w v q):∃C:Array Value,v=.agg C∧C.size=4∧C.all (·.oneCell')=true:=by
 obtain⟨p,k,c,p',k',c',rfl,_,_⟩:=h;exact⟨_,rfl,rfl,by simp[Value.oneCell']⟩
end Go.Mono
namespace Go.Proofs.W
open Go.RowKit Go.Mono
theorem Za0:(Tryz.prog.info? 46).map (·.size)=some 4:=Zk
theorem Zjj (C:Array Value) (hC:C.size=4) (h1:C.all (·.oneCell')=true) (w:World) :
  Calls Tryz.prog 163 #[.agg C,.int .i64 0] w λe w'=>e=.returned (.agg C)∧Below w.heap.size w w':=by
 have hi:(Tryz.prog.info? 46).map (·.size)=some C.size:=by rw[hC];exact Za0
 go_enter Tryz.func163,Tryz.ntmps163
 go_step
 go_step
 go_step
 go_step
 go_step
 go_step
 go_step
 go_step
 go_step
 refine Zb8 λW hB hsz b0 b1=>?_;go_wp2_with first|(refine Zac rfl 46 (.tmp 2) rfl w.heap.size rfl 46 C b0 _ Tryz.underlying46 rfl hi ?_)|(refine Zab rfl 46 (.tmp 4) (.tmp 10) rfl (w.heap.size+1) 0 46 _ C C rfl rfl b1 hi (Ybl (by rw[hC];rfl)) h1 (Zah (by rw[hC];rfl)) ?_;intro W2 hk2 b12)
 refine bodyPost_ret (b12.results rfl _ _ rfl Tryz.underlying46 rfl hi) rfl ?_;exact⟨rfl,hk2.below hB Zo Zo⟩
theorem Zoa (z:Int) (w:World):Calls Tryz.prog 143 #[.int .i64 z,.int .i64 0] w λe w'=>e=.returned (.int .i64 z)∧w'=w:=by
 go_enter Tryz.func143,Tryz.ntmps143
 go_wp2
 go_ret
 exact⟨rfl,rfl⟩
theorem Zg5 (n d:Int) (d0:d≠0) (w:World) (a1 : -9223372036854775808<=n) (a2:n<=9223372036854775807) (b1 : -9223372036854775808<=d) (b2:d<=9223372036854775807) :
  Calls Tryz.prog 142 #[.int .i64 n,.int .i64 d] w λe w'=>∃C,e=.returned (.agg C)∧QV w' (.agg C) (Rat.divInt n d)∧Below w.heap.size w w':=by
 go_enter Tryz.func142,Tryz.ntmps142
 go_wp2_with fail
 refine Zby λW hB hs bR=>?_;refine(Zrf n d d0 W a1 a2 b1 b2).mono ?_;rintro e W1 ⟨r,rfl,hr,hb⟩;obtain⟨C,rfl,hC,h1⟩:=hr.cells;have hi:(Tryz.prog.info? 46).map (·.size)=some C.size:=by rw[hC];exact Za0
 replace hB:=Zaa hB hb;replace bR:=bR.below hb;clear hb a1 a2 b1 b2 d0;go_wp2_with first|(go_at_call 163;refine(Zjj C hC h1 _).mono ?_;rintro e W2 ⟨rfl,hb2⟩;have bR2:=bR.below hb2;have lR:=bR.lt)|(refine Zab rfl 46 (.tmp 4) (.tmp 10) rfl w.heap.size 0 46 _ C C rfl rfl bR2 hi (Ybl (by rw[hC];rfl)) h1 (Zah (by rw[hC];rfl)) ?_;intro W3 hk3 b3)
 refine bodyPost_ret (b3.results rfl _ _ rfl Tryz.underlying46 rfl hi) rfl ?_;exact⟨C,rfl,hr.ext ((Ext.of_below hb2).trans (hk3.ext bR2 Zd)),hk3.below (Zaa hB hb2) Zo (by have:=hB.size;have:=hb2.size;omega)⟩
end Go.Proofs.W
namespace Go.Mono
open Go.RowKit
def Lns.vvals (a:Lns) (q:Plc) (k:Int):Array Value:=
 #[.string a.nm,.int .i64 a.di,.int .i64 a.pu,.int .i64 a.st,.int .i64 a.pr,.slice q.pf a.nf q.cf,.slice q.pw a.nw q.cw,.slice q.ps a.ns q.cs,.slice q.pc 0 q.cc,.slice q.pi a.ns q.ci,.int .i64 k]
def Lns.nI (a:Lns) (k s:Nat):Rat:=Rat.divInt (a.ix s k*a.sgn (s+1)) 10000000
def Lns.nB (a:Lns) (k s:Nat):Rat:=if s=0 then Rat.divInt 1 1 else a.nI k (s-1)
theorem Zun {n g:Int} (h1:10000000<=n) (h2:n<=40000000) (hg:g=1∨g = -1) : -40000000<=n*g∧n*g<=40000000:=by
 rcases hg with rfl|rfl<;>omega
end Go.Mono
namespace Go.Proofs.W
open Go.RowKit Go.Mono
theorem Zgg (a:Lns) (ha:a.opt) (q:Plc) (hchk:Chk a q) (s k:Nat) (w:World) (h:OptAt w a q) (s1:s<a.ns) (k1:k<a.nw) :
  Calls Tryz.prog 62 #[.agg (a.vvals q k),.int .i64 (s:Int)] w λe w'=>∃C,e=.returned (.agg C)∧QV w' (.agg C) (a.nI k s)∧Below w.heap.size w w':=by
 have hbe:=λW (hW:Below w.heap.size w W)=>Zrw a q hchk s k W (h.below hW) s1 k1;have hsi:=λW (hW:Below w.heap.size w W)=>Zwr a q hchk s W (h.below hW) s1 Zo ha.base.ns.2;obtain⟨i1,i2⟩:=ha.ir s k s1 k1;have hsg:=a.sgn_cases (s+1);obtain⟨g1,g2⟩:=Zun i1 i2 hsg;have hwr:IntKind.i64.wrap (a.ix s k*a.sgn (s+1))=a.ix s k*a.sgn (s+1):=by rw[Ybi];omega
 have hpo:=λW=>Zg5 (a.ix s k*a.sgn (s+1)) 10000000 Zd W Zo Zo Zd Zd;rw[show Rat.divInt (a.ix s k*a.sgn (s+1)) 10000000=a.nI k s from rfl]at hpo;have s0:¬((s:Int)<0):=Zo;simp only[Lns.ovals]at hbe hsi;simp only[Lns.vvals];generalize a.nI k s=rr at *;generalize a.ix s k=n at *;generalize a.sgn (s+1)=g at *;clear hchk h ha hsg i1 i2;go_enter Tryz.func62,Tryz.ntmps62
 go_wp2_with fail
 refine Zbq λW hB hs bV bR=>?_;refine(hbe W hB).mono ?_;rintro e W1 ⟨rfl,hb⟩;replace hB:=Zaa hB hb;replace bV:=bV.below hb;replace bR:=bR.below hb;have cV:=bV.cell;have lV:=bV.lt;clear hb;go_wp2_with first|(go_at_call 143;refine(Zoa _ _).mono ?_;rintro e w5 ⟨rfl,h5⟩;rw[h5];clear h5 w5)
 refine(hsi W1 hB).mono ?_;rintro e W2 ⟨rfl,hb⟩;replace hB:=Zaa hB hb;replace bR:=bR.below hb;clear hb cV lV bV;go_wp2_with first|(go_at_call 143;refine(Zoa _ _).mono ?_;rintro e w5 ⟨rfl,h5⟩;rw[h5];clear h5 w5)
 refine(hpo W2).mono ?_;rintro e W3 ⟨C,rfl,hr,hb⟩;obtain⟨C',hC',hC,h1⟩:=hr.cells;cases hC';have hi:(Tryz.prog.info? 46).map (·.size)=some C.size:=by rw[hC];exact Za0
 replace hB:=Zaa hB hb;replace bR:=bR.below hb;have lR:=bR.lt;go_wp2_with (refine Zab rfl 46 (.tmp 4) (.tmp 27) rfl (w.heap.size+1) 0 46 _ C C rfl rfl bR hi (Ybl (by rw[hC];rfl)) h1 (Zah (by rw[hC];rfl)) ?_;intro W4 hk4 b4)
 refine bodyPost_ret (b4.results rfl _ _ rfl Tryz.underlying46 rfl hi) rfl ?_;exact⟨C,rfl,hr.ext (hk4.ext bR Zd),hk4.below hB Zo hB.size⟩
theorem Zrx (V:Array Value) (hV:V.size=11) (w:World) :
  Calls Tryz.prog 62 #[.agg V,.int .i64 (-1)] w λe w'=>∃C,e=.returned (.agg C)∧QV w' (.agg C) (Rat.divInt 1 1)∧Below w.heap.size w w':=by
 have hpo:=λW=>Zg5 1 1 Zd W Zd Zd Zd Zd;go_enter Tryz.func62,Tryz.ntmps62
 go_wp2_with fail
 refine Zbq λW hB hs bV bR=>?_;refine(hpo W).mono ?_;rintro e W3 ⟨C,rfl,hr,hb⟩;obtain⟨C',hC',hC,h1⟩:=hr.cells;cases hC';have hi:(Tryz.prog.info? 46).map (·.size)=some C.size:=by rw[hC];exact Za0
 replace hB:=Zaa hB hb;replace bR:=bR.below hb;have lR:=bR.lt;go_wp2_with (refine Zab rfl 46 (.tmp 4) (.tmp 8) rfl (w.heap.size+1) 0 46 _ C C rfl rfl bR hi (Ybl (by rw[hC];rfl)) h1 (Zah (by rw[hC];rfl)) ?_;intro W4 hk4 b4)
 refine bodyPost_ret (b4.results rfl _ _ rfl Tryz.underlying46 rfl hi) rfl ?_;exact⟨C,rfl,hr.ext (hk4.ext bR Zd),hk4.below hB Zo hB.size⟩
end Go.Proofs.W
namespace Go.Mono
open Go.RowKit
section
section
variable {P:Program} {o:Oper} {a:Act} {w:World} {K:Act->World->Prop} {Q:Exit->Act->World->Prop}
end
section
variable {P:Program} {ops:Array Oper} {Q:Exit->Act->World->Prop} {md:Region.Mode} {S:World->Prop}
theorem Zdk (B:Nat) (T:TypeId) (i:Nat) {o:Oper} (hi:ops[i]? = some o) (hg:o.guard=none) (hd:o.dst=none) {ty:TypeId} {x y:Operand} (ho:o.op=.store ty x y) (off:Nat) (cells cs new:Array Value) {a:Act} {fuel:Nat} {listed:Array Bool} {w:World}
  (hr:Region.ready md ops listed=[i]) (hS:∀w i u,S w->S (w.setCell ⟨B,i,none⟩ u)) (hx:a.eval x=.pointer (some ⟨B,off,none⟩)) (hy:a.eval y=.agg cells)
  (hb:Box w B T cs) (hs:S w) (hi2:(P.info? ty).map (·.size)=some cells.size) (hoff:off+cells.size<=cs.size) (h1:cells.all (·.oneCell')=true)
  (hn:cs.toList.take off++cells.toList++cs.toList.drop (off+cells.size)=new.toList)
  (h:∀w',KeepBut B w.heap.size w w'->Box w' B T new->S w'->wpAnyH P md ops Q S fuel (listed.setIfInBounds i true) a w'):wpAnyH P md ops Q S (fuel+1) listed a w:=by
 refine wpAnyH_all hr Zs λj hj=>?_;obtain rfl:j=i:=by simpa using hj
 unfold wpOp;rw[hi];have hw:Region.wanted o (yielded ops a.tmps)=true:=by simp[Region.wanted,hg]
 simp only[hw,if_true];left
 have hb2:=Box.setCells cells.toList off w cs hb (by simpa using hoff);have hb3:Box (w.setCells B off cells.toList) B T new:=by simpa[hn]using hb2
 have hs2:=Zbn hS cells.toList off w hs;refine wp_store_mid ty x y ho B off cells hx hy (hb.there off cells.size hoff) hi2 h1 ?_;rw[hd];exact⟨hs2,h _ ((KeepBut.refl _ _).setCells _ _ _) hb3 hs2⟩
end
end
section
section
variable {P:Program} {ops:Array Oper} {rest:List Oper} {a:Act} {w:World} {Q:Exit->Act->World->Prop} {T0 T1 T2 T3:TypeId} {c0 c1 c2 c3:Array Value}
end
end
theorem QV.four {w:World} {C:Array Value} {q:Rat} (h:QV w (.agg C) q):∃x0 x1 x2 x3:Value,C = #[x0,x1,x2,x3]∧x0.oneCell'=true∧x1.oneCell'=true∧x2.oneCell'=true∧x3.oneCell'=true:=by
 obtain⟨p,k,c,p',k',c',e,_,_⟩:=h;cases e;exact⟨_,_,_,_,rfl,rfl,rfl,rfl,rfl⟩
theorem Zcq {P:Program} {S:World->Prop} {oi:Oper} {a:Act} (t:TypeId) (parts:Array (Nat×Operand)) (ho:oi.op=.build t parts) (cells:Array Value)
  (hc:P.built t (parts.map λ(i,x)=>(i,a.eval x)).toList=some cells):∀w,S w->(execOp a.eval oi).run P w=.ok (.value (.agg cells)) w:=λw _=>by
 unfold execOp;have:=run_build w t (parts.map λ(i,x)=>(i,a.eval x)) cells hc;simp only[ho,Yar];first
  | (simp only[this,Yag,Yau];done)
  | (simp[this,Yag,Yau])
structure MV (w:World) (C:Array Value) (m:Mat):Prop where
 parts:∃a0 a1 a2 a3 b0 b1 b2 b3 c0 c1 c2 c3 d0 d1 d2 d3:Value,C = #[a0,a1,a2,a3,b0,b1,b2,b3,c0,c1,c2,c3,d0,d1,d2,d3]∧
  QV w (.agg #[a0,a1,a2,a3]) m.a∧QV w (.agg #[b0,b1,b2,b3]) m.b∧QV w (.agg #[c0,c1,c2,c3]) m.c∧QV w (.agg #[d0,d1,d2,d3]) m.d
theorem MV.ext {w w':World} {C:Array Value} {m:Mat} (h:MV w C m) (hx:Ext w w'):MV w' C m:=by
 obtain⟨a0,a1,a2,a3,b0,b1,b2,b3,c0,c1,c2,c3,d0,d1,d2,d3,rfl,h1,h2,h3,h4⟩:=h.parts;exact⟨⟨_,_,_,_,_,_,_,_,_,_,_,_,_,_,_,_,rfl,h1.ext hx,h2.ext hx,h3.ext hx,h4.ext hx⟩⟩
theorem MV.size {w:World} {C:Array Value} {m:Mat} (h:MV w C m):C.size=16:=by
 obtain⟨a0,a1,a2,a3,b0,b1,b2,b3,c0,c1,c2,c3,d0,d1,d2,d3,rfl,h1,h2,h3,h4⟩:=h.parts;rfl
theorem QV.ones {w:World} {x0 x1 x2 x3:Value} {q:Rat} (h:QV w (.agg #[x0,x1,x2,x3]) q):x0.oneCell'=true∧x1.oneCell'=true∧x2.oneCell'=true∧x3.oneCell'=true:=by
 obtain⟨y0,y1,y2,y3,e,h0,h1,h2,h3⟩:=h.four;cases e;exact⟨h0,h1,h2,h3⟩
theorem MV.ones {w:World} {C:Array Value} {m:Mat} (h:MV w C m):C.all (·.oneCell')=true:=by
 obtain⟨a0,a1,a2,a3,b0,b1,b2,b3,c0,c1,c2,c3,d0,d1,d2,d3,rfl,h1,h2,h3,h4⟩:=h.parts;obtain⟨x0,x1,x2,x3⟩:=h1.ones;obtain⟨y0,y1,y2,y3⟩:=h2.ones;obtain⟨z0,z1,z2,z3⟩:=h3.ones;obtain⟨u0,u1,u2,u3⟩:=h4.ones;simp[*]
theorem Zx5 (k:Nat):pw k=((10 ^ (9*k):Nat):Int):=by
 induction k with
 | zero=>rfl
 | succ k ih =>
   rw[Za7,ih,show 9*(k+1)=9*k+9 from Zo,Ydn,Ycw];rfl
theorem Hs.fits_of {k n:Nat} {x:Rat} (h:Hs k x) (hn:n=9*600) (hk:k<n):(x.num.natAbs:Int)<pw 600∧(x.den:Int)<pw 600:=by
 have e:pw 600=((10 ^ n:Nat):Int):=by rw[hn];exact Zx5 600
 have hlt:10 ^ k<10 ^ n:=Nat.pow_lt_pow_right Zd hk;rw[e];exact⟨Int.ofNat_lt.2 (Nat.lt_of_le_of_lt h.1 hlt),Int.ofNat_lt.2 (Nat.lt_of_le_of_lt h.2 hlt)⟩
theorem Hs.fits {k:Nat} {x:Rat} (h:Hs k x) (hk:k<=5399):Fits x:=by
 obtain⟨n,hn⟩:∃n,n=9*600:=⟨_,rfl⟩
 exact h.fits_of hn Zo
theorem Box.part {w:World} {B:Nat} {T:TypeId} {cs:Array Value} (b:Box w B T cs) (off:Nat) (part:Array Value) (h:(cs.toList.drop off).take part.size=part.toList):w.rangeAt B off part.toList:=λj v hv=>by
 rw[b.cell,<-Yaq];rw[<-h,Ycv]at hv;split at hv
 ·rw[Yeh]at hv
  exact hv
 ·cases hv
structure MFits (x y:Mat):Prop where
 pr:∀u v,(u=x.a∨u=x.b∨u=x.c∨u=x.d)->(v=y.a∨v=y.b∨v=y.c∨v=y.d)->Fits (u*v)
 a:Fits (x.mul y).a
 b:Fits (x.mul y).b
 c:Fits (x.mul y).c
 d:Fits (x.mul y).d
def QtV (m:Nat) (w:World) (v:Value) (q:Rat):Prop:=∃s p n c s' p' n' c',v=.agg #[.bool s,.slice p n c,.bool s',.slice p' n' c']∧LgV m w (.agg #[.bool s,.slice p n c]) q.num∧LgV m w (.agg #[.bool s',.slice p' n' c']) q.den
theorem QtV.ext {m:Nat} {w w':World} {v:Value} {q:Rat} (h:QtV m w v q) (hx:Ext w w'):QtV m w' v q:=by
 obtain⟨s,p,n,c,s',p',n',c',hv,h1,h2⟩:=h;exact⟨s,p,n,c,s',p',n',c',hv,h1.ext hx,h2.ext hx⟩
theorem QtV.below {m:Nat} {w w':World} {v:Value} {q:Rat} (h:QtV m w v q) (hb:Below w.heap.size w w'):QtV m w' v q:=h.ext (.of_below hb)
theorem QtV.mono {m m':Nat} {w:World} {v:Value} {q:Rat} (h:QtV m w v q) (hm:m<=m'):QtV m' w v q:=by
 obtain⟨s,p,n,c,s',p',n',c',hv,h1,h2⟩:=h;exact⟨s,p,n,c,s',p',n',c',hv,h1.mono hm,h2.mono hm⟩
theorem LgV.sz {m:Nat} {w:World} {s:Bool} {p:Option Addr} {n c:Nat} {z:Int} (h:LgV m w (.agg #[.bool s,.slice p n c]) z):s=decide (z<0)∧Sz m w (.slice p n c) z.natAbs:=by
 obtain⟨p',n',c',f,hv,h1,h2,h3,h4⟩:=h;simp only[Value.agg.injEq,Array.mk.injEq,List.cons.injEq,Value.bool.injEq,Ydm,and_true]at hv;obtain⟨rfl,rfl,rfl,rfl⟩:=hv;exact⟨rfl,n,f,h1,h2,h3,h4⟩
theorem LgV.of_sz {m:Nat} {w:World} {s:Bool} {p:Option Addr} {n c:Nat} {z:Int} (hs:s=decide (z<0)) (h:Sz m w (.slice p n c) z.natAbs):LgV m w (.agg #[.bool s,.slice p n c]) z:=by
 obtain⟨n',f,h1,h2,h3,h4,rfl⟩:=h.sl;exact⟨p,_,c,f,by rw[hs],h1,h2,h3,h4⟩
theorem QtV.qv {w:World} {v:Value} {q:Rat} (h:QtV 600 w v q):QV w v q:=by
 obtain⟨s,p,n,c,s',p',n',c',rfl,h1,h2⟩:=h;obtain⟨rfl,z1⟩:=h1.sz;obtain⟨rfl,z2⟩:=h2.sz;refine⟨p,n,c,p',n',c',?_,z1,by simpa using z2⟩;rw[decide_eq_false (by omega:¬(q.den:Int)<0)]
theorem QV.qt {w:World} {v:Value} {q:Rat} (h:QV w v q):QtV 600 w v q:=by
 obtain⟨p,n,c,p',n',c',rfl,z1,z2⟩:=h;exact⟨_,p,n,c,_,p',n',c',rfl,LgV.of_sz rfl z1,LgV.of_sz (by rw[decide_eq_false Zo]) (by simpa using z2)⟩
end Go.Mono
namespace Go.Proofs.W
open Go.RowKit Go.Mono
theorem Zbu (w:World):(Instr.alloc 44 true (.tuple #[])).run Tryz.prog w=.ok (.pointer (some ⟨w.heap.size,0,none⟩)) (w.alloc (.cells #[.bool false,.slice none 0 0] 44)):=by go_simp
theorem Zr9 (a b:Bool) (p q:Option Addr) (n m c d:Nat):(#[.bool a,.slice p n c,.bool b,.slice q m d]:Array Value).all (·.oneCell')=true:=by simp[Value.oneCell']
theorem Zc6 {m:Nat} {v1 v2:Value} {n d:Int} (w:World) (h1:LgV m w v1 n) (h2:LgV m w v2 d) (hd:0<d) (hm:m<=100000) :
  Calls Tryz.prog 240 #[v1,v2] w λe w'=>∃v,e=.returned v∧QtV m w' v (Rat.divInt n d)∧Below w.heap.size w w':=by
 have hg0:0<Int.gcd n d:=Int.gcd_pos_of_ne_zero_right n Zo;have hnum:(Rat.divInt n d).num=n.tdiv (Int.gcd n d):=by
  rw[Rat.num_divInt,Yeg hd,Yga,Int.gcd_comm d n];exact(Int.tdiv_eq_ediv_of_dvd (Int.gcd_dvd_left ..)).symm
 have hden:((Rat.divInt n d).den:Int)=d.tdiv (Int.gcd n d):=by
  rw[Rat.den_divInt,if_neg Zo,Int.gcd_comm d n,Int.tdiv_eq_ediv_of_dvd (Int.gcd_dvd_right ..)];have:(d.natAbs:Int)=d:=Zo;rw[Int.natCast_ediv,this]
 have hcm:=λ(X:World) (hX:Ext w X)=>Zhb X (h1.ext hX) (h2.ext hX) hm;have hp1:=λ(X:World) (g:Value) (hX:Ext w X) (h:LgV m X g (Int.gcd n d))=>Zcs X (h1.ext hX) h Zo hm hm;have hp2:=λ(X:World) (g:Value) (hX:Ext w X) (h:LgV m X g (Int.gcd n d))=>Zcs X (h2.ext hX) h Zo hm hm;obtain⟨s1,p1,n1,c1,rfl⟩:=h1.parts;have hs2:∃p2 n2 c2,v2=.agg #[.bool false,.slice p2 n2 c2]:=by
  obtain⟨p,k,c,f,rfl,_⟩:=h2;exact⟨p,k,c,by rw[decide_eq_false Zo]⟩
 obtain⟨p2,n2,c2,rfl⟩:=hs2;go_enter Tryz.func240,Tryz.ntmps240
 go_wp2_with fail
 refine Zbw λW hB hs b0 b1 b2=>?_;refine(hcm W (.of_below hB)).mono ?_;rintro e W2 ⟨vg,rfl,hg,hbb⟩;obtain⟨sg,pg,ng,cg,rfl⟩:=hg.parts;replace b0:=b0.below hbb;replace b1:=b1.below hbb;replace b2:=b2.below hbb;have hB2:=Zaa hB hbb;clear hcm hbb hB;go_wp2_with first|(refine Zeg 44 5 _ #[.bool sg,.slice pg ng cg] _ rfl rfl rfl rfl rfl rfl Zbu (by as_aux_lemma=>(intro _;kernel_rfl)) (by as_aux_lemma=>(intro _;kernel_rfl)) Zae rfl (Zap _ _ _ _) ?_;intro W3 B5 _ hB3 b5;replace b0:=b0.below hB3;replace b1:=b1.below hB3;replace b2:=b2.below hB3)|(refine Zac rfl 44 (.tmp 2) rfl w.heap.size Zx 44 #[.bool s1,.slice p1 n1 c1] b0 _ Tryz.underlying44 rfl Zae ?_)|(refine Zac rfl 44 (.tmp 5) rfl B5 Zx 44 #[.bool sg,.slice pg ng cg] b5 _ Tryz.underlying44 rfl Zae ?_)
 refine(hp1 W3 _ (.of_below (Zaa hB2 hB3)) (hg.below hB3)).mono ?_;rintro e W4 ⟨vx,vr,rfl,hx,hr,hb4⟩;obtain⟨sx,px,nx,cx,rfl⟩:=hx.parts;obtain⟨sr,pr,nr,cr,rfl⟩:=hr.parts;replace b1:=b1.below hb4;replace b2:=b2.below hb4;replace b5:=b5.below hb4;have hB4:=Zaa (Zaa hB2 hB3) hb4;have hg4:=(hg.below hB3).below hb4;clear hp1 hg hb4 hB3 b0 hB2;go_wp2_with first|(refine Zcb 44 6 7 _ _ #[.bool sx,.slice px nx cx] #[.bool sr,.slice pr nr cr] _ rfl rfl rfl rfl rfl rfl rfl rfl rfl rfl rfl rfl Zbu (by as_aux_lemma=>(intro _ _;kernel_rfl)) (by as_aux_lemma=>(intro _ _;kernel_rfl)) (by as_aux_lemma=>(intro _ _;kernel_rfl)) (by as_aux_lemma=>(intro _ _;kernel_rfl)) Zae rfl rfl (Zap _ _ _ _) (Zap _ _ _ _) ?_;intro W5 B6 B7 _ _ _ hB5 b6 b7;replace b1:=b1.below hB5;replace b2:=b2.below hB5;replace b5:=b5.below hB5)|(refine Zac rfl 44 (.tmp 3) rfl (w.heap.size+1) Zx 44 #[.bool false,.slice p2 n2 c2] b1 _ Tryz.underlying44 rfl Zae ?_)|(refine Zac rfl 44 (.tmp 5) rfl B5 Zx 44 #[.bool sg,.slice pg ng cg] b5 _ Tryz.underlying44 rfl Zae ?_)
 refine(hp2 W5 _ (.of_below (Zaa hB4 hB5)) (hg4.below hB5)).mono ?_;rintro e W6 ⟨vy,vr2,rfl,hy,hr2,hb6⟩;obtain⟨sy,py,ny,cy,rfl⟩:=hy.parts;obtain⟨sr2,pr2,nr2,cr2,rfl⟩:=hr2.parts;replace b2:=b2.below hb6;replace b6:=b6.below hb6;have hB6:=Zaa (Zaa hB4 hB5) hb6;have hx6:=(hx.below hB5).below hb6;clear hp2 hg4 hb6 hB5 hB4 b1 b5 b7 hx hr hr2;rw[<-hnum]at hx6;rw[<-hden]at hy;clear hnum hden h1 h2 hg0;go_wp2_with first|(refine Zac rfl 44 (.tmp 6) rfl B6 Zx 44 #[.bool sx,.slice px nx cx] b6 _ Tryz.underlying44 rfl Zae ?_)|(refine Zac rfl 44 (.tmp 8) rfl B8 Zx 44 #[.bool sy,.slice py ny cy] b8 _ Tryz.underlying44 rfl Zae ?_)|(refine Zak rfl 46 _ rfl #[.bool sx,.slice px nx cx,.bool sy,.slice py ny cy] Zx ?_)|(refine Zab rfl 46 (.tmp 4) _ rfl (w.heap.size+1+1) 0 46 _ #[.bool sx,.slice px nx cx,.bool sy,.slice py ny cy] #[.bool sx,.slice px nx cx,.bool sy,.slice py ny cy] rfl rfl b2 Za0 (Yaa rfl) (Zr9 _ _ _ _ _ _ _ _) (Zah rfl) ?_;intro W8 hk b4)|(refine Zcb 44 8 9 _ _ #[.bool sy,.slice py ny cy] #[.bool sr2,.slice pr2 nr2 cr2] _ rfl rfl rfl rfl rfl rfl rfl rfl rfl rfl rfl rfl Zbu (by as_aux_lemma=>(intro _ _;kernel_rfl)) (by as_aux_lemma=>(intro _ _;kernel_rfl)) (by as_aux_lemma=>(intro _ _;kernel_rfl)) (by as_aux_lemma=>(intro _ _;kernel_rfl)) Zae rfl rfl (Zap _ _ _ _) (Zap _ _ _ _) ?_;intro W7 B8 B9 _ _ _ hB7 b8 b9;replace b2:=b2.below hB7;replace b6:=b6.below hB7)
 have hB8:=Zaa hB6 hB7;have hb8:=hk.below hB8 Zo hB8.size;have he:=hk.ext b2 Zd;refine bodyPost_ret (b4.results rfl _ _ rfl Tryz.underlying46 rfl Za0) rfl ⟨_,rfl,⟨_,_,_,_,_,_,_,_,rfl,(hx6.below hB7).ext he,(hy.below hB7).ext he⟩,hb8⟩
section
open Go.Ex
def kF:Nat->Value:=λ_=>.bool false
theorem kF1 (i:Nat):(kF i).oneCell'=true:=rfl
theorem Zwp {K:Nat->Value} {hK:∀i,(K i).oneCell'=true} {ρ:Nm} {w:World} {bk:List (Nat×Blk)} (hB:BkOk (qDen K hK) ρ w w bk) {u:U} {v:Value} (hu:denU (qDen K hK) ρ w u [v]) {n:Nat} {us:List U} (h:rdU bk 1 u=some (n,us)) {z:Int} (hz:intsU us=some (List.replicate n z)) :
  ∃p c,v=.slice p n c∧RdF w p n c (λ_=>z):=by
 obtain⟨p,c,ds,rfl,a1,b1,l1,m1,r1⟩:=Zf2 hB hu h;obtain rfl:=Zc5 hz l1;refine⟨p,c,rfl,a1,Zo,λhn=>?_⟩;obtain⟨b,off,q1,q2,q3⟩:=r1 hn Zd;exact⟨b,off,q1,q2,λi hi=>q3 i _ (by simp[List.getElem?_replicate,hi])⟩
theorem Zdv (n:Nat) (hn:0<n) (hev:∀w:World,(evF Tryz.prog (w0:=w) (X:=λ_=>False) (D:=qDen kF kF1) [] [] 5 [] 234 [.one (.sli 0 0 1),.one (.val (.int .i64 n))] [(0,⟨3,[.val (.int .i64 10000000)],true,false,false⟩)] 1 1 []).map (λr=>(r.v,r.obl,r.wr,r.pan)) =
   some (.a (.one (.slc 1 0 n n)),[],[(1,⟨3,List.replicate n (.val (.int .i64 10000000)),false,false,false⟩)],none)) (hz:rdU [(1,⟨3,List.replicate n (.val (.int .i64 10000000)),false,false,false⟩),(0,⟨3,[.val (.int .i64 10000000)],true,false,false⟩)] 1 (.slc 1 0 n n)=some (n,List.replicate n (.val (.int .i64 10000000))))
   (hi:intsU (List.replicate n (.val (.int .i64 10000000)))=some (List.replicate n 10000000))
  (p:Option Addr) (c:Nat) (w:World) (h:RdF w p 1 c (λ_=>10000000)) :
  Calls Tryz.prog 234 #[.slice p 1 c,.int .i64 n] w λe w'=>∃p' c',e=.returned (.slice p' n c')∧RdF w' p' n c' (λ_=>10000000)∧Below w.heap.size w w':=by
 obtain⟨h1,h2,h3⟩:=h;obtain⟨b,off,rfl,hb,hc⟩:=h3 Zd;refine(Zky (D:=qDen kF kF1) (vs:=[⟨3,[.val (.int .i64 10000000)],b,off,[.int .i64 10000000]⟩]) (args:=[.one (.sli 0 0 1),.one (.val (.int .i64 n))]) (vals:=[.slice (some ⟨b,off,none⟩) 1 c,.int .i64 n]) Zdt [] [] _ rfl rfl _ [] _ (hev w) trivial ?_ ?_).mono ?_
 ·intro v hv
  obtain rfl:v=_:=by simpa using hv
  refine⟨hb,λj x hj=>?_,⟨_,[],rfl,⟨rfl,rfl⟩,rfl⟩⟩;have:j=0:=by
   have:=(Yan.1 hj).1;simpa using this
  subst this;obtain rfl:Value.int .i64 10000000=x:=by simpa using hj
  exact hc 0 Zd
 ·exact⟨_,_,rfl,⟨⟨b,off,true,0,0⟩,c,rfl,h1,rfl⟩,_,_,rfl,⟨rfl,rfl⟩,rfl⟩
 ·rintro e w' ⟨v,ρ',rfl,hv,hbl,_,hB,_⟩
  obtain⟨p',c',rfl,hr⟩:=Zwp hB (u:=.slc 1 0 n n) hv (us:=List.replicate n (.val (.int .i64 10000000))) hz hi;exact⟨_,_,rfl,hr,hbl⟩
theorem Zpi (n:Nat) (h0:1<=n) (h5:n<=5) (p:Option Addr) (c:Nat) (w:World) (h:RdF w p 1 c (λ_=>10000000)) :
  Calls Tryz.prog 234 #[.slice p 1 c,.int .i64 n] w λe w'=>∃p' c',e=.returned (.slice p' n c')∧RdF w' p' n c' (λ_=>10000000)∧Below w.heap.size w w':=by
 rcases(by omega:n=1∨n=2∨n=3∨n=4∨n=5) with rfl|rfl|rfl|rfl|rfl
 ·exact Zdv 1 Zd (λw=>Zk) rfl rfl p c w h
 ·exact Zdv 2 Zd (λw=>Zk) rfl rfl p c w h
 ·exact Zdv 3 Zd (λw=>Zk) rfl rfl p c w h
 ·exact Zdv 4 Zd (λw=>Zk) rfl rfl p c w h
 ·exact Zdv 5 Zd (λw=>Zk) rfl rfl p c w h
theorem Zwq (n:Nat) (h0:1<=n) (h5:n<=5) (M:Nat) (pw:Option Addr) (cw:Nat) (w:World) (hw:w.cell? ⟨M,6,none⟩=some (.slice pw n cw)) :
  Calls Tryz.prog 201 #[.pointer (some ⟨M,0,none⟩)] w λe w'=>∃p' c',e=.returned (.slice p' n c')∧RdF w' p' n c' (λ_=>10000000)∧Below w.heap.size w w':=by
 have hlt:M<w.heap.size:=block_lt_of_cell hw;go_enter Tryz.func201,Tryz.ntmps201
 go_wp2_with fail
 refine Zby λW hB hs b0=>?_;refine(Zpi n h0 h5 _ _ W (.box b0 0 1 _ (λi hi=>by obtain rfl:i=0:=(Zo);rfl) Zo)).mono ?_;rintro e w' ⟨p',c',rfl,hr,hb⟩;go_wp2
 go_ret
 exact⟨_,_,rfl,hr,Zaa hB hb⟩
theorem Zji (a:Lns) (ha:a.opt) (q:Plc) (w:World) (h:OptAt w a q) :
  Calls Tryz.prog 138 #[.agg (a.ovals q)] w λe w'=>e=.returned (.int .i64 0)∧Below w.heap.size w w':=
 Zrt a ha q w h λM W hw=>Zwq a.nw ha.base.nw.1 ha.base.nw.2 M q.pw q.cw W hw
end
end Go.Proofs.W
namespace Go.Mono
open Go.RowKit
def qc (q:Rat) (p:Option Addr) (k c:Nat) (p':Option Addr) (k' c':Nat):Array Value:=#[.bool (decide (q.num<0)),.slice p k c,.bool false,.slice p' k' c']
def BoxQ (w:World) (B:Nat) (T:TypeId) (q:Rat):Prop:=∃p k c p' k' c',Box w B T #[.bool (decide (q.num<0)),.slice p k c,.bool false,.slice p' k' c']∧QV w (.agg #[.bool (decide (q.num<0)),.slice p k c,.bool false,.slice p' k' c']) q
theorem BoxQ.below {w w':World} {B:Nat} {T:TypeId} {q:Rat} (h:BoxQ w B T q) (hB:Below w.heap.size w w'):BoxQ w' B T q:=by
 obtain⟨p,k,c,p',k',c',b,r⟩:=h;exact⟨p,k,c,p',k',c',b.below hB,r.ext (.of_below hB)⟩
theorem Zjk {w:World} {T:TypeId} {q:Rat} {p:Option Addr} {k c:Nat} {p':Option Addr} {k' c':Nat} (r:QV w (.agg #[.bool (decide (q.num<0)),.slice p k c,.bool false,.slice p' k' c']) q) :
  BoxQ (w.alloc (.cells #[.bool (decide (q.num<0)),.slice p k c,.bool false,.slice p' k' c'] T)) w.heap.size T q:=
 ⟨p,k,c,p',k',c',Box.new _ _ _,r.ext ((Ext.refl _).alloc _)⟩
theorem Zjl {w:World} {B:Nat} {T:TypeId} {q:Rat} {p:Option Addr} {k c:Nat} {p':Option Addr} {k' c':Nat} {o0 o1 o2 o3:Value} (hT:T≠3) (b:Box w B T #[o0,o1,o2,o3]) (r:QV w (.agg #[.bool (decide (q.num<0)),.slice p k c,.bool false,.slice p' k' c']) q) :
  BoxQ ((((w.setCell ⟨B,0,none⟩ (.bool (decide (q.num<0)))).setCell ⟨B,1,none⟩ (.slice p k c)).setCell ⟨B,2,none⟩ (.bool false)).setCell ⟨B,3,none⟩ (.slice p' k' c')) B T q:=by
 have b1:=b.set 0 (.bool (decide (q.num<0)));have b2:=b1.set 1 (.slice p k c);have b3:=b2.set 2 (.bool false);have b4:=b3.set 3 (.slice p' k' c');exact⟨p,k,c,p',k',c',b4,r.ext (((((Ext.refl w).set b hT 0 _).set b1 hT 1 _).set b2 hT 2 _).set b3 hT 3 _)⟩
def Lns.step (a:Lns) (k s:Nat):Rat:=a.nI k s-a.nB k s
def Lns.cv (a:Lns) (s:Nat):Rat:=Rat.divInt (a.S s).curv 1000000000
def Lns.gr (a:Lns) (k s:Nat):Rat:=Rat.divInt (2*(a.S s).order*(a.S s).p0) 10000000*Rat.divInt (a.L k) 10000000
def Lns.pow (a:Lns) (k s:Nat):Rat:=if(a.S s).kind=3 then Rat.divInt 0 1 else if(a.S s).kind=4 then a.cv s else a.cv s*a.step k s-a.gr k s
end Go.Mono
namespace Go.Proofs.W
open Go.RowKit Go.Mono
theorem Zws (V:Array Value) (s:Int) (w:World) :
  Calls Tryz.prog 345 #[.agg V,.int .i64 s] w λe w'=>∃C,e=.returned (.agg C)∧QV w' (.agg C) (Rat.divInt 0 1)∧Below w.heap.size w w':=by
 have hpo:=λW=>Zg5 0 1 Zd W Zd Zd Zd Zd;go_enter Tryz.func345,Tryz.ntmps345
 go_wp2_with fail
 refine Zbq λW hB hs bV bR=>?_;refine(hpo W).mono ?_;rintro e W3 ⟨C,rfl,hr,hb⟩;obtain⟨C',hC',hC,h1⟩:=hr.cells;cases hC';have hi:(Tryz.prog.info? 46).map (·.size)=some C.size:=by rw[hC];exact Za0
 replace hB:=Zaa hB hb;replace bR:=bR.below hb;have lR:=bR.lt;go_wp2_with (refine Zab rfl 46 (.tmp 4) (.tmp 5) rfl (w.heap.size+1) 0 46 _ C C rfl rfl bR hi (Ybl (by rw[hC];rfl)) h1 (Zah (by rw[hC];rfl)) ?_;intro W4 hk4 b4)
 refine bodyPost_ret (b4.results rfl _ _ rfl Tryz.underlying46 rfl hi) rfl ?_;exact⟨C,rfl,hr.ext (hk4.ext bR Zd),hk4.below hB Zo hB.size⟩
theorem Zuo (a:Lns) (q:Plc) (s k:Nat) (w:World) (h:OptAt w a q) (s1:s<a.ns) (hc1 : -1000000000<=(a.S s).curv) (hc2:(a.S s).curv<=1000000000) :
  Calls Tryz.prog 346 #[.agg (a.vvals q k),.int .i64 (s:Int)] w λe w'=>∃C,e=.returned (.agg C)∧QV w' (.agg C) (a.cv s)∧Below w.heap.size w w':=by
 have hpo:=λW=>Zg5 (a.S s).curv 1000000000 Zd W Zo Zo Zd Zd;rw[show Rat.divInt (a.S s).curv 1000000000=a.cv s from rfl]at hpo;obtain⟨b,off,hps,hbl,hcell⟩:=h.surfs.2.2 Zo;have f1:w.cell? ⟨b,off+s*22+1,none⟩=some (.int .i64 (a.S s).curv):=hcell s 1 s1 Zo;simp only[Lns.vvals];rw[hps];have s1':(s:Int)<a.ns:=Zo;clear hcell h hc1 hc2;generalize (a.S s).curv=cu at *;generalize a.cv s=rr at *;go_enter Tryz.func346,Tryz.ntmps346
 go_wp2_with fail
 refine Zbq λW hB hs bV bR=>?_;refine(hpo W).mono ?_;rintro e W3 ⟨C,rfl,hr,hb⟩;obtain⟨C',hC',hC,h1⟩:=hr.cells;cases hC';have hi:(Tryz.prog.info? 46).map (·.size)=some C.size:=by rw[hC];exact Za0
 replace hB:=Zaa hB hb;replace bR:=bR.below hb;have lR:=bR.lt;go_wp2_with (refine Zab rfl 46 (.tmp 4) (.tmp 13) rfl (w.heap.size+1) 0 46 _ C C rfl rfl bR hi (Ybl (by rw[hC];rfl)) h1 (Zah (by rw[hC];rfl)) ?_;intro W4 hk4 b4)
 refine bodyPost_ret (b4.results rfl _ _ rfl Tryz.underlying46 rfl hi) rfl ?_;exact⟨C,rfl,hr.ext (hk4.ext bR Zd),hk4.below hB Zo hB.size⟩
theorem Zry (a:Lns) (ha:a.opt) (q:Plc) (hchk:Chk a q) (s k:Nat) (w:World) (h:OptAt w a q) (s1:s<a.ns) (k1:k<a.nw) :
  Calls Tryz.prog 62 #[.agg (a.vvals q k),.int .i64 ((s:Int)-1)] w λe w'=>∃C,e=.returned (.agg C)∧QV w' (.agg C) (a.nB k s)∧Below w.heap.size w w':=by
 cases s with
 | zero=>exact Zrx _ rfl w
 | succ t =>
   rw[show((t+1:Nat):Int)-1=(t:Int) by omega];have:=Zgg a ha q hchk t k w h Zo k1;simpa[Lns.nB]using this
end Go.Proofs.W
namespace Go.Mono
open Go.RowKit
section
def KR (R:Nat) (W w:World):Prop:=KeepBut R W.heap.size W w∧∀o,o<4->w.cell? ⟨R,o,none⟩=W.cell? ⟨R,o,none⟩
section
variable {R:Nat} {W w w':World}
theorem KR.refl (R:Nat) (W:World):KR R W W:=⟨KeepBut.refl _ _,λ_ _=>rfl⟩
theorem KR.drew (h:KR R W w):KR R W w.drew:=⟨h.1.drew,h.2⟩
theorem KR.call (h:KR R W w) (hR:R<W.heap.size) (hb:Below w.heap.size w w'):KR R W w':=
 ⟨h.1.call hb,λo ho=>(hb.cell (p:=⟨R,o,none⟩) (Yaf hR h.1.size)).trans (h.2 o ho)⟩
theorem KR.alloc (h:KR R W w) (hR:R<W.heap.size) (x:Obj):KR R W (w.alloc x):=h.call hR ((Yae _ _).alloc (Yab _) x)
theorem KR.set (h:KR R W w) (i:Nat) (hi:4<=i) (u:Value):KR R W (w.setCell ⟨R,i,none⟩ u):=
 ⟨h.1.set i u,λo ho=>(Yet _ _ _ _ (by intro e;have:=congrArg Addr.off e;simp at this;omega)).trans (h.2 o ho)⟩
theorem KR.ext (h:KR R W w) {T:TypeId} {cs:Array Value} (hb:Box W R T cs) (hT:T≠3):Ext W w:=h.1.ext hb hT
theorem KR.S (h:KR R W w):(∀b o,b<W.heap.size->b≠R->w.cell? ⟨b,o,none⟩=W.cell? ⟨b,o,none⟩)∧(∀o,o<4->w.cell? ⟨R,o,none⟩=W.cell? ⟨R,o,none⟩)∧KR R W w:=⟨h.1.cell,h.2,h⟩
end
theorem KeepBut.of_below {R:Nat} {w W w':World} (hB:Below w.heap.size w W) (h:KeepBut R W.heap.size W w'):KeepBut R w.heap.size w w':=
 ⟨h.os.trans hB.os,h.tape.trans hB.tape,h.output.trans hB.output,Yak hB.size h.size,λk hk hR=>(h.block k (Yaf hk hB.size) hR).trans (hB.block k hk)⟩
section
variable {w:World} {R:Nat} {T:TypeId} {y u:Rat} {p:Option Addr} {k c:Nat} {p':Option Addr} {k' c':Nat} {r:Option Addr} {l d:Nat} {r':Option Addr} {l' d':Nat} {o0 o1 o2 o3:Value}
end
end
end Go.Mono
