/- Contracts of package matrix,and a verified evaluator. Part 23 of 27. No condition beside the row. -/
import Derived.Outline
import Derived.Test.YtgkmjekkefmejaaGreatDoorA02
import Derived.Test.YtgkmjekkefmejaaGreatDoorA12
import Derived.Test.YtgkmjekkefmejaaGreatDoorA13
import Derived.Test.YtgkmjekkefmejaaGreatDoorA17
import Derived.Test.YtgkmjekkefmejaaGreatDoorA22
set_option linter.unusedVariables false
set_option linter.unusedSimpArgs false
set_option maxRecDepth 100000
set_option maxHeartbeats 4000000
namespace Go.Mono
open Go.RowKit
def QtV (m:Nat) (w:World) (v:Value) (q:Rat):Prop:=∃s p n c s' p' n' c',v=.agg #[.bool s,.slice p n c,.bool s',.slice p' n' c']∧LgV m w (.agg #[.bool s,.slice p n c]) q.num∧LgV m w (.agg #[.bool s',.slice p' n' c']) q.den
theorem QtV.ext {m:Nat} {w w':World} {v:Value} {q:Rat} (h:QtV m w v q) (hx:Ext w w'):QtV m w' v q:=by
 obtain⟨s,p,n,c,s',p',n',c',hv,h1,h2⟩:=h;exact⟨s,p,n,c,s',p',n',c',hv,h1.ext hx,h2.ext hx⟩
theorem QtV.below {m:Nat} {w w':World} {v:Value} {q:Rat} (h:QtV m w v q) (hb:Below w.heap.size w w'):QtV m w' v q:=h.ext (.of_below hb)
theorem QtV.mono {m m':Nat} {w:World} {v:Value} {q:Rat} (h:QtV m w v q) (hm:m<=m'):QtV m' w v q:=by
 obtain⟨s,p,n,c,s',p',n',c',hv,h1,h2⟩:=h;exact⟨s,p,n,c,s',p',n',c',hv,h1.mono hm,h2.mono hm⟩
theorem LgV.sz {m:Nat} {w:World} {s:Bool} {p:Option Addr} {n c:Nat} {z:Int} (h:LgV m w (.agg #[.bool s,.slice p n c]) z):s=decide (z<0)∧Sz m w (.slice p n c) z.natAbs:=by
 obtain⟨p',n',c',f,hv,h1,h2,h3,h4⟩:=h;simp only[Value.agg.injEq,Array.mk.injEq,List.cons.injEq,Value.bool.injEq,Ydm,and_true]at hv;obtain⟨rfl,rfl,rfl,rfl⟩:=hv;exact⟨rfl,n,f,h1,h2,h3,h4⟩
theorem LgV.of_sz {m:Nat} {w:World} {s:Bool} {p:Option Addr} {n c:Nat} {z:Int} (hs:s=decide (z<0)) (h:Sz m w (.slice p n c) z.natAbs):LgV m w (.agg #[.bool s,.slice p n c]) z:=by
 obtain⟨n',f,h1,h2,h3,h4,rfl⟩:=h.sl;exact⟨p,_,c,f,by rw[hs],h1,h2,h3,h4⟩
theorem QtV.qv {w:World} {v:Value} {q:Rat} (h:QtV 600 w v q):QV w v q:=by
 obtain⟨s,p,n,c,s',p',n',c',rfl,h1,h2⟩:=h;obtain⟨rfl,z1⟩:=h1.sz;obtain⟨rfl,z2⟩:=h2.sz;refine⟨p,n,c,p',n',c',?_,z1,by simpa using z2⟩;rw[decide_eq_false (by omega:¬(q.den:Int)<0)]
theorem QV.qt {w:World} {v:Value} {q:Rat} (h:QV w v q):QtV 600 w v q:=by
 obtain⟨p,n,c,p',n',c',rfl,z1,z2⟩:=h;exact⟨_,p,n,c,_,p',n',c',rfl,LgV.of_sz rfl z1,LgV.of_sz (by rw[decide_eq_false Zo]) (by simpa using z2)⟩
end Go.Mono
namespace Go.Proofs.W
open Go.RowKit Go.Mono
theorem Zbv (w:World):(Instr.alloc 45 true (.tuple #[])).run Tryz.prog w=.ok (.pointer (some ⟨w.heap.size,0,none⟩)) (w.alloc (.cells #[.bool false,.slice none 0 0] 45)):=by go_simp
theorem Zst (a b:Bool) (p q:Option Addr) (n m c d:Nat):(#[.bool a,.slice p n c,.bool b,.slice q m d]:Array Value).all (·.oneCell')=true:=by simp[Value.oneCell']
theorem Zc0 {m:Nat} {v1 v2:Value} {n d:Int} (w:World) (h1:LgV m w v1 n) (h2:LgV m w v2 d) (hd:0<d) (hm:m<=100000) :
  Calls Tryz.prog 284 #[v1,v2] w λe w'=>∃v,e=.returned v∧QtV m w' v (Rat.divInt n d)∧Below w.heap.size w w':=by
 have hg0:0<Int.gcd n d:=Int.gcd_pos_of_ne_zero_right n Zo;have hnum:(Rat.divInt n d).num=n.tdiv (Int.gcd n d):=by
  rw[Rat.num_divInt,Yeg hd,Yga,Int.gcd_comm d n];exact(Int.tdiv_eq_ediv_of_dvd (Int.gcd_dvd_left ..)).symm
 have hden:((Rat.divInt n d).den:Int)=d.tdiv (Int.gcd n d):=by
  rw[Rat.den_divInt,if_neg Zo,Int.gcd_comm d n,Int.tdiv_eq_ediv_of_dvd (Int.gcd_dvd_right ..)];have:(d.natAbs:Int)=d:=Zo;rw[Int.natCast_ediv,this]
 have hcm:=λ(X:World) (hX:Ext w X)=>Zha X (h1.ext hX) (h2.ext hX) hm;have hp1:=λ(X:World) (g:Value) (hX:Ext w X) (h:LgV m X g (Int.gcd n d))=>Zco X (h1.ext hX) h Zo hm hm;have hp2:=λ(X:World) (g:Value) (hX:Ext w X) (h:LgV m X g (Int.gcd n d))=>Zco X (h2.ext hX) h Zo hm hm;obtain⟨s1,p1,n1,c1,rfl⟩:=h1.parts;have hs2:∃p2 n2 c2,v2=.agg #[.bool false,.slice p2 n2 c2]:=by
  obtain⟨p,k,c,f,rfl,_⟩:=h2;exact⟨p,k,c,by rw[decide_eq_false Zo]⟩
 obtain⟨p2,n2,c2,rfl⟩:=hs2;go_enter Tryz.func284,Tryz.ntmps284
 go_wp2_with fail
 refine Zbx λW hB hs b0 b1 b2=>?_;refine(hcm W (.of_below hB)).mono ?_;rintro e W2 ⟨vg,rfl,hg,hbb⟩;obtain⟨sg,pg,ng,cg,rfl⟩:=hg.parts;replace b0:=b0.below hbb;replace b1:=b1.below hbb;replace b2:=b2.below hbb;have hB2:=Zaa hB hbb;clear hcm hbb hB;go_wp2_with first|(refine Zeb 45 5 _ #[.bool sg,.slice pg ng cg] _ rfl rfl rfl rfl rfl rfl Zbv (by as_aux_lemma=>(intro _;kernel_rfl)) (by as_aux_lemma=>(intro _;kernel_rfl)) Zae rfl (Zal _ _ _ _) ?_;intro W3 B5 _ hB3 b5;replace b0:=b0.below hB3;replace b1:=b1.below hB3;replace b2:=b2.below hB3)|(refine Zac rfl 45 (.tmp 2) rfl w.heap.size Zx 45 #[.bool s1,.slice p1 n1 c1] b0 _ Tryz.underlying45 rfl Zae ?_)|(refine Zac rfl 45 (.tmp 5) rfl B5 Zx 45 #[.bool sg,.slice pg ng cg] b5 _ Tryz.underlying45 rfl Zae ?_)
 refine(hp1 W3 _ (.of_below (Zaa hB2 hB3)) (hg.below hB3)).mono ?_;rintro e W4 ⟨vx,vr,rfl,hx,hr,hb4⟩;obtain⟨sx,px,nx,cx,rfl⟩:=hx.parts;obtain⟨sr,pr,nr,cr,rfl⟩:=hr.parts;replace b1:=b1.below hb4;replace b2:=b2.below hb4;replace b5:=b5.below hb4;have hB4:=Zaa (Zaa hB2 hB3) hb4;have hg4:=(hg.below hB3).below hb4;clear hp1 hg hb4 hB3 b0 hB2;go_wp2_with first|(refine Zcc 45 6 7 _ _ #[.bool sx,.slice px nx cx] #[.bool sr,.slice pr nr cr] _ rfl rfl rfl rfl rfl rfl rfl rfl rfl rfl rfl rfl Zbv (by as_aux_lemma=>(intro _ _;kernel_rfl)) (by as_aux_lemma=>(intro _ _;kernel_rfl)) (by as_aux_lemma=>(intro _ _;kernel_rfl)) (by as_aux_lemma=>(intro _ _;kernel_rfl)) Zae rfl rfl (Zal _ _ _ _) (Zal _ _ _ _) ?_;intro W5 B6 B7 _ _ _ hB5 b6 b7;replace b1:=b1.below hB5;replace b2:=b2.below hB5;replace b5:=b5.below hB5)|(refine Zac rfl 45 (.tmp 3) rfl (w.heap.size+1) Zx 45 #[.bool false,.slice p2 n2 c2] b1 _ Tryz.underlying45 rfl Zae ?_)|(refine Zac rfl 45 (.tmp 5) rfl B5 Zx 45 #[.bool sg,.slice pg ng cg] b5 _ Tryz.underlying45 rfl Zae ?_)
 refine(hp2 W5 _ (.of_below (Zaa hB4 hB5)) (hg4.below hB5)).mono ?_;rintro e W6 ⟨vy,vr2,rfl,hy,hr2,hb6⟩;obtain⟨sy,py,ny,cy,rfl⟩:=hy.parts;obtain⟨sr2,pr2,nr2,cr2,rfl⟩:=hr2.parts;replace b2:=b2.below hb6;replace b6:=b6.below hb6;have hB6:=Zaa (Zaa hB4 hB5) hb6;have hx6:=(hx.below hB5).below hb6;clear hp2 hg4 hb6 hB5 hB4 b1 b5 b7 hx hr hr2;rw[<-hnum]at hx6;rw[<-hden]at hy;clear hnum hden h1 h2 hg0;go_wp2_with first|(refine Zac rfl 45 (.tmp 6) rfl B6 Zx 45 #[.bool sx,.slice px nx cx] b6 _ Tryz.underlying45 rfl Zae ?_)|(refine Zac rfl 45 (.tmp 8) rfl B8 Zx 45 #[.bool sy,.slice py ny cy] b8 _ Tryz.underlying45 rfl Zae ?_)|(refine Zao rfl 47 _ rfl #[.bool sx,.slice px nx cx,.bool sy,.slice py ny cy] Zx ?_)|(refine Zab rfl 47 (.tmp 4) _ rfl (w.heap.size+1+1) 0 47 _ #[.bool sx,.slice px nx cx,.bool sy,.slice py ny cy] #[.bool sx,.slice px nx cx,.bool sy,.slice py ny cy] rfl rfl b2 Zax (Yaa rfl) (Zst _ _ _ _ _ _ _ _) (Zag rfl) ?_;intro W8 hk b4)|(refine Zcc 45 8 9 _ _ #[.bool sy,.slice py ny cy] #[.bool sr2,.slice pr2 nr2 cr2] _ rfl rfl rfl rfl rfl rfl rfl rfl rfl rfl rfl rfl Zbv (by as_aux_lemma=>(intro _ _;kernel_rfl)) (by as_aux_lemma=>(intro _ _;kernel_rfl)) (by as_aux_lemma=>(intro _ _;kernel_rfl)) (by as_aux_lemma=>(intro _ _;kernel_rfl)) Zae rfl rfl (Zal _ _ _ _) (Zal _ _ _ _) ?_;intro W7 B8 B9 _ _ _ hB7 b8 b9;replace b2:=b2.below hB7;replace b6:=b6.below hB7)
 have hB8:=Zaa hB6 hB7;have hb8:=hk.below hB8 Zo hB8.size;have he:=hk.ext b2 Zd;refine bodyPost_ret (b4.results rfl _ _ rfl Tryz.underlying47 rfl Zax) rfl ⟨_,rfl,⟨_,_,_,_,_,_,_,_,rfl,(hx6.below hB7).ext he,(hy.below hB7).ext he⟩,hb8⟩
section
open Go.Ex
def kF:Nat->Value:=λ_=>.bool false
theorem kF1 (i:Nat):(kF i).oneCell'=true:=rfl
theorem Zxm {K:Nat->Value} {hK:∀i,(K i).oneCell'=true} {ρ:Nm} {w:World} {bk:List (Nat×Blk)} (hB:BkOk (qDen K hK) ρ w w bk) {u:U} {v:Value} (hu:denU (qDen K hK) ρ w u [v]) {n:Nat} {us:List U} (h:rdU bk 1 u=some (n,us)) {z:Int} (hz:intsU us=some (List.replicate n z)) :
  ∃p c,v=.slice p n c∧RdF w p n c (λ_=>z):=by
 obtain⟨p,c,ds,rfl,a1,b1,l1,m1,r1⟩:=Zfz hB hu h;obtain rfl:=Zcz hz l1;refine⟨p,c,rfl,a1,Zo,λhn=>?_⟩;obtain⟨b,off,q1,q2,q3⟩:=r1 hn Zd;exact⟨b,off,q1,q2,λi hi=>q3 i _ (by simp[List.getElem?_replicate,hi])⟩
theorem Zdp (n:Nat) (hn:0<n) (hev:∀w:World,(evF Tryz.prog (w0:=w) (X:=λ_=>False) (D:=qDen kF kF1) [] [] 5 [] 184 [.one (.sli 0 0 1),.one (.val (.int .i64 n))] [(0,⟨3,[.val (.int .i64 10000000)],true,false,false⟩)] 1 1 []).map (λr=>(r.v,r.obl,r.wr,r.pan)) =
   some (.a (.one (.slc 1 0 n n)),[],[(1,⟨3,List.replicate n (.val (.int .i64 10000000)),false,false,false⟩)],none)) (hz:rdU [(1,⟨3,List.replicate n (.val (.int .i64 10000000)),false,false,false⟩),(0,⟨3,[.val (.int .i64 10000000)],true,false,false⟩)] 1 (.slc 1 0 n n)=some (n,List.replicate n (.val (.int .i64 10000000))))
   (hi:intsU (List.replicate n (.val (.int .i64 10000000)))=some (List.replicate n 10000000))
  (p:Option Addr) (c:Nat) (w:World) (h:RdF w p 1 c (λ_=>10000000)) :
  Calls Tryz.prog 184 #[.slice p 1 c,.int .i64 n] w λe w'=>∃p' c',e=.returned (.slice p' n c')∧RdF w' p' n c' (λ_=>10000000)∧Below w.heap.size w w':=by
 obtain⟨h1,h2,h3⟩:=h;obtain⟨b,off,rfl,hb,hc⟩:=h3 Zd;refine(Zfy (D:=qDen kF kF1) (vs:=[⟨3,[.val (.int .i64 10000000)],b,off,[.int .i64 10000000]⟩]) (args:=[.one (.sli 0 0 1),.one (.val (.int .i64 n))]) (vals:=[.slice (some ⟨b,off,none⟩) 1 c,.int .i64 n]) Zde [] [] _ rfl rfl _ [] _ (hev w) trivial ?_ ?_).mono ?_
 ·intro v hv
  obtain rfl:v=_:=by simpa using hv
  refine⟨hb,λj x hj=>?_,⟨_,[],rfl,⟨rfl,rfl⟩,rfl⟩⟩;have:j=0:=by
   have:=(Yan.1 hj).1;simpa using this
  subst this;obtain rfl:Value.int .i64 10000000=x:=by simpa using hj
  exact hc 0 Zd
 ·exact⟨_,_,rfl,⟨⟨b,off,true,0,0⟩,c,rfl,h1,rfl⟩,_,_,rfl,⟨rfl,rfl⟩,rfl⟩
 ·rintro e w' ⟨v,ρ',rfl,hv,hbl,_,hB,_⟩
  obtain⟨p',c',rfl,hr⟩:=Zxm hB (u:=.slc 1 0 n n) hv (us:=List.replicate n (.val (.int .i64 10000000))) hz hi;exact⟨_,_,rfl,hr,hbl⟩
theorem Zpu (n:Nat) (h0:1<=n) (h5:n<=5) (p:Option Addr) (c:Nat) (w:World) (h:RdF w p 1 c (λ_=>10000000)) :
  Calls Tryz.prog 184 #[.slice p 1 c,.int .i64 n] w λe w'=>∃p' c',e=.returned (.slice p' n c')∧RdF w' p' n c' (λ_=>10000000)∧Below w.heap.size w w':=by
 rcases(by omega:n=1∨n=2∨n=3∨n=4∨n=5) with rfl|rfl|rfl|rfl|rfl
 ·exact Zdp 1 Zd (λw=>Zk) rfl rfl p c w h
 ·exact Zdp 2 Zd (λw=>Zk) rfl rfl p c w h
 ·exact Zdp 3 Zd (λw=>Zk) rfl rfl p c w h
 ·exact Zdp 4 Zd (λw=>Zk) rfl rfl p c w h
 ·exact Zdp 5 Zd (λw=>Zk) rfl rfl p c w h
theorem Zxn (n:Nat) (h0:1<=n) (h5:n<=5) (M:Nat) (pw:Option Addr) (cw:Nat) (w:World) (hw:w.cell? ⟨M,6,none⟩=some (.slice pw n cw)) :
  Calls Tryz.prog 140 #[.pointer (some ⟨M,0,none⟩)] w λe w'=>∃p' c',e=.returned (.slice p' n c')∧RdF w' p' n c' (λ_=>10000000)∧Below w.heap.size w w':=by
 have hlt:M<w.heap.size:=block_lt_of_cell hw;go_enter Tryz.func140,Tryz.ntmps140
 go_wp2_with fail
 refine Zbz λW hB hs b0=>?_;refine(Zpu n h0 h5 _ _ W (.box b0 0 1 _ (λi hi=>by obtain rfl:i=0:=(Zo);rfl) Zo)).mono ?_;rintro e w' ⟨p',c',rfl,hr,hb⟩;go_wp2
 go_ret
 exact⟨_,_,rfl,hr,Zaa hB hb⟩
theorem Zjq (a:Lns) (ha:a.opt) (q:Plc) (w:World) (h:OptAt w a q) :
  Calls Tryz.prog 86 #[.agg (a.ovals q)] w λe w'=>e=.returned (.int .i64 0)∧Below w.heap.size w w':=
 Zsa a ha q w h λM W hw=>Zxn a.nw ha.base.nw.1 ha.base.nw.2 M q.pw q.cw W hw
end
end Go.Proofs.W
namespace Go.Mono
open Go.RowKit
def qc (q:Rat) (p:Option Addr) (k c:Nat) (p':Option Addr) (k' c':Nat):Array Value:=#[.bool (decide (q.num<0)),.slice p k c,.bool false,.slice p' k' c']
def BoxQ (w:World) (B:Nat) (T:TypeId) (q:Rat):Prop:=∃p k c p' k' c',Box w B T #[.bool (decide (q.num<0)),.slice p k c,.bool false,.slice p' k' c']∧QV w (.agg #[.bool (decide (q.num<0)),.slice p k c,.bool false,.slice p' k' c']) q
theorem BoxQ.below {w w':World} {B:Nat} {T:TypeId} {q:Rat} (h:BoxQ w B T q) (hB:Below w.heap.size w w'):BoxQ w' B T q:=by
 obtain⟨p,k,c,p',k',c',b,r⟩:=h;exact⟨p,k,c,p',k',c',b.below hB,r.ext (.of_below hB)⟩
theorem Zjs {w:World} {T:TypeId} {q:Rat} {p:Option Addr} {k c:Nat} {p':Option Addr} {k' c':Nat} (r:QV w (.agg #[.bool (decide (q.num<0)),.slice p k c,.bool false,.slice p' k' c']) q) :
  BoxQ (w.alloc (.cells #[.bool (decide (q.num<0)),.slice p k c,.bool false,.slice p' k' c'] T)) w.heap.size T q:=
 ⟨p,k,c,p',k',c',Box.new _ _ _,r.ext ((Ext.refl _).alloc _)⟩
theorem Zjt {w:World} {B:Nat} {T:TypeId} {q:Rat} {p:Option Addr} {k c:Nat} {p':Option Addr} {k' c':Nat} {o0 o1 o2 o3:Value} (hT:T≠3) (b:Box w B T #[o0,o1,o2,o3]) (r:QV w (.agg #[.bool (decide (q.num<0)),.slice p k c,.bool false,.slice p' k' c']) q) :
  BoxQ ((((w.setCell ⟨B,0,none⟩ (.bool (decide (q.num<0)))).setCell ⟨B,1,none⟩ (.slice p k c)).setCell ⟨B,2,none⟩ (.bool false)).setCell ⟨B,3,none⟩ (.slice p' k' c')) B T q:=by
 have b1:=b.set 0 (.bool (decide (q.num<0)));have b2:=b1.set 1 (.slice p k c);have b3:=b2.set 2 (.bool false);have b4:=b3.set 3 (.slice p' k' c');exact⟨p,k,c,p',k',c',b4,r.ext (((((Ext.refl w).set b hT 0 _).set b1 hT 1 _).set b2 hT 2 _).set b3 hT 3 _)⟩
def Lns.step (a:Lns) (k s:Nat):Rat:=a.nI k s-a.nB k s
def Lns.cv (a:Lns) (s:Nat):Rat:=Rat.divInt (a.S s).curv 1000000000
def Lns.gr (a:Lns) (k s:Nat):Rat:=Rat.divInt (2*(a.S s).order*(a.S s).p0) 10000000*Rat.divInt (a.L k) 10000000
def Lns.pow (a:Lns) (k s:Nat):Rat:=if(a.S s).kind=3 then Rat.divInt 0 1 else if(a.S s).kind=4 then a.cv s else a.cv s*a.step k s-a.gr k s
end Go.Mono
namespace Go.Proofs.W
open Go.RowKit Go.Mono
theorem Zxp (V:Array Value) (s:Int) (w:World) :
  Calls Tryz.prog 321 #[.agg V,.int .i64 s] w λe w'=>∃C,e=.returned (.agg C)∧QV w' (.agg C) (Rat.divInt 0 1)∧Below w.heap.size w w':=by
 have hpo:=λW=>Zg4 0 1 Zd W Zd Zd Zd Zd;go_enter Tryz.func321,Tryz.ntmps321
 go_wp2_with fail
 refine Zbq λW hB hs bV bR=>?_;refine(hpo W).mono ?_;rintro e W3 ⟨C,rfl,hr,hb⟩;obtain⟨C',hC',hC,h1⟩:=hr.cells;cases hC';have hi:(Tryz.prog.info? 47).map (·.size)=some C.size:=by rw[hC];exact Zax
 replace hB:=Zaa hB hb;replace bR:=bR.below hb;have lR:=bR.lt;go_wp2_with (refine Zab rfl 47 (.tmp 4) (.tmp 5) rfl (w.heap.size+1) 0 47 _ C C rfl rfl bR hi (Ybl (by rw[hC];rfl)) h1 (Zag (by rw[hC];rfl)) ?_;intro W4 hk4 b4)
 refine bodyPost_ret (b4.results rfl _ _ rfl Tryz.underlying47 rfl hi) rfl ?_;exact⟨C,rfl,hr.ext (hk4.ext bR Zd),hk4.below hB Zo hB.size⟩
theorem Zvd (a:Lns) (q:Plc) (s k:Nat) (w:World) (h:OptAt w a q) (s1:s<a.ns) (hc1 : -1000000000<=(a.S s).curv) (hc2:(a.S s).curv<=1000000000) :
  Calls Tryz.prog 322 #[.agg (a.vvals q k),.int .i64 (s:Int)] w λe w'=>∃C,e=.returned (.agg C)∧QV w' (.agg C) (a.cv s)∧Below w.heap.size w w':=by
 have hpo:=λW=>Zg4 (a.S s).curv 1000000000 Zd W Zo Zo Zd Zd;rw[show Rat.divInt (a.S s).curv 1000000000=a.cv s from rfl]at hpo;obtain⟨b,off,hps,hbl,hcell⟩:=h.surfs.2.2 Zo;have f1:w.cell? ⟨b,off+s*22+1,none⟩=some (.int .i64 (a.S s).curv):=hcell s 1 s1 Zo;simp only[Lns.vvals];rw[hps];have s1':(s:Int)<a.ns:=Zo;clear hcell h hc1 hc2;generalize (a.S s).curv=cu at *;generalize a.cv s=rr at *;go_enter Tryz.func322,Tryz.ntmps322
 go_wp2_with fail
 refine Zbq λW hB hs bV bR=>?_;refine(hpo W).mono ?_;rintro e W3 ⟨C,rfl,hr,hb⟩;obtain⟨C',hC',hC,h1⟩:=hr.cells;cases hC';have hi:(Tryz.prog.info? 47).map (·.size)=some C.size:=by rw[hC];exact Zax
 replace hB:=Zaa hB hb;replace bR:=bR.below hb;have lR:=bR.lt;go_wp2_with (refine Zab rfl 47 (.tmp 4) (.tmp 13) rfl (w.heap.size+1) 0 47 _ C C rfl rfl bR hi (Ybl (by rw[hC];rfl)) h1 (Zag (by rw[hC];rfl)) ?_;intro W4 hk4 b4)
 refine bodyPost_ret (b4.results rfl _ _ rfl Tryz.underlying47 rfl hi) rfl ?_;exact⟨C,rfl,hr.ext (hk4.ext bR Zd),hk4.below hB Zo hB.size⟩
theorem Zsg (a:Lns) (ha:a.opt) (q:Plc) (hchk:Chk a q) (s k:Nat) (w:World) (h:OptAt w a q) (s1:s<a.ns) (k1:k<a.nw) :
  Calls Tryz.prog 55 #[.agg (a.vvals q k),.int .i64 ((s:Int)-1)] w λe w'=>∃C,e=.returned (.agg C)∧QV w' (.agg C) (a.nB k s)∧Below w.heap.size w w':=by
 cases s with
 | zero=>exact Zsf _ rfl w
 | succ t =>
   rw[show((t+1:Nat):Int)-1=(t:Int) by omega];have:=Zge a ha q hchk t k w h Zo k1;simpa[Lns.nB]using this
end Go.Proofs.W
namespace Go.Mono
open Go.RowKit
section
def KR (R:Nat) (W w:World):Prop:=KeepBut R W.heap.size W w∧∀o,o<4->w.cell? ⟨R,o,none⟩=W.cell? ⟨R,o,none⟩
section
variable {R:Nat} {W w w':World}
theorem KR.refl (R:Nat) (W:World):KR R W W:=⟨KeepBut.refl _ _,λ_ _=>rfl⟩
theorem KR.drew (h:KR R W w):KR R W w.drew:=⟨h.1.drew,h.2⟩
theorem KR.call (h:KR R W w) (hR:R<W.heap.size) (hb:Below w.heap.size w w'):KR R W w':=
 ⟨h.1.call hb,λo ho=>(hb.cell (p:=⟨R,o,none⟩) (Yaf hR h.1.size)).trans (h.2 o ho)⟩
theorem KR.alloc (h:KR R W w) (hR:R<W.heap.size) (x:Obj):KR R W (w.alloc x):=h.call hR ((Yae _ _).alloc (Yab _) x)
theorem KR.set (h:KR R W w) (i:Nat) (hi:4<=i) (u:Value):KR R W (w.setCell ⟨R,i,none⟩ u):=
 ⟨h.1.set i u,λo ho=>(Yet _ _ _ _ (by intro e;have:=congrArg Addr.off e;simp at this;omega)).trans (h.2 o ho)⟩
theorem KR.ext (h:KR R W w) {T:TypeId} {cs:Array Value} (hb:Box W R T cs) (hT:T≠3):Ext W w:=h.1.ext hb hT
theorem KR.S (h:KR R W w):(∀b o,b<W.heap.size->b≠R->w.cell? ⟨b,o,none⟩=W.cell? ⟨b,o,none⟩)∧(∀o,o<4->w.cell? ⟨R,o,none⟩=W.cell? ⟨R,o,none⟩)∧KR R W w:=⟨h.1.cell,h.2,h⟩
end
theorem KeepBut.of_below {R:Nat} {w W w':World} (hB:Below w.heap.size w W) (h:KeepBut R W.heap.size W w'):KeepBut R w.heap.size w w':=
 ⟨h.os.trans hB.os,h.tape.trans hB.tape,h.output.trans hB.output,Yak hB.size h.size,λk hk hR=>(h.block k (Yaf hk hB.size) hR).trans (hB.block k hk)⟩
section
variable {w:World} {R:Nat} {T:TypeId} {y u:Rat} {p:Option Addr} {k c:Nat} {p':Option Addr} {k' c':Nat} {r:Option Addr} {l d:Nat} {r':Option Addr} {l' d':Nat} {o0 o1 o2 o3:Value}
end
end
end Go.Mono
