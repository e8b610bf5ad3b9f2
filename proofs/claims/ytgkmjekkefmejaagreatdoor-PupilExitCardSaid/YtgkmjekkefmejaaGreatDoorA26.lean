/- Contracts of package matrix,and a verified evaluator. Part 26 of 27. No condition beside the row. -/
import Derived.Test.YtgkmjekkefmejaaGreatDoorRows
import Derived.ProofKit
import Derived.LaidMore
import Derived.OpenShut
import Derived.Maps.Keyed
import Derived.LaidOnce
import Derived.Stop.Joined
import Derived.Test.YtgkmjekkefmejaaGreatDoorA12
import Derived.Test.YtgkmjekkefmejaaGreatDoorA17
import Derived.Test.YtgkmjekkefmejaaGreatDoorA22
import Derived.Test.YtgkmjekkefmejaaGreatDoorA25
set_option linter.unusedVariables false
set_option linter.unusedSimpArgs false
set_option maxRecDepth 100000
set_option maxHeartbeats 4000000
namespace Go.Proofs.YtgkmjekkefmejaaGreatDoor
open Go.RowKit Go.Mono
section
open Go Go.ChangeShapes Go.WideShapes Go.ChangeAt Go.WideMaps Go.WideElems Go.Proofs.W
theorem Zvr {w:World} {base:Nat} {sp:Nat->Bool} {n:Nat} {t:TypeId} {ps rs:Array TypeId} {va:Bool} {v:Value} {b:UInt8} {r:List UInt8} {q:List MemPlace} {f0:FuncId}
  (ht:Tryz.prog.underlying t=some (.func ps rs va)) (hone:((List.range Tryz.prog.funcs.size).filter λf=>(Tryz.prog.funcs[f]?).any (·.name.toUTF8.data.toList==b::r))=[f0])
  (h:elemAt (funcToken Tryz.prog) Tryz.prog w base sp true n t v=some (.held (b::r),q)):v=.func (.func f0) #[] #[]:=by
 unfold elemAt at h;split at h
 ·rename_i hf
  cases v<;>simp[Value.formed,ht]at hf
  all_goals exact func_of_trod ht hone (by simpa[Value.cells]using h)
 ·cases h
theorem Zlu {W:World} (h:laidMetH Tryz.prog [("monocle/surface.places",Rows.laid_monocle_surface_places),("monocle/paraxial.powers",Rows.laid_monocle_paraxial_powers)] W):∃m,PowsAt W m:=by
 obtain⟨g,t,cs,fuel,p,hg,ht,hv,hd⟩:=h.funcs (n:= "monocle/paraxial.powers") (Ybs _ (Ycl ..));obtain rfl:=Yej ((show Tryz.prog.globalNamed "monocle/paraxial.powers" = some 0 by kernel_rfl).symm.trans hg);obtain rfl:=Yej ((show(Tryz.prog.globals[0]?).map (·.type)=some 180 by kernel_rfl).symm.trans ht);have hcell:=World.var?_cell hg hv 0;have hd':DataW.trod (funcToken Tryz.prog) Tryz.prog W 0 (λ_=>true) true fuel 180 cs.toList=some (.map [(.int .i64 1,.held [40,109,111,110,111,99,108,101,47,112,97,114,97,120,105,97,108,46,118,105,101,119,41,46,99,117,114,118,101,100]),(.int .i64 2,.held [40,109,111,110,111,99,108,101,47,112,97,114,97,120,105,97,108,46,118,105,101,119,41,46,99,117,114,118,101,100]),(.int .i64 3,.held [40,109,111,110,111,99,108,101,47,112,97,114,97,120,105,97,108,46,118,105,101,119,41,46,102,108,97,116]),(.int .i64 4,.held [40,109,111,110,111,99,108,101,47,112,97,114,97,120,105,97,108,46,118,105,101,119,41,46,105,100,101,97,108])],p):=hd;rcases WideElems.open_map Tryz.underlying180 hd' with ⟨_,hx⟩|⟨m,es,clock,n,rfl,hcs,hb,_,F,hx⟩
 ·exact absurd (congrArg Prod.fst hx) (by intro e;cases e)
 have hc0:W.cell? ⟨0,0,none⟩=some (.map (some m)):=by
  rw[Array.eq_one_of_toList hcs]at hcell;simpa using hcell
 have hlt:m<W.heap.size:=Zam hb;have hpos:0<W.heap.size:=block_lt_of_cell hc0;have hxx:=congrArg Prod.fst hx;dsimp only at hxx;refine⟨m,hlt,hpos,hc0,λw' hw'=>?_⟩;have hb':=hw'.trans hb;have zero:∀w,(zeroValue 179).run Tryz.prog w=.ok .nilFunc w:=λ_=>Zk
 have look:∀(kd:Int) (b:UInt8) (r:List UInt8) (f0:FuncId),(Lit.int .i64 kd).wf=true->((List.range Tryz.prog.funcs.size).filter λf=>(Tryz.prog.funcs[f]?).any (·.name.toUTF8.data.toList==b::r))=[f0]->
   (DataW.map [(Lit.int .i64 1,DataW.held [40,109,111,110,111,99,108,101,47,112,97,114,97,120,105,97,108,46,118,105,101,119,41,46,99,117,114,118,101,100]),(.int .i64 2,.held [40,109,111,110,111,99,108,101,47,112,97,114,97,120,105,97,108,46,118,105,101,119,41,46,99,117,114,118,101,100]),(.int .i64 3,.held [40,109,111,110,111,99,108,101,47,112,97,114,97,120,105,97,108,46,118,105,101,119,41,46,102,108,97,116]),(.int .i64 4,.held [40,109,111,110,111,99,108,101,47,112,97,114,97,120,105,97,108,46,118,105,101,119,41,46,105,100,101,97,108])]:DataW (List UInt8)).atKey (.int .i64 kd) .nil=.held (b::r)->
   (Instr.lookup 180 (.map (some m)) (.int .i64 kd) false).run Tryz.prog w'=.ok (.func (.func f0) #[] #[]) w':=by
  intro kd b r f0 hw hone hat;have hk:keyOf Tryz.prog 3 (.int .i64 kd)=some (.int .i64 kd):=by simp[keyOf_int Tryz.underlying3,mapKey,Tryz.underlying3,hw]
  rcases Go.Maps.fit_look false (Go.Maps.int_keyed Tryz.underlying3) Tryz.underlying180 (zero w') hb' F hk with ⟨_,_,h2⟩|⟨e0,y,_,_,hrun,hR,h2,_⟩
  ·have:=h2 .nil
   rw[<-hxx]at this;cases hat.symm.trans this
  ·have:=h2 .nil
   rw[<-hxx]at this;replace this:=hat.symm.trans this;obtain⟨y1,y2⟩:=y;cases this;rw[Zvr Tryz.underlying179 hone hR]at hrun;exact hrun
 exact⟨look 1 40 [109,111,110,111,99,108,101,47,112,97,114,97,120,105,97,108,46,118,105,101,119,41,46,99,117,114,118,101,100] 320 Zk Zk rfl,look 2 40 [109,111,110,111,99,108,101,47,112,97,114,97,120,105,97,108,46,118,105,101,119,41,46,99,117,114,118,101,100] 320 Zk Zk rfl,look 3 40 [109,111,110,111,99,108,101,47,112,97,114,97,120,105,97,108,46,118,105,101,119,41,46,102,108,97,116] 321 Zk Zk rfl,look 4 40 [109,111,110,111,99,108,101,47,112,97,114,97,120,105,97,108,46,118,105,101,119,41,46,105,100,101,97,108] 322 Zk Zk rfl⟩
end
end Go.Proofs.YtgkmjekkefmejaaGreatDoor
namespace Go.Mono
theorem Ov.cast {N D D':Nat} {x:Rat} (h:Ov N D x) (e:D=D'):Ov N D' x:=e▸h
theorem Ov.fits {N D k:Nat} {x:Rat} (h:Ov N D x) (hk:k<=5399) (hN:N<=10 ^ k) (hD:D<=10 ^ k):Fits x:=Hs.fits (Hs.of_ov h hN hD) hk
theorem Ze2 {z:Int} {n:Nat} (h1 : -(n:Int)<=z) (h2:z<=n):z.natAbs<=n:=Zo
theorem Lns.opt.ix_ov {a:Lns} (ha:a.opt) {k s:Nat} (hs:s<a.ns) (hk:k<a.nw):∃m:Nat,10000000<=m∧m<=40000000∧(a.ix s k*a.sgn (s+1)).natAbs=m:=by
 have h:=ha.ir s k hs hk;rcases a.sgn_cases (s+1) with e|e<;>rw[e]
 ·exact⟨(a.ix s k).natAbs,Zo,Zo,Zo⟩
 ·exact⟨(a.ix s k).natAbs,Zo,Zo,Zo⟩
theorem Lns.opt.nI_ov {a:Lns} (ha:a.opt) {k s:Nat} (hs:s<a.ns) (hk:k<a.nw):Ov 40000000 10000000 (a.nI k s):=by
 obtain⟨m,h1,h2,h3⟩:=ha.ix_ov hs hk;exact Ov.of _ 10000000 Zd _ Zo
theorem Lns.opt.nI_num {a:Lns} (ha:a.opt) {k s:Nat} (hs:s<a.ns) (hk:k<a.nw):(a.nI k s).num≠0:=by
 obtain⟨m,h1,h2,h3⟩:=ha.ix_ov hs hk;intro h;have h0:=Rat.num_eq_zero.1 h;unfold Lns.nI at h0;rw[show(10000000:Int)=((10000000:Nat):Int) from rfl,Rat.divInt_ofNat,Rat.mkRat_eq_zero Zd]at h0;omega
theorem Lns.opt.nI_inv {a:Lns} (ha:a.opt) {k s:Nat} (hs:s<a.ns) (hk:k<a.nw):∃m:Nat,0<m∧m<=40000000∧Ov 10000000 m (a.nI k s)⁻¹:=by
 obtain⟨m,h1,h2,h3⟩:=ha.ix_ov hs hk;refine⟨m,Zo,h2,?_⟩;unfold Lns.nI;rw[Rat.inv_divInt];rcases Int.natAbs_eq (a.ix s k*a.sgn (s+1)) with e|e
 ·rw[e,h3]
  exact Ov.of _ m Zo _ Zd
 ·rw[e,h3]
  have:Rat.divInt 10000000 (-(m:Int))=Rat.divInt (-10000000) (m:Int):=by
   rw[Rat.divInt_neg']
  rw[this];exact Ov.of _ m Zo _ Zd
theorem Lns.opt.nB_ov {a:Lns} (ha:a.opt) {k s:Nat} (hs:s<a.ns) (hk:k<a.nw):Ov 40000000 10000000 (a.nB k s):=by
 unfold Lns.nB;split
 ·exact((Ov.of 1 1 Zd 1 Zd).scale 10000000 Zd).mono Zd
 ·exact ha.nI_ov Zo hk
theorem Lns.opt.cv_ov {a:Lns} (ha:a.opt) {s:Nat} (hs:s<a.ns):Ov 1000000000 1000000000 (a.cv s):=by
 have h:=(ha.base.sok s hs).curv;exact Ov.of _ 1000000000 Zd _ (Ze2 h.1 h.2)
theorem Lns.opt.step_ov {a:Lns} (ha:a.opt) {k s:Nat} (hs:s<a.ns) (hk:k<a.nw):Ov 80000000 10000000 (a.step k s):=
 (ha.nI_ov hs hk).sub_same (ha.nB_ov hs hk)
theorem Lns.opt.gr_ov {a:Lns} (ha:a.opt) {k s:Nat} (hs:s<a.ns) (hk:k<a.nw):Ov (6000000000*2500000) (10000000*10000000) (a.gr k s):=by
 have ho:=(ha.base.sok s hs).order;have hp:=(ha.base.sok s hs).p0;have hl:=ha.base.wl k hk;have h1:(2*(a.S s).order*(a.S s).p0).natAbs<=6000000000:=by
  rw[Yde];have e1:(2*(a.S s).order).natAbs<=6:=Ze2 (by have:=ho.1;omega) (by have:=ho.2;omega);have e2:((a.S s).p0).natAbs<=1000000000:=Ze2 hp.1 hp.2;exact Yak (Ybv e1 e2) Zd
 exact(Ov.of _ 10000000 Zd _ h1).mul (Ov.of _ 10000000 Zd _ Zo)
theorem Lns.opt.cs_ov {a:Lns} (ha:a.opt) {k s:Nat} (hs:s<a.ns) (hk:k<a.nw):Ov (1000000000*80000000) (1000000000*10000000) (a.cv s*a.step k s):=
 (ha.cv_ov hs).mul (ha.step_ov hs hk)
theorem Lns.opt.curved_ov {a:Lns} (ha:a.opt) {k s:Nat} (hs:s<a.ns) (hk:k<a.nw):Ov (10 ^ 19) (10 ^ 16) (a.cv s*a.step k s-a.gr k s):=by
 have h1:=(ha.cs_ov hs hk).cast (show 1000000000*10000000=10 ^ 16 by decide);have h2:=((ha.gr_ov hs hk).scale 100 Zd).cast (show 10000000*10000000*100=10 ^ 16 by decide);exact(h1.sub_same h2).mono Zd
theorem Lns.opt.pow_ov {a:Lns} (ha:a.opt) {k s:Nat} (hs:s<a.ns) (hk:k<a.nw):Ov (10 ^ 19) (10 ^ 16) (a.pow k s):=by
 unfold Lns.pow;split
 ·exact((Ov.of 0 1 Zd 0 Zd).scale (10 ^ 16) Zd).mono Zd |>.cast Zd
 ·split
  ·exact(((ha.cv_ov hs).scale 10000000 Zd).mono Zd).cast Zd
  ·exact ha.curved_ov hs hk
theorem Zbs {a b:Nat} (h:a<=b):10 ^ a<=10 ^ b:=Nat.pow_le_pow_right Zd h
theorem Lns.opt.gap_ov {a:Lns} (ha:a.opt) {s:Nat} (hs:s<a.ns) (j:Int) (hj:j.natAbs=1):Ov 1000000000 1000000 (Rat.divInt (j*(a.S s).thick) 1000000):=by
 have h:=(ha.base.sok s hs).thick;refine Ov.of _ 1000000 Zd _ ?_;rw[Yde,hj,Nat.one_mul];exact Ze2 h.1 h.2
theorem Lns.opt.move_ov {a:Lns} (ha:a.opt) {k s:Nat} (hs:s<a.ns) (hk:k<a.nw) (j:Int) (hj:j.natAbs=1) {N D:Nat} {y u:Rat} (hy:Ov N D y) (hu:Ov N D u) :
  ∃D',D'<=D*10 ^ 14∧D ∣ D'∧D'/D<=10 ^ 14∧Ov (10 ^ 9*N) (10 ^ 6*D) (Rat.divInt (j*(a.S s).thick) 1000000*u)∧Ov (N*10 ^ 16) D' ((Rat.divInt (j*(a.S s).thick) 1000000*u)/a.nI k s)∧Ov (N*10 ^ 17) D' (y+(Rat.divInt (j*(a.S s).thick) 1000000*u)/a.nI k s)∧Ov (N*10 ^ 14) D' u:=by
 obtain⟨m,m0,m1,hm⟩:=ha.nI_inv hs hk;have hD:=hy.1;have h1:=(ha.gap_ov hs j hj).mul hu;have e:1000000*D*m=D*(1000000*m):=by rw[Ycu 1000000 D,Yfv]
 have h2:Ov (N*10 ^ 16) (D*(1000000*m)) ((Rat.divInt (j*(a.S s).thick) 1000000*u)/a.nI k s):=by
  rw[Yew];refine((h1.mul hm).cast e).mono ?_;rw[Ycu 1000000000 N,Yfv];exact Yci _ Zd
 have hk':1000000*m<=10 ^ 14:=by
  have:(10:Nat) ^ 14=100000000000000:=Zd;omega
 have hy2:=(hy.scale (1000000*m) Zo).mono (Yci N hk');have hu2:=(hu.scale (1000000*m) Zo).mono (Yci N hk');refine⟨D*(1000000*m),Yci _ hk',Nat.dvd_mul_right _ _,?_,h1,h2,?_,hu2⟩
 ·rw[Nat.mul_div_cancel_left _ hD];exact hk'
 ·refine(hy2.add_same h2).mono ?_
  rw[<-Nat.mul_add];exact Yci _ Zd
theorem Lns.opt.bend_ov {a:Lns} (ha:a.opt) {k s:Nat} (hs:s<a.ns) (hk:k<a.nw) {N M D:Nat} {y u:Rat} (hy:Ov N D y) (hu:Ov M D u) (j:Rat) (hj:j=1∨j = -1) :
  Ov (N*10 ^ 19) (D*10 ^ 16) (y*a.pow k s)∧Ov (N*10 ^ 19) (D*10 ^ 16) (j*(y*a.pow k s))∧Ov (M*10 ^ 16+N*10 ^ 19) (D*10 ^ 16) (u-j*(y*a.pow k s)):=by
 have h1:=hy.mul (ha.pow_ov hs hk);have h2:Ov (N*10 ^ 19) (D*10 ^ 16) (j*(y*a.pow k s)):=by
  rcases hj with rfl|rfl
  ·rw[Rat.one_mul];exact h1
  ·rw[Rat.neg_mul,Rat.one_mul];exact h1.neg
 exact⟨h1,h2,(hu.scale _ Zd).sub_same h2⟩
theorem Lns.opt.tr_ov {a:Lns} (ha:a.opt) {k:Nat} (hk:k<a.nw) {y u:Rat} {K:Nat} {D0:Nat} (hD0:D0<=10 ^ K) (hy:Ov (10 ^ K) D0 y) (hu:Ov (10 ^ K) D0 u) :
  ∀s,s<=a.ns->∃D,D<=10 ^ (K+30*s)∧Ov (10 ^ (K+37*s)) D (a.tr k y u s).1∧Ov (10 ^ (K+37*s)) D (a.tr k y u s).2
 | 0,_=>⟨D0,hD0,hy,hu⟩
 | s + 1, hs => by
   obtain⟨D,hD,h1,h2⟩:=Lns.opt.tr_ov ha hk hD0 hy hu s Zo;obtain⟨D',hD',h3,h4⟩:∃D',D'<=D*10 ^ 14∧Ov (10 ^ (K+37*s)*10 ^ 17) D' (a.tr k y u (s+1)).1∧Ov (10 ^ (K+37*s)*10 ^ 17) D' (a.tr k y u s).2:=by
    rw[show(a.tr k y u (s+1)).1=(if s=0 then(a.tr k y u s).1 else(a.tr k y u s).1+(Rat.divInt (1*(a.S (s-1)).thick) 1000000*(a.tr k y u s).2)/a.nI k (s-1)) from rfl];split
    ·exact⟨D,Yfd _ (show 0<10 ^ 14 by decide),h1.mono (Yfd _ (show 0<10 ^ 17 by decide)),h2.mono (Yfd _ (show 0<10 ^ 17 by decide))⟩
    ·obtain⟨D',g1,_,_,_,_,g2,g3⟩:=ha.move_ov (s:=s-1) Zo hk 1 rfl h1 h2
     exact⟨D',g1,g2,g3.mono (Yci _ (show 10 ^ 14<=10 ^ 17 by decide))⟩
   obtain⟨_,_,h5⟩:=ha.bend_ov (s:=s) Zo hk h3 h4 (Rat.divInt 1 1) (.inl (by decide +kernel));have e1:(10:Nat) ^ (K+37*(s+1))=10 ^ (K+37*s)*10 ^ 37:=by rw[<-Ydn];congr 1
   have e2:(10:Nat) ^ (K+30*(s+1))=10 ^ (K+30*s)*10 ^ 30:=by rw[<-Ydn];congr 1
   refine⟨D'*10 ^ 16,?_,?_,?_⟩
   ·rw[e2]
    have:=Ybv hD (Yab (10 ^ 14));have h6:=Ybv (Yak hD' this) (Yab (10 ^ 16));rw[Yfv]at h6;exact h6
   ·rw[e1]
    refine(h3.scale (10 ^ 16) Zd).mono ?_;rw[Yfv];exact Yci _ Zd
   ·rw[e1]
    refine Ov.mono (show Ov _ _ (a.tr k y u (s+1)).2 from h5) ?_;rw[Yfv,Yfv,<-Nat.mul_add];exact Yci _ Zd
theorem Hs.two {k:Nat} {x y:Rat} (hx:Hs k x) (hy:Hs k y):∃D,D<=10 ^ (k+k)∧Ov (10 ^ (k+k)) D x∧Ov (10 ^ (k+k)) D y:=by
 refine⟨x.den*y.den,?_,?_,?_⟩
 ·rw[Ydn];exact Ybv hx.2 hy.2
 ·refine(hx.ov.scale y.den y.den_pos).mono ?_
  rw[Ydn];exact Yci _ hy.2
 ·refine((hy.ov.scale x.den x.den_pos).cast (Ycu _ _)).mono ?_
  rw[Ydn];exact Yci _ hx.2
end Go.Mono
namespace Go.Proofs.W
open Go.RowKit Go.Mono
theorem Zd8 {a:Lns} (ha:a.opt) {k s:Nat} (hs:s<a.ns) (hk:k<a.nw):PowFits a k s:=by
 exact⟨(ha.step_ov hs hk).fits (k:=30) Zd Zd Zd,(ha.cs_ov hs hk).fits (k:=30) Zd Zd Zd,(ha.gr_ov hs hk).fits (k:=30) Zd Zd Zd,(ha.curved_ov hs hk).fits (k:=30) Zd Zd Zd⟩
theorem Zpw {a:Lns} (ha:a.opt) {k:Nat} (hk:k<a.nw) {y u:Rat} {K:Nat} (hK:K<=4000) {D0:Nat} (hD0:D0<=10 ^ K) (hy:Ov (10 ^ K) D0 y) (hu:Ov (10 ^ K) D0 u):TrFits a k y u:=by
 have hn:=ha.base.ns;have tr:=λs hs=>ha.tr_ov hk hD0 hy hu s hs;have b':∀s c {n:Nat},n<=10 ^ (K+37*s)*10 ^ c->c<=20->n<=10 ^ (K+37*s+20):=λs c n h hc=>by
  rw[<-Ydn]at h;exact Yak h (Zbs Zo)
 have e30:∀s,(10:Nat) ^ (K+30*s)<=10 ^ (K+37*s):=λs=>Zbs Zo;refine⟨λs hs=>Zd8 ha hs hk,λs hs=>ha.nI_num hs hk,λs hs=>?_,λs hs=>?_,λs hs=>?_,λs hs=>?_,λs hs=>?_,λs hs=>?_⟩
 ·obtain⟨D,hD,h1,h2⟩:=tr (s+1) Zo
  obtain⟨D',g1,_,_,g2,g3,g4,_⟩:=ha.move_ov (s:=s) Zo hk 1 rfl h1 h2;refine g2.fits (k:=K+37*(s+1)+20) Zo (b' (s+1) 9 (by rw[Ycu];exact Yab _) Zd) (b' (s+1) 6 ?_ Zd);rw[Ycu];exact Ybd _ (Yak hD (e30 _))
 ·obtain⟨D,hD,h1,h2⟩:=tr (s+1) Zo
  obtain⟨D',g1,_,_,g2,g3,g4,_⟩:=ha.move_ov (s:=s) Zo hk 1 rfl h1 h2;exact g3.fits (k:=K+37*(s+1)+20) Zo (b' (s+1) 16 (Yab _) Zd) (b' (s+1) 14 (Yak g1 (Ybd _ (Yak hD (e30 _)))) Zd)
 ·obtain⟨D,hD,h1,h2⟩:=tr (s+1) Zo
  obtain⟨D',g1,_,_,g2,g3,g4,_⟩:=ha.move_ov (s:=s) Zo hk 1 rfl h1 h2;exact g4.fits (k:=K+37*(s+1)+20) Zo (b' (s+1) 17 (Yab _) Zd) (b' (s+1) 14 (Yak g1 (Ybd _ (Yak hD (e30 _)))) Zd)
 ·obtain⟨D,hD,h1,h2⟩:=tr (s+1) Zo
  obtain⟨g1,_,_⟩:=ha.bend_ov (s:=s) hs hk h1 h2 1 (.inl rfl);exact g1.fits (k:=K+37*(s+1)+20) Zo (b' (s+1) 19 (Yab _) Zd) (b' (s+1) 16 (Ybd _ (Yak hD (e30 _))) Zd)
 ·obtain⟨D,hD,h1,h2⟩:=tr (s+1) Zo
  obtain⟨_,g1,_⟩:=ha.bend_ov (s:=s) hs hk h1 h2 (Rat.divInt 1 1) (.inl (by decide +kernel));exact g1.fits (k:=K+37*(s+1)+20) Zo (b' (s+1) 19 (Yab _) Zd) (b' (s+1) 16 (Ybd _ (Yak hD (e30 _))) Zd)
 ·obtain⟨D,hD,h1,h2⟩:=tr (s+1) Zo
  exact h2.fits (k:=K+37*(s+1)+20) Zo (b' (s+1) 0 (by rw[Nat.pow_zero,Yfk];exact Yab _) Zd) (b' (s+1) 0 (by rw[Nat.pow_zero,Yfk];exact Yak hD (e30 _)) Zd)
end Go.Proofs.W
namespace Go.Mono
theorem Zxt (t:Int):Rat.divInt (-1*t) 1000000 = -Rat.divInt (1*t) 1000000:=by
 rw[Rat.neg_divInt,Yga,Int.neg_mul,Yga]
theorem Lns.unstp_stp (a:Lns) (k s:Nat) (r:Rat×Rat):a.unstp k s (a.stp k s r)=r:=by
 obtain⟨y,u⟩:=r;unfold unstp stp;dsimp only;rw[Zxt,show Rat.divInt 1 1=1 by decide +kernel,show Rat.divInt (-1) 1 = -1 by decide +kernel];simp only[Yew];generalize a.pow k s=p;generalize (a.nI k (s-1))⁻¹=n;generalize Rat.divInt (1*(a.S (s-1)).thick) 1000000=g;split
 ·congr 1;grind
 ·congr 1<;>grind
theorem Lns.bk_tr (a:Lns) (k:Nat) (y u:Rat):∀i,i<=a.ns->a.bk k (a.tr k y u a.ns).1 (a.tr k y u a.ns).2 i=a.tr k y u (a.ns-i)
 | 0,_=>rfl
 | i + 1, hi => by
   rw[a.bk_stp,a.bk_tr k y u i Zo];obtain⟨s,hs⟩:∃s,a.ns-i=s+1:=⟨a.ns-i-1,Zo⟩
   rw[hs,a.tr_stp,show a.ns-1-i=s by omega,a.unstp_stp,show a.ns-(i+1)=s by omega]
theorem Zvg (N a b c:Nat) (h:a+b=c):N*10 ^ a*10 ^ b=N*10 ^ c:=by rw[Yfv,<-Ydn,h]
theorem Lns.opt.unbend_ov {a:Lns} (ha:a.opt) {k s:Nat} (hs:s<a.ns) (hk:k<a.nw) {N D:Nat} {y u:Rat} (hy:Ov N D y) (hu:Ov N D u) :
  Ov (N*10 ^ 20) (D*10 ^ 16) (y*a.pow k s)∧Ov (N*10 ^ 20) (D*10 ^ 16) (Rat.divInt (-1) 1*(y*a.pow k s))∧Ov (N*10 ^ 20) (D*10 ^ 16) (u-Rat.divInt (-1) 1*(y*a.pow k s))∧Ov (N*10 ^ 20) (D*10 ^ 16) y:=by
 obtain⟨h1,h2,h3⟩:=ha.bend_ov hs hk hy hu (Rat.divInt (-1) 1) (.inr (by decide +kernel));have e:=Yci N (show 10 ^ 19<=10 ^ 20 by decide);refine⟨h1.mono e,h2.mono e,h3.mono ?_,(hy.scale (10 ^ 16) Zd).mono (Yci N Zd)⟩;rw[<-Nat.mul_add];exact Yci N Zd
theorem Lns.opt.bk_ov {a:Lns} (ha:a.opt) {k:Nat} (hk:k<a.nw) {y u:Rat} {K:Nat} {D0:Nat} (hD0:D0<=10 ^ K) (hy:Ov (10 ^ K) D0 y) (hu:Ov (10 ^ K) D0 u) :
  ∀i,i<=a.ns->∃D,D<=10 ^ (K+30*i)∧Ov (10 ^ (K+37*i)) D (a.bk k y u i).1∧Ov (10 ^ (K+37*i)) D (a.bk k y u i).2
 | 0,_=>⟨D0,hD0,hy,hu⟩
 | i + 1, hi => by
   obtain⟨D,hD,h1,h2⟩:=Lns.opt.bk_ov ha hk hD0 hy hu i Zo;obtain⟨_,_,h3,h4⟩:=ha.unbend_ov (s:=a.ns-1-i) Zo hk h1 h2;have e1:(10:Nat) ^ (K+37*(i+1))=10 ^ (K+37*i)*10 ^ 20*10 ^ 17:=by rw[Zvg _ _ _ 37 rfl,<-Ydn];congr 1
   have e2:(10:Nat) ^ (K+30*(i+1))=10 ^ (K+30*i)*10 ^ 16*10 ^ 14:=by rw[Zvg _ _ _ 30 rfl,<-Ydn];congr 1
   have hD2:=Ybd (10 ^ 16) hD;rw[e1,e2,a.bk_stp];unfold Lns.unstp;dsimp only;split
   ·exact⟨D*10 ^ 16,Yak hD2 (Yfd _ Zd),h4.mono (Yfd _ Zd),h3.mono (Yfd _ Zd)⟩
   ·obtain⟨D',g1,_,_,_,_,g2,g3⟩:=ha.move_ov (s:=a.ns-1-i-1) Zo hk (-1) rfl h4 h3
    exact⟨D',Yak g1 (Ybd _ hD2),g2,g3.mono (Yci _ Zd)⟩
end Go.Mono
namespace Go.Proofs.W
open Go.RowKit Go.Mono
theorem Zys {a:Lns} (ha:a.opt) {k:Nat} (hk:k<a.nw) {y u:Rat} {K:Nat} (hK:K<=4000) {D0:Nat} (hD0:D0<=10 ^ K) (hy:Ov (10 ^ K) D0 y) (hu:Ov (10 ^ K) D0 u):BkFits a k y u:=by
 have hn:=ha.base.ns;have bk:=λi hi=>ha.bk_ov hk hD0 hy hu i hi;have fit:∀i c {N D:Nat} {x:Rat},i<=a.ns->Ov N D x->N<=10 ^ (K+37*i)*10 ^ c->D<=10 ^ (K+37*i)*10 ^ c->c<=40->Fits x:=λi c {N D x} hi h h1 h2 hc=>by
  rw[<-Ydn]at h1 h2;exact h.fits (k:=K+37*i+c) Zo h1 h2
 have dd:∀i {D:Nat} c,D<=10 ^ (K+30*i)->16<=c->D*10 ^ 16<=10 ^ (K+37*i)*10 ^ c:=λi D c h hc=>Ybv (Yak h (Zbs Zo)) (Zbs hc);have st:∀i t,t+1+i+1=a.ns->∃N D,N=10 ^ (K+37*i)*10 ^ 20∧D<=10 ^ (K+37*i)*10 ^ 16∧Ov N D (a.bk k y u i).1∧Ov N D ((a.bk k y u i).2-Rat.divInt (-1) 1*((a.bk k y u i).1*a.pow k (t+1))):=λi t h=>by
  obtain⟨D,hD,h1,h2⟩:=bk i Zo;obtain⟨_,_,h3,h4⟩:=ha.unbend_ov (s:=t+1) Zo hk h1 h2;exact⟨_,_,rfl,dd i 16 hD Zd,h4,h3⟩
 have c20:∀i b,b<=20->10 ^ (K+37*i)*10 ^ 20*10 ^ b<=10 ^ (K+37*i)*10 ^ 40:=λi b hb=>by
  rw[Zvg _ 20 b _ rfl];exact Yci _ (Zbs Zo)
 have c16:∀i b {D:Nat},D<=10 ^ (K+37*i)*10 ^ 16->b<=20->D*10 ^ b<=10 ^ (K+37*i)*10 ^ 40:=λi b D h hb=>by
  have:=Ybd (10 ^ b) h;rw[Zvg _ 16 b _ rfl]at this;exact Yak this (Yci _ (Zbs Zo))
 refine⟨λs hs=>Zd8 ha hs hk,λs hs=>ha.nI_num hs hk,λi s h=>?_,λi s h=>?_,λi s h=>?_,λi t h=>?_,λi t h=>?_,λi t h=>?_⟩
 ·obtain⟨D,hD,h1,h2⟩:=bk i Zo
  exact fit i 20 Zo (ha.unbend_ov (s:=s) Zo hk h1 h2).1 (Yab _) (dd i 20 hD Zd) Zd
 ·obtain⟨D,hD,h1,h2⟩:=bk i Zo
  exact fit i 20 Zo (ha.unbend_ov (s:=s) Zo hk h1 h2).2.1 (Yab _) (dd i 20 hD Zd) Zd
 ·obtain⟨D,hD,h1,h2⟩:=bk i Zo
  exact fit i 20 Zo (ha.unbend_ov (s:=s) Zo hk h1 h2).2.2.1 (Yab _) (dd i 20 hD Zd) Zd
 ·obtain⟨N,D,rfl,hD,h1,h2⟩:=st i t h
  obtain⟨D',g1,_,_,g2,g3,g4,_⟩:=ha.move_ov (s:=t) Zo hk (-1) rfl h1 h2;exact fit i 40 Zo g2 (by rw[Ycu];exact c20 i 9 Zd) (by rw[Ycu];exact c16 i 6 hD Zd) Zd
 ·obtain⟨N,D,rfl,hD,h1,h2⟩:=st i t h
  obtain⟨D',g1,_,_,g2,g3,g4,_⟩:=ha.move_ov (s:=t) Zo hk (-1) rfl h1 h2;exact fit i 40 Zo g3 (c20 i 16 Zd) (Yak g1 (c16 i 14 hD Zd)) Zd
 ·obtain⟨N,D,rfl,hD,h1,h2⟩:=st i t h
  obtain⟨D',g1,_,_,g2,g3,g4,_⟩:=ha.move_ov (s:=t) Zo hk (-1) rfl h1 h2;exact fit i 40 Zo g4 (c20 i 17 Zd) (Yak g1 (c16 i 14 hD Zd)) Zd
end Go.Proofs.W
namespace Go.Mono
structure M22 where
 a:Rat
 b:Rat
 c:Rat
 d:Rat
def M22.mul (x y:M22):M22:=⟨x.a*y.a+x.b*y.c,x.a*y.b+x.b*y.d,x.c*y.a+x.d*y.c,x.c*y.b+x.d*y.d⟩
def M22.one:M22:=⟨Rat.divInt 1 1,Rat.divInt 0 1,Rat.divInt 0 1,Rat.divInt 1 1⟩
def M22.det (x:M22):Rat:=x.a*x.d-x.b*x.c
theorem Zsv:Rat.divInt 1 1=1:=by decide +kernel
theorem Zit:Rat.divInt 0 1=0:=by decide +kernel
theorem M22.mul_assoc (x y z:M22):(x.mul y).mul z=x.mul (y.mul z):=by
 unfold mul;congr 1<;>grind
theorem M22.det_mul (x y:M22):(x.mul y).det=x.det*y.det:=by
 unfold mul det;grind
theorem M22.mul_one (x:M22):x.mul .one=x:=by
 obtain⟨a,b,c,d⟩:=x;unfold mul one;rw[Zsv,Zit];congr 1<;>grind
def Lns.surM (a:Lns) (k s:Nat):M22:=⟨Rat.divInt 1 1,Rat.divInt 0 1,-a.pow k s,Rat.divInt 1 1⟩
def Lns.gapM (a:Lns) (k s:Nat):M22:=⟨Rat.divInt 1 1,Rat.divInt (a.S s).thick 1000000/a.nI k s,Rat.divInt 0 1,Rat.divInt 1 1⟩
def Lns.sysM (a:Lns) (k i:Nat):Nat->M22
 | 0=>(a.surM k i).mul .one
 | L+1=>(a.surM k (i+L+1)).mul ((a.gapM k (i+L)).mul (a.sysM k i L))
theorem Lns.sysM_s (a:Lns) (k i L:Nat):a.sysM k i (L+1)=(a.surM k (i+L+1)).mul ((a.gapM k (i+L)).mul (a.sysM k i L)):=rfl
theorem Lns.sysM_0 (a:Lns) (k i:Nat):a.sysM k i 0=a.surM k i:=M22.mul_one _
theorem Lns.sysM_det (a:Lns) (k i:Nat):∀L,(a.sysM k i L).det=1
 | 0 => by
   rw[a.sysM_0];unfold surM M22.det;rw[Zsv,Zit];grind
 | L + 1 => by
   rw[a.sysM_s,M22.det_mul,M22.det_mul,a.sysM_det k i L];unfold surM gapM M22.det;rw[Zsv,Zit];grind
def M22.app (x:M22) (r:Rat×Rat):Rat×Rat:=(x.a*r.1+x.b*r.2,x.c*r.1+x.d*r.2)
theorem M22.app_mul (x y:M22) (r:Rat×Rat):(x.mul y).app r=x.app (y.app r):=by
 unfold mul app;congr 1<;>grind
theorem Lns.sysM_tr (a:Lns) (k:Nat) (y u:Rat):∀L,(a.sysM k 0 L).app (y,u)=a.tr k y u (L+1)
 | 0 => by
   rw[a.sysM_0,a.tr_stp];unfold surM M22.app Lns.stp Lns.tr;rw[Zsv,Zit];dsimp only;rw[if_pos rfl];congr 1<;>grind
 | L + 1 => by
   rw[a.sysM_s,M22.app_mul,M22.app_mul,a.sysM_tr k y u L,a.tr_stp k y u (L+1),Yba];generalize a.tr k y u (L+1)=r;unfold surM gapM M22.app Lns.stp;rw[Zsv,Zit,if_neg (Nat.succ_ne_zero L),Ybf,Yga];simp only[Yew];generalize a.pow k (L+1)=p;generalize (a.nI k L)⁻¹=n;generalize Rat.divInt (a.S L).thick 1000000=g;congr 1<;>grind
structure M22.Ov (N D:Nat) (x:M22):Prop where
 a:Go.Mono.Ov N D x.a
 b:Go.Mono.Ov N D x.b
 c:Go.Mono.Ov N D x.c
 d:Go.Mono.Ov N D x.d
theorem M22.Ov.mono {N M D:Nat} {x:M22} (h:x.Ov N D) (hN:N<=M):x.Ov M D:=⟨h.a.mono hN,h.b.mono hN,h.c.mono hN,h.d.mono hN⟩
theorem M22.Ov.mul {N M D E:Nat} {x y:M22} (hx:x.Ov N D) (hy:y.Ov M E):(x.mul y).Ov (2*(N*M)) (D*E):=by
 rw[Nat.two_mul];exact⟨(hx.a.mul hy.a).add_same (hx.b.mul hy.c),(hx.a.mul hy.b).add_same (hx.b.mul hy.d),(hx.c.mul hy.a).add_same (hx.d.mul hy.c),(hx.c.mul hy.b).add_same (hx.d.mul hy.d)⟩
theorem Zfn (D:Nat) (h:0<D):Ov D D (Rat.divInt 1 1):=by
 have:=(Ov.of 1 1 Zd 1 Zd).scale D h;rwa [Nat.one_mul]at this
theorem Zj4 (N D:Nat) (h:0<D):Ov N D (Rat.divInt 0 1):=by
 have:=(Ov.of 0 1 Zd 0 Zd).scale D h;rw[Nat.one_mul,Yez]at this;exact this.mono (Yat _)
theorem M22.one_ov:M22.one.Ov 1 1:=⟨Zfn 1 Zd,Zj4 _ _ Zd,Zj4 _ _ Zd,Zfn 1 Zd⟩
theorem Lns.opt.surM_ov {a:Lns} (ha:a.opt) {k s:Nat} (hs:s<a.ns) (hk:k<a.nw):(a.surM k s).Ov (10 ^ 19) (10 ^ 16):=
 ⟨(Zfn _ Zd).mono Zd,Zj4 _ _ Zd,(ha.pow_ov hs hk).neg,(Zfn _ Zd).mono Zd⟩
theorem Lns.opt.gapM_ov {a:Lns} (ha:a.opt) {k s:Nat} (hs:s<a.ns) (hk:k<a.nw):∃D,0<D∧D<=10 ^ 14∧(a.gapM k s).Ov (10 ^ 16) D:=by
 obtain⟨m,m0,m1,hm⟩:=ha.nI_inv hs hk;have h1:=(ha.gap_ov hs 1 rfl).mul hm;rw[Yga,<-Yew]at h1;have e:1000000*m<=10 ^ 14:=by
  have:(10:Nat) ^ 14=100000000000000:=Zd;omega
 have e2:1000000*m<=10 ^ 16:=Yak e Zd;exact⟨1000000*m,Zo,e,(Zfn _ Zo).mono e2,h1.mono Zd,Zj4 _ _ Zo,(Zfn _ Zo).mono e2⟩
theorem Lns.opt.gapS_ov {a:Lns} (ha:a.opt) {k s:Nat} (hs:s<a.ns) (hk:k<a.nw) {K E D:Nat} {x:M22} (hx:x.Ov (10 ^ K) D) (hD:D<=10 ^ E):∃D',D'<=10 ^ (E+14)∧((a.gapM k s).mul x).Ov (10 ^ (K+17)) D':=by
 obtain⟨D1,_,h1,h2⟩:=ha.gapM_ov hs hk;refine⟨D1*D,?_,(h2.mul hx).mono ?_⟩
 ·rw[Ydn,Ycu];exact Ybv hD h1
 ·rw[Ydn,Ycu (10 ^ 16),<-Yfv,Ycu 2,Yfv]
  exact Yci _ Zd
theorem Lns.opt.surS_ov {a:Lns} (ha:a.opt) {k s:Nat} (hs:s<a.ns) (hk:k<a.nw) {K E D:Nat} {x:M22} (hx:x.Ov (10 ^ K) D) (hD:D<=10 ^ E):∃D',D'<=10 ^ (E+16)∧((a.surM k s).mul x).Ov (10 ^ (K+20)) D':=by
 refine⟨10 ^ 16*D,?_,((ha.surM_ov hs hk).mul hx).mono ?_⟩
 ·rw[Ydn,Ycu];exact Ybd _ hD
 ·rw[Ydn,Ycu (10 ^ 19),<-Yfv,Ycu 2,Yfv]
  exact Yci _ Zd
theorem Lns.opt.sysM_ov {a:Lns} (ha:a.opt) {k i:Nat} (hk:k<a.nw):∀L,i+L<a.ns->∃D,D<=10 ^ (16+30*L)∧(a.sysM k i L).Ov (10 ^ (20+37*L)) D
 | 0, h => by
   obtain⟨D,h1,h2⟩:=ha.surS_ov (s:=i) Zo hk (K:=0) (E:=0) M22.one_ov (Yab _);exact⟨D,h1,h2⟩
 | L + 1, h => by
   obtain⟨D,h1,h2⟩:=Lns.opt.sysM_ov ha hk L (i:=i) Zo;obtain⟨D1,h3,h4⟩:=ha.gapS_ov (s:=i+L) Zo hk h2 h1;obtain⟨D2,h5,h6⟩:=ha.surS_ov (s:=i+L+1) Zo hk h4 h3;exact⟨D2,Yak h5 (Zbs Zo),by rw[show 20+37*(L+1)=20+37*L+17+20 by omega];exact h6⟩
section
section
variable (M:M22) (n:Rat)
def M22.fst:Rat:=(M.d-Rat.divInt 1 1)/M.c
end
variable {M:M22} {n:Rat}
end
end Go.Mono
namespace Go.Proofs.W
open Go.RowKit Go.Mono
section
open Go.Ex
def kO:Nat->Value:=λ_=>.bool false
theorem kO1 (i:Nat):(kO i).oneCell'=true:=rfl
section
variable (a:Lns) (q:Plc) (ns kb:Nat) (k:Int)
def obS (L:List Prop):List Prop:=(optU a q ns kb=optU a q ns kb)::(srfB a q ns=srfB a q ns)::(0<=k∧k<a.nw)::L
def obOf (n d:Int) (L:List Prop):List Prop:=inR n::inR d::(d≠0)::L
def obPw (s:Nat) (L:List Prop):List Prop:=obS a q ns kb k ((0<=(s:Int)∧(s:Int)<(ns:Int))::PowFits a k.toNat s::L)
def obIx (s:Nat) (L:List Prop):List Prop:=obS a q ns kb k ((0<=(s:Int)∧(s:Int)<(ns:Int))::L)
section
variable (y u:Rat)
def obBend (s:Nat) (L:List Prop):List Prop:=obPw a q ns kb k s (obOf 1 1 (Fits ((a.tr k.toNat y u (s+1)).1*a.pow k.toNat s)::Fits (Rat.divInt 1 1*((a.tr k.toNat y u (s+1)).1*a.pow k.toNat s))::Fits ((a.tr k.toNat y u (s+1)).2)::L))
def obMove (s:Nat) (L:List Prop):List Prop:=
 inK .i64 (1*(a.S s).thick)::obOf (1*(a.S s).thick) 1000000 (Fits (Rat.divInt (1*(a.S s).thick) 1000000*(a.tr k.toNat y u (s+1)).2)::obIx a q ns kb k s (((a.nI k.toNat s).num≠0)::Fits ((Rat.divInt (1*(a.S s).thick) 1000000*(a.tr k.toNat y u (s+1)).2)/a.nI k.toNat s)::Fits ((a.tr k.toNat y u (s+1)).1+((Rat.divInt (1*(a.S s).thick) 1000000*(a.tr k.toNat y u (s+1)).2)/a.nI k.toNat s))::L))
def obTrL (L:List Prop):Nat->Nat->List Prop
 | _,0=>L
 | 0,n+1=>obBend a q ns kb k y u 0 (obTrL L 1 n)
 | s+1,n+1=>obMove a q ns kb k y u s (obBend a q ns kb k y u (s+1) (obTrL L (s+2) n))
def obTrace (L:List Prop):List Prop:=obS a q ns kb k (obTrL a q ns kb k y u L 0 ns)
def obUnb (s i:Nat) (L:List Prop):List Prop:=obPw a q ns kb k s (obOf (-1) 1 (Fits ((a.bkn ns k.toNat y u i).1*a.pow k.toNat s)::Fits (Rat.divInt (-1) 1*((a.bkn ns k.toNat y u i).1*a.pow k.toNat s))::Fits ((a.bkn ns k.toNat y u i).2-Rat.divInt (-1) 1*((a.bkn ns k.toNat y u i).1*a.pow k.toNat s))::L))
def obUnm (t i:Nat) (L:List Prop):List Prop:=
 inK .i64 (-1*(a.S t).thick)::obOf (-1*(a.S t).thick) 1000000 (Fits (Rat.divInt (-1*(a.S t).thick) 1000000*((a.bkn ns k.toNat y u i).2-Rat.divInt (-1) 1*((a.bkn ns k.toNat y u i).1*a.pow k.toNat (t+1))))::obIx a q ns kb k t (((a.nI k.toNat t).num≠0)::Fits ((Rat.divInt (-1*(a.S t).thick) 1000000*((a.bkn ns k.toNat y u i).2-Rat.divInt (-1) 1*((a.bkn ns k.toNat y u i).1*a.pow k.toNat (t+1))))/a.nI k.toNat t)::Fits ((a.bkn ns k.toNat y u i).1+((Rat.divInt (-1*(a.S t).thick) 1000000*((a.bkn ns k.toNat y u i).2-Rat.divInt (-1) 1*((a.bkn ns k.toNat y u i).1*a.pow k.toNat (t+1))))/a.nI k.toNat t))::L))
def obBkL (L:List Prop):Nat->Nat->List Prop
 | 0,i=>obUnb a q ns kb k y u 0 i L
 | s+1,i=>obUnb a q ns kb k y u (s+1) i (obUnm a q ns kb k y u s i (obBkL L s (i+1)))
def obBack (L:List Prop):List Prop:=obS a q ns kb k (obBkL a q ns kb k y u L (ns-1) 0)
end
end
section
variable {a:Lns} (ha:a.opt) {q:Plc} {ns:Nat} (hns:a.ns=ns) {kb:Nat} {k:Int} (hk:0<=k∧k<a.nw) {L:List Prop}
include hk
theorem Zc1 (hL:AllP L):AllP (obS a q ns kb k L):=⟨rfl,rfl,hk,hL⟩
theorem Zj1 {s:Nat} (hs:s<ns) (hp:PowFits a k.toNat s) (hL:AllP L):AllP (obPw a q ns kb k s L):=Zc1 hk ⟨⟨Zo,Zo⟩,hp,hL⟩
theorem Zm9 {s:Nat} (hs:s<ns) (hL:AllP L):AllP (obIx a q ns kb k s L):=Zc1 hk ⟨⟨Zo,Zo⟩,hL⟩
omit hk in
theorem Zau {n d:Int} (hn:inR n) (hL:AllP L) (hd:inR d:=by exact⟨Zd,Zd⟩) (h0:d≠0:=by decide):AllP (obOf n d L):=⟨hn,hd,h0,hL⟩
omit hk in
include ha in
theorem Ze4 {s:Nat} (hs:s<a.ns) (j:Int) (hj:j=1∨j = -1):inR (j*(a.S s).thick):=by
 obtain⟨h1,h2⟩:=(ha.base.sok s hs).thick;rcases hj with rfl|rfl
 ·exact⟨Zo,Zo⟩
 ·exact⟨Zo,Zo⟩
include ha hns
theorem Zj2 {y u:Rat} (hf:TrFits a k.toNat y u) (hL:AllP L):∀n s,s+n=ns->AllP (obTrL a q ns kb k y u L s n)
 | 0,_,_=>by unfold obTrL;exact hL
 | n+1,0,h=>Zj1 hk Zo (hf.pow 0 Zo) (Zau ⟨Zd,Zd⟩ ⟨hf.b1 0 Zo,hf.b2 0 Zo,hf.b3 0 Zo,Zj2 hf hL n 1 Zo⟩)
 | n+1,s+1,h=>⟨Ze4 ha Zo 1 (.inl rfl),Zau (Ze4 ha Zo 1 (.inl rfl)) ⟨hf.m1 s Zo,Zm9 hk Zo ⟨hf.num s Zo,hf.m2 s Zo,hf.m3 s Zo,
     Zj1 hk Zo (hf.pow (s+1) Zo) (Zau ⟨Zd,Zd⟩ ⟨hf.b1 (s+1) Zo,hf.b2 (s+1) Zo,hf.b3 (s+1) Zo,Zj2 hf hL n (s+2) Zo⟩)⟩⟩⟩
theorem Zp7 {y u:Rat} (hf:TrFits a k.toNat y u) (hL:AllP L):AllP (obTrace a q ns kb k y u L):=Zc1 hk (Zj2 ha hns hk hf hL ns 0 Zo)
omit hns in
theorem Zol {y u:Rat} (hf:BkFits a k.toNat y u) (hL:AllP L):∀s i,s+i+1=a.ns->AllP (obBkL a q a.ns kb k y u L s i)
 | 0, i, h => by
   exact Zj1 hk Zo (hf.pow 0 Zo) (Zau ⟨Zd,Zd⟩ ⟨hf.b1 i 0 Zo,hf.b2 i 0 Zo,hf.b3 i 0 Zo,hL⟩)
 | s + 1, i, h => by
   exact Zj1 hk Zo (hf.pow (s+1) Zo) (Zau ⟨Zd,Zd⟩ ⟨hf.b1 i (s+1) Zo,hf.b2 i (s+1) Zo,hf.b3 i (s+1) Zo,
    Ze4 ha Zo (-1) (.inr rfl),Zau (Ze4 ha Zo (-1) (.inr rfl)) ⟨hf.m1 i s Zo,Zm9 hk Zo ⟨hf.num s Zo,hf.m2 i s Zo,hf.m3 i s Zo,Zol hf hL s (i+1) Zo⟩⟩⟩)
theorem Zzb {y u:Rat} (hf:BkFits a k.toNat y u) (hL:AllP L):AllP (obBack a q ns kb k y u L):=by
 have:=ha.base.ns.1;subst hns;exact Zc1 hk (Zol ha hk hf hL (a.ns-1) 0 Zo)
end
theorem Zhd {a:Lns} (ha:a.opt) {q:Plc} {ns:Nat} (hns:a.ns=ns) {w:World} (ho:OptAt w a q):∃b off,q.ps=some ⟨b,off,none⟩∧∀D vs,VwOk D w vs ⟨85,srfsU a q 0 ns,b,off,srfsC a q 0 ns⟩:=by
 have hn:=ha.base.ns.1;obtain⟨_,_,h⟩:=ho.surfs;obtain⟨b,off,hp,hb,hc⟩:=h Zo;refine⟨b,off,hp,λD vs=>⟨hb,λj v hj=>?_,(Zex ns 0).2 rfl⟩⟩;have hl:∀n s,(srfsC a q s n).length=n*22:=by
  intro n;induction n with
  | zero=>intro s;rfl
  | succ n ih=>intro s;unfold srfsC;rw[List.range'_succ,List.flatMap_cons,Yay,Yeb,Yfb];exact congrArg (· + 22) (ih (s+1))
 have hjl:j<ns*22:=by rw[<-hl ns 0];exact(Yan.1 hj).1
 have hg:=Zg5 a q ns 0 (j/22) (j%22) Zo Zo;rw[show j/22*22+j%22=j by omega,hj]at hg;cases hg;have:=hc (j/22) (j%22) Zo Zo;rw[show off+j/22*22+j%22=off+j by omega]at this;rw[Yba];exact this
theorem Zzc {a:Lns} {q:Plc} {ns kb:Nat} (hns:a.ns=ns) {w:World} {B b off:Nat} (hp:q.ps=some ⟨b,off,none⟩) (h:Box w B 40 (a.ovals q)) {D:Den} {vs:List Vw} (hk:nmV vs kb=some ⟨b,off,true,0,0⟩):VwOk D w vs ⟨40,optU a q ns kb,B,0,(a.ovals q).toList⟩:=by
 refine⟨h.lt,h.range,(Zdz hns).2 ⟨_,hk,?_⟩⟩;obtain⟨pf,cf,pw,cw,ps,cs,pc,cc,cp,cl,pi,ci,pI,cI⟩:=q;subst hp;rfl
noncomputable def spN {a:Lns} (ha:a.opt) {q:Plc} {ns m:Nat} (hns:a.ns=ns) {w0:World} (ho:OptAt w0 a q) (hp:PowsAt w0 m):List (Ctr (qDen kO kO1) Tryz.prog w0 (λ_=>False)):=cLookN ha hns ho::cIdxN ha hns ho::cPowN ha hns ho hp::cR4Of w0 _::cOfT w0 _::spS w0 _
end
end Go.Proofs.W
namespace Go.Ex
open Go.RowKit Go.Mono
def Ctr.listT {D:Den} {P:Program} {w0:World} (f:FuncId) (T:TypeId) (run:List SA->List (Nat×Blk)->List (Option Bool)->Option (Nat×List U×List SA×List Prop×List (Option Bool)))
    (sound:∀args bk orc m l rest obl orc',run args bk orc=some (m,l,rest,obl,orc')->(∀p∈obl,p)->∀ρ w vals,Frm w0 (λ_=>False) w->BkOk D ρ w w bk->denAs D ρ w args vals->
     Calls P f vals.toArray w λe w'=>∃b off cp cs vs,e=.returned (.tuple (Value.slice (some ⟨b,off,none⟩) m cp::vs).toArray)∧m<=cp∧w.heap.size<=b∧b<w'.heap.size∧w'.rangeAt b off cs∧denL D ρ w' l cs∧denAs D ρ w' rest vs∧Below w.heap.size w w'):Ctr D P w0 (λ_=>False) where
 f:=f
 run:=λargs bk c orc=>match run args bk orc with
  | some (m,l,rest,obl,orc')=>some ⟨.tup (.one (.sli c 0 m)::rest),[(c,⟨T,l,true,false,false⟩)],obl,orc',c+1,c+1,none⟩
  | none=>none
 cc:=by
  intro args bk c orc r h;split at h
  ·cases h;exact Nat.le_succ _
  ·cases h
 sound:=by
  intro args bk c orc r h hobl th ρ wc w vals hS hlt hn hargs;split at h
  ·rename_i m l rest obl orc' hr
   cases h;refine(sound _ _ _ _ _ _ _ _ hr hobl ρ w vals hS.fr (λk b hk hd=>?_) (hargs.mono (Nm.le.refl _) hS.ext)).mono ?_
   ·obtain⟨B,cs,h1,h2,h3,h4⟩:=hS.bkOk k b hk hd
    exact⟨B,cs,h1,h2,h3.mono (Nm.le.refl _) hS.ext,h4⟩
   ·rintro e w' ⟨b,off,cp,cs,vs,rfl,hm,hwb,hbw,hrg,hl,hrest,hb⟩
    obtain⟨k1,k2⟩:=hS.call hb c c (λk b hk=>Nat.not_le.2 (hlt k b hk));have hc:=hn c (Yab _) (Yca c);have g1:=k1.view hc T hbw (λj B hj _=>by have:=hS.lt j B hj;omega) hrg hl hlt;refine⟨_,_,w',rfl,⟨_,rfl,_,_,rfl,⟨_,cp,Zbf _ _ _,hm,rfl⟩,hrest.mono (Zdw hc) (Ext.refl _)⟩,g1,⟨Zdw hc,k2.ext,k2.size,k2.os,k2.tape,k2.output,k2.loc,λj x hj=>?_,Nat.le_succ _,λj hj=>Zar _ _ (by dsimp only at hj;omega)⟩⟩;rcases Zbr hj with ⟨rfl,rfl,_⟩|⟨e1,hj⟩
    ·exact .inr ⟨Yab _,Yca _,_,Zbf _ _ _,.inl hwb⟩
    ·exact .inl ⟨x,hj⟩
  ·cases h
def quosU:List U->Prop
 | []=>True
 | .quo _::l=>quosU l
 | _=>False
theorem Zhe {D:Den} {ρ ρ':Nm} {w:World}:∀{l:List U} {cs:List Value},quosU l->denL D ρ w l cs->denL D ρ' w l cs
 | [],_,_,h=>h
 | .quo _::l,_,hq,⟨c,d,e,h1,h2⟩=>⟨c,d,e,h1,Zhe hq h2⟩
end Go.Ex
namespace Go.Proofs.W
open Go.RowKit Go.Mono
section
open Go.Ex
def trU (a:Lns) (k:Nat) (y u:Rat):Nat->Nat->List U
 | _,0=>[]
 | s,n+1=>.quo (a.tr k y u (s+1)).1::.quo (a.tr k y u (s+1)).2::trU a k y u (s+1) n
theorem Zj3 (a:Lns) (k:Nat) (y u:Rat):∀n s,quosU (trU a k y u s n)
 | 0,_=>trivial
 | n+1,s=>Zj3 a k y u n (s+1)
section
variable {a:Lns} (ha:a.opt) (q:Plc) {ns m:Nat} {w0:World}
noncomputable def runP (hns:a.ns=ns) (ho:OptAt w0 a q) (hp:PowsAt w0 m) (f:FuncId) (args:List SA) (bk:List (Nat×Blk)) (c:Nat) (orc:List (Option Bool)):Option (SV×List Prop×List (Nat×Blk)×Option Value):=
 (evF Tryz.prog (spN ha hns ho hp) [] 24 [] f args bk c c orc).map λr=>(r.v,r.obl,r.wr,r.pan)
variable (ho:OptAt w0 a q) (hp:PowsAt w0 m) (k:Int) (y u:Rat)
noncomputable def trRun (hns:a.ns=ns):Prop:=runP ha q hns ho hp 65 [.agg (optU a q ns 0),.one (.sym k),.agg [.quo y],.agg [.quo u]] [(0,srfB a q ns)] 1 []=some (.tup [.one (.own (6+23*ns) ns 8),okV],obTrace a q ns 0 k y u [],[(6+23*ns,⟨57,trU a k.toNat y u 0 ns,false,true,false⟩)],none)
set_option maxRecDepth 100000
theorem Zzd (hns:a.ns=2):trRun ha q ho hp k y u hns:=by unfold trRun;kernel_rfl
theorem Zze (hns:a.ns=3):trRun ha q ho hp k y u hns:=by unfold trRun;kernel_rfl
theorem Zzf (hns:a.ns=4):trRun ha q ho hp k y u hns:=by unfold trRun;kernel_rfl
theorem Zzg (hns:a.ns=5):trRun ha q ho hp k y u hns:=by unfold trRun;kernel_rfl
theorem Zzh (hns:a.ns=6):trRun ha q ho hp k y u hns:=by unfold trRun;kernel_rfl
def obAt (a:Lns) (q:Plc) (ns:Nat) (k s:Int) (L:List Prop):List Prop:=obS a q ns 0 k ((decide (s<0)=false)::(decide (s>=(ns:Int))=false)::obS a q ns 0 k ((0<=s∧s<(ns:Int))::L))
theorem Zzy (hns:a.ns=ns) (s:Int):runP ha q hns ho hp 14 [.agg (optU a q ns 0),.one (.sym k),.one (.sym s)] [(0,srfB a q ns)] 1 [some false,some false]=some (.tup [.agg [.quo (a.nI k.toNat s.toNat)],okV],obAt a q ns k s [],[],none):=Zk
theorem Zzz (hns:a.ns=ns) (s:Int):runP ha q hns ho hp 220 [.agg (optU a q ns 0),.one (.sym k),.one (.sym s)] [(0,srfB a q ns)] 1 [some false,some false]=some (.tup [.agg [.quo (a.pow k.toNat s.toNat)],okV],obAt a q ns k s [PowFits a k.toNat s.toNat],[],none):=Zk
end
theorem Zzi {p:Nat->Prop} (h2:p 2) (h3:p 3) (h4:p 4) (h5:p 5) (h6:p 6) {n:Nat} (hn:2<=n∧n<=6):p n:=by
 rcases(by omega:n=2∨n=3∨n=4∨n=5∨n=6) with rfl|rfl|rfl|rfl|rfl<;>assumption
end
end Go.Proofs.W
namespace Go.Ex
theorem AllP.append:∀{l r:List Prop},AllP l->AllP r->AllP (l++r)
 | [],_,_,h=>h
 | _::_,_,⟨h1,h2⟩,h=>⟨h1,AllP.append h2 h⟩
end Go.Ex
namespace Go.Mono
def nq (n d:Int):Rat:=Rat.divInt n (1+d)
end Go.Mono
namespace Go.Proofs.W
open Go.RowKit Go.Mono
section
open Go.Ex
theorem Zlt {a:Lns} (ha:a.opt) {k:Nat} (hk:k<a.nw) {K:Nat} (hK:K+K<=4000) {y u:Rat} (hy:Hs K y) (hu:Hs K u):TrFits a k y u:=by
 obtain⟨D,hD,d1,d2⟩:=Hs.two hy hu;exact Zpw ha hk (K:=K+K) hK hD d1 d2
section
variable (a:Lns) (q:Plc)
def optBN (ns kb:Nat):Blk:=⟨40,optU a q ns kb,true,false,false⟩
end
end
end Go.Proofs.W
namespace Go.Ex
theorem Zx4 {P:Program} {Q:Exit->Act->World->Prop} {c c':Code} {a:Act} {w:World} (h:c'.wp P Q a w) (e:c'=c):c.wp P Q a w:=e▸h
end Go.Ex
namespace Go.Proofs.W
open Go.RowKit Go.Mono
section
open Go.Ex
theorem Zs1 {nw:Nat} (h:1<=nw):(if(nw:Int)>1 then(nw:Int) else 1)=nw:=by
 split<;>omega
end
section
open Go.Ex
section
variable {a:Lns} (ha:a.opt) {ns:Nat} (hns:a.ns=ns) (h6:2<=ns∧ns<=6) {q:Plc} {w:World} {m:Nat} (ho:OptAt w a q) (hp:PowsAt w m) {k:Int} (hk:0<=k∧k<a.nw)
theorem Zna {w:World} {B:Pl} {T:TypeId} {sp:Bool} {cs:List Value} (h:Holds w B T sp cs):w.rangeAt B.blk B.base cs:=λj v hj=>h.cell hj
theorem Zxw {w w':World} {ρ:Nm} {N n sz:Nat} {T:TypeId} {l:List U} {bk:List (Nat×Blk)} (hl:quosU l) {e:Ending} (hn:0<n)
  (h:∃v ρ',e=.returned v∧denV (qDen kO kO1) ρ' w' (.tup [.one (.own N n sz),okV]) v∧Below w.heap.size w w'∧ρ.le ρ'∧BkOk (qDen kO kO1) ρ' w' w' ([(N,⟨T,l,false,true,false⟩)]++bk)∧∀k b B,Liv ([(N,⟨T,l,false,true,false⟩)]++bk) k b->ρ' k=some B->(b.ro=false->w.heap.size<=B.blk)∧B.blk<w'.heap.size) :
  ∃b cp cs,e=.returned (.tuple #[.slice (some ⟨b,0,none⟩) n cp,.int .i64 0])∧n<=cp∧w.heap.size<=b∧b<w'.heap.size∧w'.rangeAt b 0 cs∧denL (qDen kO kO1) (λ_=>none) w' l cs∧Below w.heap.size w w':=by
 obtain⟨v,ρ',rfl,⟨vs,rfl,v1,r1,rfl,⟨B,hB,hcap,_,hbase,h1⟩,v2,r2,rfl,⟨h2,_⟩,h3⟩,hb,_,hbk,hliv⟩:=h;obtain rfl:r2=[]:=h3;have hlook:([(N,(⟨T,l,false,true,false⟩:Blk))]++bk).look N=some ⟨T,l,false,true,false⟩:=by simp[Zaq]
 obtain⟨B',cs,hB',hH,hd,_⟩:=hbk N _ hlook rfl;rw[hB]at hB';cases hB';obtain⟨l1,l2⟩:=hliv N _ B ⟨hlook,rfl⟩ hB;cases h1;cases h2;have hr:=Zna hH;rw[hbase]at hr;exact⟨B.blk,B.cap,cs,rfl,hcap,l1 rfl,l2,hr,Zhe hl hd,hb⟩
include ha hns h6 ho hp hk
theorem Zvm {y u:Rat} (hf:TrFits a k.toNat y u) {Vy Vu:Value} (dy:QV w Vy y) (du:QV w Vu u) :
  Calls Tryz.prog 65 #[.agg (a.ovals q),.int .i64 k,Vy,Vu] w λe w'=>∃b cp cs,e=.returned (.tuple #[.slice (some ⟨b,0,none⟩) ns cp,.int .i64 0])∧ns<=cp∧w.heap.size<=b∧b<w'.heap.size∧w'.rangeAt b 0 cs∧denL (qDen kO kO1) (λ_=>none) w' (trU a k.toNat y u 0 ns) cs∧Below w.heap.size w w':=by
 obtain⟨b,off,hps,hv⟩:=Zhd ha hns ho;have hr:trRun ha q ho hp k y u hns:=Zzi (p:=λn=>∀hns:a.ns=n,trRun ha q ho hp k y u hns) (Zzd ha q ho hp k y u) (Zze ha q ho hp k y u) (Zzf ha q ho hp k y u) (Zzg ha q ho hp k y u) (Zzh ha q ho hp k y u) h6 hns;refine(Zfy (D:=qDen kO kO1) Zde (spN ha hns ho hp) [] (vs:=[⟨85,srfsU a q 0 ns,b,off,srfsC a q 0 ns⟩]) [(0,srfB a q ns)] rfl rfl _ _ _ hr (Zp7 ha hns hk hf trivial) (λv hm=>by rw[Ycd.1 hm];exact hv _ _) (vals:=[.agg (a.ovals q),.int .i64 k,Vy,Vu]) ?_).mono λe w' h=>Zxw (Zj3 _ _ _ _ _ _) Zo h;refine⟨_,_,rfl,⟨(a.ovals q).toList,rfl,(Zdz hns).2 ⟨⟨b,off,true,0,0⟩,rfl,?_⟩⟩,_,_,rfl,rfl,_,_,rfl,den_quo.2 dy,_,_,rfl,den_quo.2 du,rfl⟩;obtain⟨pf,cf,pw,cw,ps,cs,pc,cc,cp,cl,pi,ci,pI,cI⟩:=q;subst hps;rfl
end
section
variable {a:Lns} (ha:a.opt) {q:Plc} {ns m:Nat} (hns:a.ns=ns) (h6:2<=ns∧ns<=6) {w0:World} (ho:OptAt w0 a q) (hp:PowsAt w0 m)
def cTraceX:Ctr (qDen kO kO1) Tryz.prog w0 (λ_=>False):=.listT 65 57 (λargs bk orc=>match args with
    | [.agg l, x, .agg y, .agg u] => match seesO a q ns l bk, Ex.intOf (some (.a x)), asQ y, asQ u with
      | some L,some (.i64,k,_),some y,some u=>some (ns,trU a k.toNat y u 0 ns,[okV],L++[0<=k∧k<a.nw,TrFits a k.toNat y u],orc)
      | _,_,_,_=>none
    | _=>none)<|by
 intro args bk orc n l rest obl orc' hr hobl ρ w vals hfr hb hargs;split at hr
 ·rename_i l1 x y u
  split at hr
  ·rename_i L k s y' u' h1 h2 h3 h4
   cases hr;obtain⟨v1,r1,rfl,⟨cs1,rfl,d1⟩,v2,r2,rfl,d2,v3,r3,rfl,d3,v4,r4,rfl,d4,h5⟩:=hargs;obtain rfl:r4=[]:=h5;obtain rfl:=Zbi (D:=qDen kO kO1) (ρ:=ρ) (w:=w) h2 d2;obtain⟨q',rfl,ho',_⟩:=Zdf hns h6.1 (ho.below hfr.below) h1 (λp hp=>hobl p (Ycy _ hp)) hb d1;refine(Zvm ha hns h6 ho' (hp.below hfr.below) (hobl (0<=k∧k<a.nw) Zs) (hobl (TrFits a k.toNat y' u') Zs) (Zd4 h3 d3) (Zd4 h4 d4)).mono ?_;rintro e w' ⟨b,cp,cs,rfl,hm,hwb,hbw,hrg,hl,hbl⟩;exact⟨b,0,cp,cs,[.int .i64 0],rfl,hm,hwb,hbw,hrg,Zhe (Zj3 _ _ _ _ _ _) hl,⟨_,[],rfl,⟨rfl,rfl⟩,rfl⟩,hbl⟩
  ·cases hr
 ·cases hr
def cAtX (g:FuncId) (f:Nat->Nat->Rat) (ob:Nat->Nat->List Prop) (hrun:∀{w:World} {q:Plc} (ho:OptAt w a q) (hp:PowsAt w m) (k s:Int),runP ha q hns ho hp g [.agg (optU a q ns 0),.one (.sym k),.one (.sym s)] [(0,srfB a q ns)] 1 [some false,some false]=some (.tup [.agg [.quo (f k.toNat s.toNat)],okV],obAt a q ns k s (ob k.toNat s.toNat),[],none)):Ctr (qDen kO kO1) Tryz.prog w0 (λ_=>False):=.plain g (λargs bk orc=>match args with
    | [.agg l, x, y] => match seesO a q ns l bk, Ex.intOf (some (.a x)), Ex.intOf (some (.a y)) with
      | some L,some (.i64,k,_),some (.i64,s,_)=>some (.tup [.agg [.quo (f k.toNat s.toNat)],okV],L++(0<=k∧k<a.nw)::(0<=s∧s<(ns:Int))::ob k.toNat s.toNat,orc)
      | _,_,_=>none
    | _=>none)<|by
 intro args bk orc v obl orc' hr hobl ρ w vals hfr hb hargs;split at hr
 ·rename_i l1 x y
  split at hr
  ·rename_i L k s1 s s2 h1 h2 h3
   cases hr;obtain⟨v1,r1,rfl,⟨cs1,rfl,d1⟩,v2,r2,rfl,d2,v3,r3,rfl,d3,h5⟩:=hargs;obtain rfl:r3=[]:=h5;obtain rfl:=Zbi (D:=qDen kO kO1) (ρ:=ρ) (w:=w) h2 d2;obtain rfl:=Zbi (D:=qDen kO kO1) (ρ:=ρ) (w:=w) h3 d3;obtain⟨q',rfl,ho',_⟩:=Zdf hns h6.1 (ho.below hfr.below) h1 (λp hp=>hobl p (Ycy _ hp)) hb d1;have hk:=hobl (0<=k∧k<a.nw) Zs;have hs:=hobl (0<=s∧s<(ns:Int)) Zs;obtain⟨b,off,hps,hv⟩:=Zhd ha hns ho';have hL:∀{l:List Prop},(∀p∈l,p)->AllP l:=λ{l} h=>by
    induction l with
    | nil=>trivial
    | cons p r ih=>exact⟨h p (Ycl ..),ih λx hx=>h x (Ybs _ hx)⟩
   refine(Zfy (D:=qDen kO kO1) Zde (spN ha hns ho' (hp.below hfr.below)) [] (vs:=[⟨85,srfsU a q' 0 ns,b,off,srfsC a q' 0 ns⟩]) [(0,srfB a q' ns)] rfl rfl _ _ _ (hrun ho' (hp.below hfr.below) k s) (Zc1 hk ⟨decide_eq_false Zo,decide_eq_false Zo,Zc1 hk ⟨hs,hL λp hp=>hobl p (by simp[hp])⟩⟩) (λv hm=>by rw[Ycd.1 hm];exact hv _ _) (vals:=[.agg (a.ovals q'),.int .i64 k,.int .i64 s]) ?_).mono ?_
   ·refine⟨_,_,rfl,⟨(a.ovals q').toList,rfl,(Zdz hns).2 ⟨⟨b,off,true,0,0⟩,rfl,?_⟩⟩,_,_,rfl,rfl,_,_,rfl,rfl,rfl⟩
    obtain⟨pf,cf,pw,cw,ps,cs,pc,cc,cp,cl,pi,ci,pI,cI⟩:=q';subst hps;rfl
   ·rintro e w' ⟨v,ρ',rfl,⟨vs,rfl,v1,r1,rfl,h1,v2,r2,rfl,h2,h3⟩,hbl,_⟩
    obtain rfl:r2=[]:=h3;exact⟨_,rfl,⟨_,rfl,_,_,rfl,den_quo.2 (den_quo.1 h1),_,_,rfl,h2,rfl⟩,hbl⟩
  ·cases hr
 ·cases hr
def cIndexX:Ctr (qDen kO kO1) Tryz.prog w0 (λ_=>False):=cAtX ha hns h6 ho hp 14 a.nI (λ_ _=>[]) λho hp k s=>Zzy ha _ ho hp k hns s
def cPowerX:Ctr (qDen kO kO1) Tryz.prog w0 (λ_=>False):=cAtX ha hns h6 ho hp 220 a.pow (λk s=>[PowFits a k s]) λho hp k s=>Zzz ha _ ho hp k hns s
end
end
end Go.Proofs.W
namespace Go.Ex
open Go.RowKit Go.Mono
section
def closedU:U->Bool
 | .val _=>true
 | .quo _=>true
 | .sym _=>true
 | .sml _ _=>true
 | _=>false
def closedL:List U->Bool
 | []=>true
 | u::l=>closedU u&&closedL l
def closedA:SA->Bool
 | .one u=>closedU u
 | .agg l=>closedL l
def closedAs:List SA->Bool
 | []=>true
 | x::l=>closedA x&&closedAs l
def closedV:SV->Bool
 | .a x=>closedA x
 | .tup l=>closedAs l
 | .no=>true
section
variable {D:Den} {ρ ρ':Nm} {w:World}
theorem Zhf {u:U} {cs:List Value} (hc:closedU u=true) (h:denU D ρ w u cs):denU D ρ' w u cs:=by
 cases u<;>first|exact h|cases hc
theorem Zhg:∀{l:List U} {cs:List Value},closedL l=true->denL D ρ w l cs->denL D ρ' w l cs
 | [],_,_,h=>h
 | u :: l, _, hc, ⟨c, d, e, h1, h2⟩ => by
   have hc:=Bool.and_eq_true_iff.1 hc;exact⟨c,d,e,Zhf hc.1 h1,Zhg hc.2 h2⟩
theorem Zhh:∀{x:SA} {v:Value},closedA x=true->denA D ρ w x v->denA D ρ' w x v
 | .one _,_,hc,h=>Zhf hc h
 | .agg _,_,hc,⟨cs,e,h⟩=>⟨cs,e,Zhg hc h⟩
theorem Zc2:∀{l:List SA} {vs:List Value},closedAs l=true->denAs D ρ w l vs->denAs D ρ' w l vs
 | [],_,_,h=>h
 | x :: l, _, hc, ⟨v, r, e, h1, h2⟩ => by
   have hc:=Bool.and_eq_true_iff.1 hc;exact⟨v,r,e,Zhh hc.1 h1,Zc2 hc.2 h2⟩
theorem Zec:∀{x:SV} {v:Value},closedV x=true->denV D ρ w x v->denV D ρ' w x v
 | .a _,_,hc,h=>Zhh hc h
 | .tup _,_,hc,⟨vs,e,h⟩=>⟨vs,e,Zc2 hc h⟩
 | .no,_,_,_=>trivial
end
def intsOf:List SA->Option (List Int)
 | []=>some []
 | x :: r => match Ex.intOf (some (.a x)), intsOf r with
   | some (.i64,z,_),some l=>some (z::l)
   | _,_=>none
theorem Zlr {D:Den} {ρ:Nm} {w:World}:∀{l:List SA} {zs:List Int} {vs:List Value},intsOf l=some zs->denAs D ρ w l vs->vs=zs.map (.int .i64)
 | [],zs,vs,h,hd=>by cases h;exact hd
 | x :: r, zs, vs, h, ⟨v, r', e, h1, h2⟩ => by
   unfold intsOf at h;split at h
   ·rename_i z b l hx hr
    cases h;rw[e,Zbi (D:=D) (ρ:=ρ) (w:=w) hx h1,Zlr hr h2];rfl
   ·cases h
theorem AllP.of:∀{l:List Prop},(∀p∈l,p)->AllP l
 | [],_=>trivial
 | p::r,h=>⟨h p (Ycl ..),AllP.of λx hx=>h x (Ybs _ hx)⟩
end
end Go.Ex
namespace Go.Proofs.W
open Go.RowKit Go.Mono
section
open Go.Ex
abbrev DO:Den:=qDen kO kO1
theorem Zfo {a:Lns} (ha:a.opt) {q:Plc} {ns:Nat} (hns:a.ns=ns) {w:World} (ho:OptAt w a q) (sp:List (Ctr DO Tryz.prog w (λ_=>False))) {g:FuncId} {d:Nat} {rest:List SA} {orc:List (Option Bool)} {V:SV} {L:List Prop}
  (hr:(evF Tryz.prog sp [] d [] g (.agg (optU a q ns 0)::rest) [(0,srfB a q ns)] 1 1 orc).map (λr=>(r.v,r.obl,r.wr,r.pan))=some (V,L,[],none)) (hL:AllP L) (hV:closedV V=true) {vals:List Value} {ρ0:Nm} (hc:closedAs rest=true) (hd:denAs DO ρ0 w rest vals) :
  Calls Tryz.prog g (.agg (a.ovals q)::vals).toArray w λe w'=>∃v,e=.returned v∧(∀ρ,denV DO ρ w' V v)∧Below w.heap.size w w':=by
 obtain⟨b,off,hps,hv⟩:=Zhd ha hns ho;refine(Zfy (D:=DO) Zde sp [] (vs:=[⟨85,srfsU a q 0 ns,b,off,srfsC a q 0 ns⟩]) [(0,srfB a q ns)] rfl rfl _ _ _ hr hL (λv hm=>by rw[Ycd.1 hm];exact hv _ _) (vals:=.agg (a.ovals q)::vals) ?_).mono ?_
 ·refine⟨_,_,rfl,⟨(a.ovals q).toList,rfl,(Zdz hns).2 ⟨⟨b,off,true,0,0⟩,rfl,?_⟩⟩,Zc2 hc hd⟩
  obtain⟨pf,cf,pw,cw,ps,cs,pc,cc,cp,cl,pi,ci,pI,cI⟩:=q;subst hps;rfl
 ·rintro e w' ⟨v,ρ',rfl,hden,hb,_⟩
  exact⟨v,rfl,λρ=>Zec hV hden,hb⟩
def cView {a:Lns} (ha:a.opt) {q:Plc} {ns m:Nat} (hns:a.ns=ns) {w0:World} (ho:OptAt w0 a q) (hp:PowsAt w0 m) (g:FuncId) (run:Int->List Int->Option (SV×List Prop))
    (hg:∀{w:World} {q:Plc},OptAt w a q->PowsAt w m->∀k l V L,run k l=some (V,L)->0<=k∧k<a.nw->(∀p∈L,p)->Calls Tryz.prog g (.agg (a.ovals q)::.int .i64 k::l.map (.int .i64)).toArray w λe w'=>∃v,e=.returned v∧(∀ρ,denV DO ρ w' V v)∧Below w.heap.size w w'):Ctr DO Tryz.prog w0 (λ_=>False):=.plain g (λargs bk orc=>match args with
    | .agg l :: x :: r => match seesO a q ns l bk, Ex.intOf (some (.a x)), intsOf r with
      | some L,some (.i64,k,_),some zs=>(run k zs).map λp=>(p.1,L++(0<=k∧k<a.nw)::p.2,orc)
      | _,_,_=>none
    | _=>none)<|by
 intro args bk orc v obl orc' hr hobl ρ w vals hfr hb hargs;split at hr
 ·rename_i l x r
  split at hr
  ·rename_i L k s zs h1 h2 h3
   obtain⟨⟨V,L'⟩,hrun,e⟩:=Yad.1 hr;cases e;obtain⟨v1,r1,rfl,⟨cs1,rfl,d1⟩,v2,r2,rfl,d2,d3⟩:=hargs;obtain rfl:=Zbi (D:=DO) (ρ:=ρ) (w:=w) h2 d2;obtain rfl:=Zlr h3 d3;obtain⟨q',rfl,ho',_⟩:=Zdf hns (by have:=ha.base.ns.1;omega) (ho.below hfr.below) h1 (λp hp=>hobl p (Ycy _ hp)) hb d1;refine(hg ho' (hp.below hfr.below) k zs V L' hrun (hobl (0<=k∧k<a.nw) Zs) (λp hp=>hobl p (by simp[hp]))).mono ?_;rintro e w' ⟨v,rfl,hv,hbl⟩;exact⟨v,rfl,hv ρ,hbl⟩
  ·cases hr
 ·cases hr
def cChkN {a:Lns} (ha:a.opt) {q:Plc} {ns:Nat} (hns:a.ns=ns) {w0:World} (ho:OptAt w0 a q):Ctr DO Tryz.prog w0 (λ_=>False):=.plain 86 (λargs bk orc=>match args with
    | [.agg l]=>(seesO a q ns l bk).map λL=>(.a okV,L,orc)
    | _=>none)<|by
 intro args bk orc v obl orc' hr hobl ρ w vals hfr hb hargs;split at hr
 ·rename_i l
  obtain⟨L,hL,e⟩:=Yad.1 hr;cases e;obtain⟨v1,r1,rfl,⟨cs1,rfl,d1⟩,h3⟩:=hargs;obtain rfl:r1=[]:=h3;obtain⟨q',rfl,ho',_⟩:=Zdf hns (by have:=ha.base.ns.1;omega) (ho.below hfr.below) hL hobl hb d1;refine(Zjq a ha q' w ho').mono ?_;rintro e w' ⟨rfl,hbl⟩;exact⟨_,rfl,⟨rfl,rfl⟩,hbl⟩
 ·cases hr
def MFits (x y:M22):Prop:=PFits x.a x.b x.c x.d y.a y.b y.c y.d
def prodRunN (args:List SA) (bk:List (Nat×Blk)) (orc:List (Option Bool)):Option (SV×List Prop×List (Option Bool)):=
 match args with
 | [.agg [.quo a,.quo b,.quo c,.quo d],.agg [.quo e,.quo f,.quo g,.quo h]]=>some (.a (.agg [.quo (a*e+b*g),.quo (a*f+b*h),.quo (c*e+d*g),.quo (c*f+d*h)]),[PFits a b c d e f g h],orc)
 | _=>none
def cProductN (w0:World) (X:Nat->Prop):Ctr DO Tryz.prog w0 X:=.plain 149 prodRunN<|by
 intro args bk orc v obl orc' hr hobl ρ w vals hfr hb hargs;unfold prodRunN at hr;split at hr
 ·rename_i a b c d e f g h
  cases hr;obtain⟨v1,r1,rfl,⟨cs1,rfl,h1⟩,v2,r2,rfl,⟨cs2,rfl,h2⟩,h3⟩:=hargs;obtain rfl:r2=[]:=h3;refine(Ziu a b c d e f g h (hobl _ (Ycl ..)) w ⟨cs1,rfl,Zdi (l:=[a,b,c,d]) h1⟩ ⟨cs2,rfl,Zdi (l:=[e,f,g,h]) h2⟩).mono ?_;rintro e' w' ⟨x,ρ',rfl,⟨cs,rfl,hx⟩,hbl⟩;rw[z0_]at hx;simp only[Rat.zero_add]at hx;exact⟨_,rfl,⟨cs,rfl,Zdi (l:=[a*e+b*g,a*f+b*h,c*e+d*g,c*f+d*h]) hx⟩,hbl⟩
 ·cases hr
theorem Zvp {N M D E k:Nat} {x y:M22} (hx:x.Ov N D) (hy:y.Ov M E) (hN:2*(N*M)<=10 ^ k) (hD:D*E<=10 ^ k) (hk:k<=5399):MFits x y:=by
 have hz:=hx.mul hy;have hN1:N*M<=10 ^ k:=Zo;have f1:∀{p q:Rat},Ov N D p->Ov M E q->Fits (p*q):=λh g=>(h.mul g).fits hk hN1 hD;exact⟨f1 hx.a hy.a,f1 hx.b hy.c,hz.a.fits hk hN hD,f1 hx.a hy.b,f1 hx.b hy.d,hz.b.fits hk hN hD,f1 hx.c hy.a,f1 hx.d hy.c,hz.c.fits hk hN hD,f1 hx.c hy.b,f1 hx.d hy.d,hz.d.fits hk hN hD⟩
def m22U (x:M22):SA:=.agg [.quo x.a,.quo x.b,.quo x.c,.quo x.d]
section
variable {a:Lns} (ha:a.opt) {q:Plc} {ns m:Nat} (hns:a.ns=ns) (h6:2<=ns∧ns<=6) {w0:World} (ho:OptAt w0 a q) (hp:PowsAt w0 m)
noncomputable def spX:List (Ctr DO Tryz.prog w0 (λ_=>False)):=cIndexX ha hns h6 ho hp::cPowerX ha hns h6 ho hp::cNegN w0 _::cProductN w0 _::cChkN ha hns ho::cR4Of w0 _::cOfT w0 _::spS w0 _
end
end
end Go.Proofs.W
