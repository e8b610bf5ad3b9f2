/- The drafted optics of chapter 13: what it is and that it is valid. Part 4 of 16. No condition beside the row. -/
import Derived.Test.YtgkmjekkefmejaaGreatDoorA25
import Derived.Test.YtgkmjekkefmejaaGreatDoorD02
import Derived.Test.YtgkmjekkefmejaaGreatDoorD03
set_option linter.unusedVariables false
set_option linter.unusedSimpArgs false
set_option maxRecDepth 100000
set_option maxHeartbeats 4000000
namespace Go.Proofs.W
open Go.RowKit Go.Mono
theorem Ztq {v:Value} {a:Nat} (w:World) (h:LgV 600 w v a) :
  Calls Tryz.prog 208 #[v] w λe w'=>∃v',e=.returned (.tuple #[v',.int .i64 0])∧LgV 600 w' v' (rtN a)∧Below w.heap.size w w':=by
 have q1:=λ(X:World) (hX:Ext w X)=>Zcp X (h.ext hX);have q2:=λ(X:World) (hX:Ext w X)=>Ztp X (h.ext hX) (Yab _);have hv:∃p n c,v=.agg #[.bool false,.slice p n c]:=by
  obtain⟨p,n,c,f,rfl,s1,d1,e1,l1⟩:=h;exact⟨p,n,c,by rw[decide_eq_false Zo]⟩
 obtain⟨p,n,c,rfl⟩:=hv;go_enter Tryz.func208,Tryz.ntmps208
 go_wp2_with first|(refine Zb6 (T0:=45) λW hB hs b0 b1=>?_)|(refine Zac rfl 45 (.tmp 1) rfl w.heap.size rfl 45 #[.bool false,.slice p n c] b0 _ Tryz.underlying45 rfl Zae ?_)
 refine(q1 W (.of_below hB)).mono ?_;rintro e W1 ⟨rfl,hb⟩;replace hB:=Zaa hB hb;replace b0:=b0.below hb;replace b1:=b1.below hb;have c0:=b0.cell 0;have l0:=b0.lt;go_wp2_with (refine Zac rfl 45 (.tmp 1) rfl w.heap.size rfl 45 #[.bool false,.slice p n c] b0 _ Tryz.underlying45 rfl Zae ?_)
 refine(q2 W1 (.of_below hB)).mono ?_;rintro e W2 ⟨v',rfl,hr,hb2⟩;obtain⟨sr,pr,nr,cr,rfl⟩:=hr.parts;replace hB:=Zaa hB hb2;replace b1:=b1.below hb2;clear q1 q2 b0 c0 l0;go_wp2_with (refine Zab rfl 45 _ _ rfl (w.heap.size+1) 0 45 _ #[.bool sr,.slice pr nr cr] #[.bool sr,.slice pr nr cr] rfl rfl b1 Zae (Yaa rfl) (Zal _ _ _ _) (Zag rfl) ?_;intro W3 hk b3)
 have hB3:=hk.below hB (Nat.le_succ _) hB.size;exact bodyPost_ret (b3.resultsT rfl _ _ rfl Tryz.underlying45 rfl Zae) rfl ⟨_,rfl,hr.ext (hk.ext b1 Zd),hB3⟩
theorem Zv8 {v:Value} {z:Nat} (w:World) (h:LgV 600 w v z) (hz:z<1000000000) :
  Calls Tryz.prog 209 #[v] w λe w'=>e=.returned (.tuple #[.int .i64 (z:Int),.int .i64 0])∧Below w.heap.size w w':=by
 have q1:=λ(X:World) (hX:Ext w X)=>Zcp X (h.ext hX);have q2:=λ(X:World) (hX:Ext w X) {m:Nat} {u:Value} {y:Int} (hu:LgV m X u y)=>Zft X (h.ext hX) hu
 have h1 : LgV 1 w v z := h.tight (by have : pw 1 = 1000000000 := by decide
                                      omega)
 obtain⟨p,n,c,f,rfl,s1,d1,e1,l1⟩:=h1;rw[decide_eq_false (show ¬(z:Int)<0 by omega)]at *;obtain⟨hc1,hn1,hx1⟩:=s1.opens;have hn01:n=0∨n=1:=Zo;have hval:n=0->z=0:=λe=>by subst e;simp[vf]at e1;omega
 have hval1:n=1->(z:Int)=f 0:=λe=>by subst e;simp[vf,pw]at e1;omega
 clear h s1 d1 e1;go_enter Tryz.func209,Tryz.ntmps209
 go_wp2_with first|(refine Zd5 (T0:=45) λW hB hs b0=>?_)|(refine Zac rfl 45 (.tmp 1) rfl w.heap.size rfl 45 #[.bool false,.slice p n c] b0 _ Tryz.underlying45 rfl Zae ?_)
 refine(q1 W (.of_below hB)).mono ?_;rintro e W1 ⟨rfl,hb⟩;replace hB:=Zaa hB hb;replace b0:=b0.below hb;clear q1 hb;go_wp2_with fail
 refine(Zea (-9223372036854775808) W1 Zd Zd).mono ?_;rintro e W2 ⟨v2,rfl,hv2,hb2⟩;obtain⟨L,hL,hv2⟩:∃L:Int,L<0∧LgV 3 W2 v2 L:=⟨_,Zd,hv2⟩
 obtain⟨s2,p2,n2,c2,rfl⟩:=hv2.parts;replace b0:=b0.below hb2;replace hB:=Zaa hB hb2;go_wp2_with fail
 refine(Zea 9223372036854775807 W2 Zd Zd).mono ?_;rintro e W3 ⟨v3,rfl,hv3,hb3⟩;obtain⟨M,hM,hv3⟩:∃M:Int,1000000000<M∧LgV 3 W3 v3 M:=⟨_,Zd,hv3⟩
 obtain⟨s3,p3,n3,c3,rfl⟩:=hv3.parts;replace b0:=b0.below hb3;replace hv2:=hv2.below hb3;replace hB:=Zaa hB hb3;clear hb2 hb3;go_wp2_with (refine Zcc 45 4 5 _ _ #[.bool s2,.slice p2 n2 c2] #[.bool s3,.slice p3 n3 c3] _ rfl rfl rfl rfl rfl rfl rfl rfl rfl rfl rfl rfl Zbv (by as_aux_lemma=>(intro _ _;kernel_rfl)) (by as_aux_lemma=>(intro _ _;kernel_rfl)) (by as_aux_lemma=>(intro _ _;kernel_rfl)) (by as_aux_lemma=>(intro _ _;kernel_rfl)) Zae rfl rfl (Zal _ _ _ _) (Zal _ _ _ _) ?_;intro W4 B4 B5 _ _ _ hB4 b4 b5;replace b0:=b0.below hB4;go_wp2_with first|(refine Zac rfl 45 (.tmp 1) rfl w.heap.size Zx 45 #[.bool false,.slice p n c] b0 _ Tryz.underlying45 rfl Zae ?_)|(refine Zac rfl 45 (.tmp 4) rfl B4 Zx 45 #[.bool s2,.slice p2 n2 c2] b4 _ Tryz.underlying45 rfl Zae ?_))
 replace hv2:=hv2.below hB4;replace hv3:=hv3.below hB4;replace hB:=Zaa hB hB4;refine(q2 W4 (.of_below hB) hv2).mono ?_;rintro e W5 ⟨rfl,hb5⟩;replace b0:=b0.below hb5;replace b5:=b5.below hb5;replace hv3:=hv3.below hb5;replace hB:=Zaa hB hb5;have hsg1:¬((z:Int)-L).sign<0:=by rw[Yeg Zo];decide
 generalize ((z:Int)-L).sign=g1 at *;clear hb5 hB4 b4 hv2;have cb0:=b0.cell;have lb0:=b0.lt;have fb0:=b0.frozen;have cb5:=b5.cell;have lb5:=b5.lt;have fb5:=b5.frozen;go_wp2_with fail
 refine(q2 W5 (.of_below hB) hv3).mono ?_;rintro e W6 ⟨rfl,hb6⟩;replace b0:=b0.below hb6;replace hB:=Zaa hB hb6;have hsg2:¬0<((z:Int)-M).sign:=by rw[Yep Zo];decide
 generalize ((z:Int)-M).sign=g2 at *;clear hb6 b5 cb5 lb5 fb5 cb0 lb0 fb0 hv3 q2;have cb0:=b0.cell;have lb0:=b0.lt;have fb0:=b0.frozen;rcases hn01 with rfl|rfl
 ·have hz0:=hval rfl
  subst hz0;clear hx1 hval hval1;go_wp2_with fail
  go_loopw [6,7] (λx y wr=>x=.int .i64 0∧y=.int .i64 (-1)∧wr=W6) (λ_ _ _=>0)
  case atStart=>exact⟨rfl,rfl,rfl⟩
  case round=>
   obtain⟨rfl,rfl,rfl⟩:=hrel;go_wp2
   go_ret2
   exact⟨rfl,hB⟩
 ·have hz1:=hval1 rfl
  obtain⟨b,off,rfl,hb,hcell⟩:=hx1 Zd;have x0:W6.cell? ⟨b,off,none⟩=some (.int .i64 (z:Int)):=by rw[hz1];simpa using(hB.cell (p:=⟨b,off+0,none⟩) hb).trans (hcell 0 Zd)
  clear hcell hval hval1 hz1;go_wp2_with fail
  go_loopw [6,7] (λx y wr=>((x=.int .i64 0∧y=.int .i64 0)∨(x=.int .i64 (z:Int)∧y=.int .i64 (-1)))∧wr=W6) (λ_ y _=>(intOf y+1).toNat)
  case atStart=>exact⟨.inl ⟨rfl,rfl⟩,rfl⟩
  case round=>
   obtain⟨⟨rfl,rfl⟩|⟨rfl,rfl⟩,rfl⟩:=hrel
   ·go_wp2
    go_roundw
    case rel=>exact⟨.inr ⟨Zs,Zs⟩,Zs⟩
    case measure=>simp[intOf]
   ·go_wp2
    go_ret2
    exact⟨rfl,hB⟩
theorem Ztr {v1 v2:Value} {z y:Int} (w:World) (h1:LgV 600 w v1 z) (h2:LgV 600 w v2 y) (hz:0<=z) (hy:0<y) :
  Calls Tryz.prog 229 #[v1,v2] w λe w'=>∃v,e=.returned v∧LgV 600 w' v (z/y)∧Below w.heap.size w w':=by
 have q1:=λ(X:World) (hX:Ext w X)=>Zco X (h1.ext hX) (h2.ext hX) (show y≠0 by omega) Zd Zd;have e1:z.tdiv y=z/y:=Ybk hz;have e2:¬z.tmod y<0:=by have:=Int.tmod_nonneg y hz;omega
 rw[e1]at q1;obtain⟨s1,p1,n1,c1,rfl⟩:=h1.parts;obtain⟨s2,p2,n2,c2,rfl⟩:=h2.parts;go_enter Tryz.func229,Tryz.ntmps229
 go_wp2_with fail
 refine Zbx λW hB hs b0 b1 b2=>?_;refine(q1 W (.of_below hB)).mono ?_;rintro e W1 ⟨vq,vr,rfl,hq,hr,hb⟩;obtain⟨sq,pq,nq,cq,rfl⟩:=hq.parts;have hr':∃pr nr cr,vr=.agg #[.bool false,.slice pr nr cr]:=by
  obtain⟨pr,nr,cr,f,rfl,_⟩:=hr;exact⟨pr,nr,cr,by rw[decide_eq_false Zo]⟩
 obtain⟨pr,nr,cr,rfl⟩:=hr';replace hB:=Zaa hB hb;replace b2:=b2.below hb;clear q1 hr b0 b1 hb;go_wp2_with (refine Zcc 45 5 6 _ _ #[.bool sq,.slice pq nq cq] #[.bool false,.slice pr nr cr] _ rfl rfl rfl rfl rfl rfl rfl rfl rfl rfl rfl rfl Zbv (by as_aux_lemma=>(intro _ _;kernel_rfl)) (by as_aux_lemma=>(intro _ _;kernel_rfl)) (by as_aux_lemma=>(intro _ _;kernel_rfl)) (by as_aux_lemma=>(intro _ _;kernel_rfl)) Zae rfl rfl (Zal _ _ _ _) (Zal _ _ _ _) ?_;intro W2 B5 B6 _ _ _ hB2 b5 b6;replace b2:=b2.below hB2;have c6:=b6.cell 0;have l6:=b6.lt;go_wp2_with first|(refine Zac rfl 45 (.tmp 5) rfl B5 Zx 45 #[.bool sq,.slice pq nq cq] b5 _ Tryz.underlying45 rfl Zae ?_)|(refine Zab rfl 45 _ _ rfl (w.heap.size+1+1) 0 45 _ #[.bool sq,.slice pq nq cq] #[.bool sq,.slice pq nq cq] rfl rfl b2 Zae (Yaa rfl) (Zal _ _ _ _) (Zag rfl) ?_;intro W3 hk b3))
 have hB2':=Zaa hB hB2;have hB3:=hk.below hB2' Zo hB2'.size;exact bodyPost_ret (b3.results rfl _ _ rfl Tryz.underlying45 rfl Zae) rfl ⟨_,rfl,(hq.below hB2).ext (hk.ext b2 Zd),hB3⟩
theorem Zqo {v:Value} {q:Rat} (w:World) (h:QtV 600 w v q) (hq0:0<=q.num) :
  Calls Tryz.prog 205 #[v] w λe w'=>∃v',e=.returned (.tuple #[v',.int .i64 0])∧LgV 600 w' v' (q.num/q.den)∧Below w.heap.size w w':=by
 have q1:=λ(X:World) (hX:Ext w X)=>Zb4 X (h.ext hX);obtain⟨s1,p1,n1,c1,s2,p2,n2,c2,rfl,h1,h2⟩:=h;have q2:=λ(X:World) (hX:Ext w X)=>Ztr X (h1.ext hX) (h2.ext hX) hq0 (by have:=q.den_pos;omega);go_enter Tryz.func205,Tryz.ntmps205
 go_wp2_with first|(refine Zb6 (T0:=47) λW hB hs b0 b1=>?_)|(refine Zac rfl 47 (.tmp 1) rfl w.heap.size rfl 47 #[.bool s1,.slice p1 n1 c1,.bool s2,.slice p2 n2 c2] b0 _ Tryz.underlying47 rfl Zax ?_)
 refine(q1 W (.of_below hB)).mono ?_;rintro e W1 ⟨rfl,hb⟩;replace hB:=Zaa hB hb;replace b0:=b0.below hb;replace b1:=b1.below hb;have cb0:=b0.cell;have lb0:=b0.lt;have fb0:=b0.frozen;go_wp2_with fail
 refine(q2 W1 (.of_below hB)).mono ?_;rintro e W2 ⟨v2,rfl,hv2,hb2⟩;replace hB:=Zaa hB hb2;replace b1:=b1.below hb2;have hv2':=hv2;obtain⟨p3,n3,c3,f3,rfl,_,_,_,hl3⟩:=hv2';have hl3':¬(600:Int)<n3:=Zo;generalize decide (q.num/q.den<0)=s3 at *;clear q1 q2 b0 cb0 lb0 fb0;go_wp2_with (refine Zeb 45 4 _ #[.bool s3,.slice p3 n3 c3] _ rfl rfl rfl rfl rfl rfl Zbv (by as_aux_lemma=>(intro _;kernel_rfl)) (by as_aux_lemma=>(intro _;kernel_rfl)) Zae rfl (Zal _ _ _ _) ?_;intro W4 B4 _ hB4 b4;replace b1:=b1.below hB4;have c4:=b4.cell 1;have l4:=b4.lt;go_wp2_with first|(refine Zac rfl 45 (.tmp 4) rfl B4 Zx 45 #[.bool s3,.slice p3 n3 c3] b4 _ Tryz.underlying45 rfl Zae ?_)|(refine Zab rfl 45 _ _ rfl (w.heap.size+1) 0 45 _ #[.bool s3,.slice p3 n3 c3] #[.bool s3,.slice p3 n3 c3] rfl rfl b1 Zae (Yaa rfl) (Zal _ _ _ _) (Zag rfl) ?_;intro W5 hk b5))
 have hB4':=Zaa hB hB4;have hB5:=hk.below hB4' Zo hB4'.size;exact bodyPost_ret (b5.resultsT rfl _ _ rfl Tryz.underlying45 rfl Zae) rfl ⟨_,rfl,(hv2.below hB4).ext (hk.ext b1 Zd),hB5⟩
section
open Go.Ex
variable {K:Nat->Value} {hK:∀i,(K i).oneCell'=true}
def cR4Sign (w0:World) (X:Nat->Prop):Ctr (qDen K hK) Tryz.prog w0 X:=.plain 225 (λargs _ orc=>match args with
    | [.agg x]=>(asQ x).map λq=>(.tup [.one (.sym q.num.sign),okV],[],orc)
    | _=>none)<|by
    intro args bk orc v obl orc' hr hobl ρ w vals hfr hb hargs;split at hr
    ·rename_i x
     obtain⟨a,ha,e⟩:=Yad.1 hr;cases e;obtain⟨v1,r1,rfl,h1,h3⟩:=hargs;obtain rfl:r1=[]:=h3;refine(Zto w (Zd4 ha h1).qt).mono ?_;rintro e w' ⟨rfl,hbl⟩;exact⟨_,rfl,⟨[_,.int .i64 0],rfl,_,_,rfl,rfl,_,_,rfl,⟨rfl,rfl⟩,rfl⟩,hbl⟩
    ·cases hr
theorem Zwn {w:World} {v:Value} {n:Nat} (h:LgV 600 w v n) (ρ:Nm):denA (qDen K hK) ρ w (.agg [.val (.bool false),.dig n]) v:=by
 obtain⟨s,p,k,c,rfl⟩:=h.parts;obtain⟨hs,hz⟩:=h.sz;subst hs;rw[decide_eq_false (show ¬(n:Int)<0 by omega)];exact⟨[.bool false,.slice p k c],rfl,[_],_,rfl,⟨rfl,rfl⟩,[_],[],rfl,⟨_,⟨⟨_,_,_,rfl⟩,by simpa using hz⟩,rfl⟩,rfl⟩
theorem Zzo {w:World} {v:Value} {n:Nat} {ρ:Nm} (h:denA (qDen K hK) ρ w (.agg [.val (.bool false),.dig n]) v):LgV 600 w v n:=by
 obtain⟨cs,rfl,c1,d1,rfl,⟨rfl,_⟩,c2,d2,rfl,⟨v2,⟨⟨p,k,c,rfl⟩,hs2⟩,rfl⟩,hd2⟩:=h;obtain rfl:d2=[]:=hd2;exact LgV.of_sz (by rw[decide_eq_false Zo]) (by simpa using hs2)
def asL (l:List U):Option Nat:=
 match l with
 | [.val (.bool false),.dig n]=>some n
 | _=>none
theorem Zwo {l:List U} {n:Nat} (h:asL l=some n) {w:World} {v:Value} {ρ:Nm} (hd:denA (qDen K hK) ρ w (.agg l) v):LgV 600 w v n:=by
 unfold asL at h;split at h
 ·cases h;exact Zzo hd
 ·cases h
def digV (n:Nat):SA:=.agg [.val (.bool false),.dig n]
def cR4Floor (w0:World) (X:Nat->Prop):Ctr (qDen K hK) Tryz.prog w0 X:=.plain 205 (λargs _ orc=>match args with
    | [.agg x]=>(asQ x).map λq=>(.tup [digV q.floor.toNat,okV],[0<=q],orc)
    | _=>none)<|by
    intro args bk orc v obl orc' hr hobl ρ w vals hfr hb hargs;split at hr
    ·rename_i x
     obtain⟨a,ha,e⟩:=Yad.1 hr;cases e;obtain⟨v1,r1,rfl,h1,h3⟩:=hargs;obtain rfl:r1=[]:=h3;have h0:0<=a.num:=Rat.num_nonneg.2 (hobl (0<=a) Zs);refine(Zqo w (Zd4 ha h1).qt h0).mono ?_;rintro e w' ⟨v',rfl,hl,hbl⟩;have hf:a.num/(a.den:Int)=(a.floor.toNat:Int):=by
      rw[Rat.floor_def,Int.toNat_of_nonneg (Ydq h0 Zo)]
     rw[hf]at hl;exact⟨_,rfl,⟨[v',.int .i64 0],rfl,_,_,rfl,Zwn hl _,_,_,rfl,⟨rfl,rfl⟩,rfl⟩,hbl⟩
    ·cases hr
noncomputable def cR3Sqrt (w0:World) (X:Nat->Prop):Ctr (qDen K hK) Tryz.prog w0 X:=.plain 208 (λargs _ orc=>match args with
  | [.agg x]=>(asL x).map λ(n:Nat)=>(.tup [digV (rtN n),okV],[],orc)
  | _=>none)<|by
  intro args bk orc v obl orc' hr hobl ρ w vals hfr hb hargs;split at hr
  ·rename_i x
   obtain⟨a,ha,e⟩:=Yad.1 hr;cases e;obtain⟨v1,r1,rfl,h1,h3⟩:=hargs;obtain rfl:r1=[]:=h3;refine(Ztq w (Zwo ha h1)).mono ?_;rintro e w' ⟨v',rfl,hl,hbl⟩;exact⟨_,rfl,⟨[v',.int .i64 0],rfl,_,_,rfl,Zwn hl _,_,_,rfl,⟨rfl,rfl⟩,rfl⟩,hbl⟩
  ·cases hr
def cR3Int (w0:World) (X:Nat->Prop):Ctr (qDen K hK) Tryz.prog w0 X:=.plain 209 (λargs _ orc=>match args with
    | [.agg x]=>(asL x).map λ(n:Nat)=>(.tup [.one (.sym (n:Int)),okV],[n<1000000000],orc)
    | _=>none)<|by
    intro args bk orc v obl orc' hr hobl ρ w vals hfr hb hargs;split at hr
    ·rename_i x
     obtain⟨a,ha,e⟩:=Yad.1 hr;cases e;obtain⟨v1,r1,rfl,h1,h3⟩:=hargs;obtain rfl:r1=[]:=h3;refine(Zv8 w (Zwo ha h1) (hobl (a<1000000000) Zs)).mono ?_;rintro e w' ⟨rfl,hbl⟩;exact⟨_,rfl,⟨[_,.int .i64 0],rfl,_,_,rfl,rfl,_,_,rfl,⟨rfl,rfl⟩,rfl⟩,hbl⟩
    ·cases hr
noncomputable def spG (w0:World) (X:Nat->Prop):List (Ctr (qDen K hK) Tryz.prog w0 X):=[cR4Add sideS w0 X,cR4Mul sideS w0 X,cR4Of w0 X,cR4Div sideS w0 X,cR4Sign w0 X,cR4Floor w0 X,cR3Sqrt w0 X,cR3Int w0 X]
end
end Go.Proofs.W
