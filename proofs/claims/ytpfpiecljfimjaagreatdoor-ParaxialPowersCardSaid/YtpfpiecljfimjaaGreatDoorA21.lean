/- Contracts of package paraxial,and a verified evaluator. Part 21 of 26. No condition beside the row. -/
import Derived.Outline
import Derived.Test.YtpfpiecljfimjaaGreatDoorA04
import Derived.Test.YtpfpiecljfimjaaGreatDoorA06
import Derived.Test.YtpfpiecljfimjaaGreatDoorA10
import Derived.Test.YtpfpiecljfimjaaGreatDoorA11
import Derived.Test.YtpfpiecljfimjaaGreatDoorA12
import Derived.Test.YtpfpiecljfimjaaGreatDoorA17
import Derived.Test.YtpfpiecljfimjaaGreatDoorA20
set_option linter.unusedVariables false
set_option linter.unusedSimpArgs false
set_option maxRecDepth 100000
set_option maxHeartbeats 4000000
namespace Go.Proofs.W
open Go.RowKit Go.Mono
section
open Go.Ex
def kF:Nat->Value:=λ_=>.bool false
theorem kF1 (i:Nat):(kF i).oneCell'=true:=rfl
theorem Zwm {K:Nat->Value} {hK:∀i,(K i).oneCell'=true} {ρ:Nm} {w:World} {bk:List (Nat×Blk)} (hB:BkOk (qDen K hK) ρ w w bk) {u:U} {v:Value} (hu:denU (qDen K hK) ρ w u [v]) {n:Nat} {us:List U} (h:rdU bk 1 u=some (n,us)) {z:Int} (hz:intsU us=some (List.replicate n z)) :
  ∃p c,v=.slice p n c∧RdF w p n c (λ_=>z):=by
 obtain⟨p,c,ds,rfl,a1,b1,l1,m1,r1⟩:=Zfx hB hu h;obtain rfl:=Zcz hz l1;refine⟨p,c,rfl,a1,Zo,λhn=>?_⟩;obtain⟨b,off,q1,q2,q3⟩:=r1 hn Zd;exact⟨b,off,q1,q2,λi hi=>q3 i _ (by simp[List.getElem?_replicate,hi])⟩
theorem Zdo (n:Nat) (hn:0<n) (hev:∀w:World,(evF Tryz.prog (w0:=w) (X:=λ_=>False) (D:=qDen kF kF1) [] [] 5 [] 163 [.one (.sli 0 0 1),.one (.val (.int .i64 n))] [(0,⟨3,[.val (.int .i64 10000000)],true,false,false⟩)] 1 1 []).map (λr=>(r.v,r.obl,r.wr,r.pan)) =
   some (.a (.one (.slc 1 0 n n)),[],[(1,⟨3,List.replicate n (.val (.int .i64 10000000)),false,false,false⟩)],none)) (hz:rdU [(1,⟨3,List.replicate n (.val (.int .i64 10000000)),false,false,false⟩),(0,⟨3,[.val (.int .i64 10000000)],true,false,false⟩)] 1 (.slc 1 0 n n)=some (n,List.replicate n (.val (.int .i64 10000000))))
   (hi:intsU (List.replicate n (.val (.int .i64 10000000)))=some (List.replicate n 10000000))
  (p:Option Addr) (c:Nat) (w:World) (h:RdF w p 1 c (λ_=>10000000)) :
  Calls Tryz.prog 163 #[.slice p 1 c,.int .i64 n] w λe w'=>∃p' c',e=.returned (.slice p' n c')∧RdF w' p' n c' (λ_=>10000000)∧Below w.heap.size w w':=by
 obtain⟨h1,h2,h3⟩:=h;obtain⟨b,off,rfl,hb,hc⟩:=h3 Zd;refine(Zet (D:=qDen kF kF1) (vs:=[⟨3,[.val (.int .i64 10000000)],b,off,[.int .i64 10000000]⟩]) (args:=[.one (.sli 0 0 1),.one (.val (.int .i64 n))]) (vals:=[.slice (some ⟨b,off,none⟩) 1 c,.int .i64 n]) Zd2 [] [] _ rfl rfl _ [] _ (hev w) trivial ?_ ?_).mono ?_
 ·intro v hv
  obtain rfl:v=_:=by simpa using hv
  refine⟨hb,λj x hj=>?_,⟨_,[],rfl,⟨rfl,rfl⟩,rfl⟩⟩;have:j=0:=by
   have:=(Yan.1 hj).1;simpa using this
  subst this;obtain rfl:Value.int .i64 10000000=x:=by simpa using hj
  exact hc 0 Zd
 ·exact⟨_,_,rfl,⟨⟨b,off,true,0,0⟩,c,rfl,h1,rfl⟩,_,_,rfl,⟨rfl,rfl⟩,rfl⟩
 ·rintro e w' ⟨v,ρ',rfl,hv,hbl,_,hB,_⟩
  obtain⟨p',c',rfl,hr⟩:=Zwm hB (u:=.slc 1 0 n n) hv (us:=List.replicate n (.val (.int .i64 10000000))) hz hi;exact⟨_,_,rfl,hr,hbl⟩
theorem Zo4 (n:Nat) (h0:1<=n) (h5:n<=5) (p:Option Addr) (c:Nat) (w:World) (h:RdF w p 1 c (λ_=>10000000)) :
  Calls Tryz.prog 163 #[.slice p 1 c,.int .i64 n] w λe w'=>∃p' c',e=.returned (.slice p' n c')∧RdF w' p' n c' (λ_=>10000000)∧Below w.heap.size w w':=by
 rcases(by omega:n=1∨n=2∨n=3∨n=4∨n=5) with rfl|rfl|rfl|rfl|rfl
 ·exact Zdo 1 Zd (λw=>Zk) rfl rfl p c w h
 ·exact Zdo 2 Zd (λw=>Zk) rfl rfl p c w h
 ·exact Zdo 3 Zd (λw=>Zk) rfl rfl p c w h
 ·exact Zdo 4 Zd (λw=>Zk) rfl rfl p c w h
 ·exact Zdo 5 Zd (λw=>Zk) rfl rfl p c w h
theorem Zwn (n:Nat) (h0:1<=n) (h5:n<=5) (M:Nat) (pw:Option Addr) (cw:Nat) (w:World) (hw:w.cell? ⟨M,6,none⟩=some (.slice pw n cw)) :
  Calls Tryz.prog 121 #[.pointer (some ⟨M,0,none⟩)] w λe w'=>∃p' c',e=.returned (.slice p' n c')∧RdF w' p' n c' (λ_=>10000000)∧Below w.heap.size w w':=by
 have hlt:M<w.heap.size:=block_lt_of_cell hw;go_enter Tryz.func121,Tryz.ntmps121
 go_wp2_with fail
 refine Zbg λW hB hs b0=>?_;refine(Zo4 n h0 h5 _ _ W (.box b0 0 1 _ (λi hi=>by obtain rfl:i=0:=(Zo);rfl) Zo)).mono ?_;rintro e w' ⟨p',c',rfl,hr,hb⟩;go_wp2
 go_ret
 exact⟨_,_,rfl,hr,Zaa hB hb⟩
theorem Zmc (a:Lns) (ha:a.opt) (q:Plc) (w:World) (h:OptAt w a q) :
  Calls Tryz.prog 78 #[.agg (a.ovals q)] w λe w'=>e=.returned (.int .i64 0)∧Below w.heap.size w w':=
 Zrl a ha q w h λM W hw=>Zwn a.nw ha.base.nw.1 ha.base.nw.2 M q.pw q.cw W hw
end
end Go.Proofs.W
namespace Go.Mono
open Go.RowKit
theorem QV.cells {w:World} {v:Value} {q:Rat} (h:QV w v q):∃C:Array Value,v=.agg C∧C.size=4∧C.all (·.oneCell')=true:=by
 obtain⟨p,k,c,p',k',c',rfl,_,_⟩:=h;exact⟨_,rfl,rfl,by simp[Value.oneCell']⟩
end Go.Mono
namespace Go.Proofs.W
open Go.RowKit Go.Mono
theorem Zda (w:World):(Instr.alloc 51 true (.tuple #[])).run Tryz.prog w=.ok (.pointer (some ⟨w.heap.size,0,none⟩)) (w.alloc (.cells #[.bool false,.slice none 0 0,.bool false,.slice none 0 0] 51)):=by
 go_simp
theorem Zah:(Tryz.prog.info? 51).map (·.size)=some 4:=Zk
theorem Zi7 (C:Array Value) (hC:C.size=4) (h1:C.all (·.oneCell')=true) (w:World) :
  Calls Tryz.prog 62 #[.agg C,.int .i64 0] w λe w'=>e=.returned (.agg C)∧Below w.heap.size w w':=by
 have hi:(Tryz.prog.info? 51).map (·.size)=some C.size:=by rw[hC];exact Zah
 go_enter Tryz.func62,Tryz.ntmps62
 go_step
 go_step
 go_step
 go_step
 go_step
 go_step
 go_step
 go_step
 go_step
 refine Zbm λW hB hsz b0 b1=>?_;go_wp2_with first|(refine Zac rfl 51 (.tmp 2) rfl w.heap.size rfl 51 C b0 _ Tryz.underlying51 rfl hi ?_)|(refine Zab rfl 51 (.tmp 4) (.tmp 10) rfl (w.heap.size+1) 0 51 _ C C rfl rfl b1 hi (Ybl (by rw[hC];rfl)) h1 (Zaf (by rw[hC];rfl)) ?_;intro W2 hk2 b12)
 refine bodyPost_ret (b12.results rfl _ _ rfl Tryz.underlying51 rfl hi) rfl ?_;exact⟨rfl,hk2.below hB Zo Zo⟩
theorem Zny (z:Int) (w:World):Calls Tryz.prog 80 #[.int .i64 z,.int .i64 0] w λe w'=>e=.returned (.int .i64 z)∧w'=w:=by
 go_enter Tryz.func80,Tryz.ntmps80
 go_wp2
 go_ret
 exact⟨rfl,rfl⟩
theorem Zg2 (n d:Int) (d0:d≠0) (w:World) (a1 : -9223372036854775808<=n) (a2:n<=9223372036854775807) (b1 : -9223372036854775808<=d) (b2:d<=9223372036854775807) :
  Calls Tryz.prog 79 #[.int .i64 n,.int .i64 d] w λe w'=>∃C,e=.returned (.agg C)∧QV w' (.agg C) (Rat.divInt n d)∧Below w.heap.size w w':=by
 go_enter Tryz.func79,Tryz.ntmps79
 go_wp2_with fail
 refine Zbg λW hB hs bR=>?_;refine(Zq9 n d d0 W a1 a2 b1 b2).mono ?_;rintro e W1 ⟨r,rfl,hr,hb⟩;obtain⟨C,rfl,hC,h1⟩:=hr.cells;have hi:(Tryz.prog.info? 51).map (·.size)=some C.size:=by rw[hC];exact Zah
 replace hB:=Zaa hB hb;replace bR:=bR.below hb;clear hb a1 a2 b1 b2 d0;go_wp2_with first|(go_at_call 62;refine(Zi7 C hC h1 _).mono ?_;rintro e W2 ⟨rfl,hb2⟩;have bR2:=bR.below hb2;have lR:=bR.lt)|(refine Zab rfl 51 (.tmp 4) (.tmp 10) rfl w.heap.size 0 51 _ C C rfl rfl bR2 hi (Ybl (by rw[hC];rfl)) h1 (Zaf (by rw[hC];rfl)) ?_;intro W3 hk3 b3)
 refine bodyPost_ret (b3.results rfl _ _ rfl Tryz.underlying51 rfl hi) rfl ?_;exact⟨C,rfl,hr.ext ((Ext.of_below hb2).trans (hk3.ext bR2 Zd)),hk3.below (Zaa hB hb2) Zo (by have:=hB.size;have:=hb2.size;omega)⟩
section
open Go.Ex
variable {K:Nat->Value} {hK:∀i,(K i).oneCell'=true}
def dS:Srf:=⟨0,0,0,0,0,0,0,0,0,0,0,0,0,{data:=#[]},0,0,0,0,0,0,0,[]⟩
def lforce {α:Type}:List Int->(List Int->α)->α
 | [],f=>f []
 | z::r,f=>icase z λz=>lforce r λr=>f (z::r)
theorem Zew {α:Type}:∀(l:List Int) (f:List Int->α),lforce l f=f l
 | [],f=>rfl
 | z::r,f=>by unfold lforce;rw[Zcx,Zew r]
def llforce {α:Type}:List (List Int)->(List (List Int)->α)->α
 | [],f=>f []
 | z::r,f=>lforce z λz=>llforce r λr=>f (z::r)
theorem Zid {α:Type}:∀(l:List (List Int)) (f:List (List Int)->α),llforce l f=f l
 | [],f=>rfl
 | z::r,f=>by unfold llforce;rw[Zew,Zid r]
def sforce {α:Type}:List Srf->(List Srf->α)->α
 | [],f=>f []
 | ⟨z1, z2, z3, z4, z5, z6, z7, z8, z9, z10, z11, z12, z13, g, z15, z16, z17, z18, z19, z20, z21, co⟩ :: r, f =>
   icase z1 λz1=>icase z2 λz2=>icase z3 λz3=>icase z4 λz4=>icase z5 λz5=>icase z6 λz6=>icase z7 λz7=>icase z8 λz8=>icase z9 λz9=>icase z10 λz10=>icase z11 λz11=>icase z12 λz12=>icase z13 λz13=>
   icase z15 λz15=>icase z16 λz16=>icase z17 λz17=>icase z18 λz18=>icase z19 λz19=>icase z20 λz20=>icase z21 λz21=>sforce r λr=>f (⟨z1,z2,z3,z4,z5,z6,z7,z8,z9,z10,z11,z12,z13,g,z15,z16,z17,z18,z19,z20,z21,co⟩::r)
theorem Zky {α:Type}:∀(l:List Srf) (f:List Srf->α),sforce l f=f l
 | [],f=>rfl
 | s :: r, f => by
   cases s;unfold sforce;simp only[Zcx];rw[Zky r]
def parseL (bk:List (Nat×Blk)) (x:List U) (ix:Nat->Nat->Int):Option Lns:=
 match x with
 | [um, ud, up, ut, ur, uf, uw, us, uc] => match strU um, intsU [ud, up, ut, ur] with
   | some nm,some [di,pu,st,pr]=>(match rdU bk 2 uf,rdU bk 2 uw,rdU bk 22 us,rdU bk 1 uc with
   | some (nf, lf), some (nw, lw), some (ns, ls), some (0, _) => (match intsU lf, intsU lw, srfU bk ls with
     | some F,some W,some S=>lforce F λF=>lforce W λW=>sforce S λS=>icase di λdi=>icase pu λpu=>icase st λst=>icase pr λpr=>ncase nf λnf=>ncase nw λnw=>ncase ns λns=>some ⟨nm,di,pu,st,pr,nf,λi=>F.getD (i*2) 0,λi=>F.getD (i*2+1) 0,nw,λi=>W.getD (i*2) 0,λi=>W.getD (i*2+1) 0,ns,λi=>S.getD i dS,ix⟩
     | _,_,_=>none)
   | _,_,_,_=>none)
   | _,_=>none
 | _=>none
theorem Zkz {w:World} {p:Option Addr} {n c:Nat} {F:List Int} (h1:n<=c) (h2:n<=1000000) (hl:F.length=n*2) (hc:0<n->0<2->∃b off,p=some ⟨b,off,none⟩∧b<w.heap.size∧∀i v,(F.map (Value.int .i64))[i]? = some v->w.cell? ⟨b,off+i,none⟩=some v) :
  RdC w p n c 2 (λi j=>if j=0 then .int .i64 (F.getD (i*2) 0) else .int .i64 (F.getD (i*2+1) 0)):=by
 refine⟨h1,Zo,λhn=>?_⟩;obtain⟨b,off,q1,q2,q3⟩:=hc hn Zd;refine⟨b,off,q1,q2,λi j hi hj=>?_⟩;rw[Ybj];apply q3;rcases(by omega:j=0∨j=1) with rfl|rfl
 ·have hlt:i*2<F.length:=by omega
  simp[hlt]
 ·have hlt:i*2+1<F.length:=by omega
  simp[hlt]
theorem Zro {ρ:Nm} {w:World} {bk:List (Nat×Blk)} (hB:BkOk (qDen K hK) ρ w w bk) {x:List U} {ix:Nat->Nat->Int} {a:Lns} (h:parseL bk x ix=some a) {cs:List Value} (hd:denL (qDen K hK) ρ w x cs) (pi:Option Addr) (ci:Nat) (pI:Nat->Option Addr) (cI:Nat->Nat) :
  a.ix=ix∧∃q:Plc,q.pi=pi∧q.ci=ci∧q.pI=pI∧q.cI=cI∧cs.toArray=a.lvals q∧LnsAt w a q:=by
 unfold parseL at h;split at h
 ·rename_i um ud up ut ur uf uw us uc
  split at h
  rotate_left
  ·cases h
  rename_i nm di pu st pr en ei;split at h
  ·rename_i nf lf nw lw ns ls lc hf hw hs hc
   split at h
   ·rename_i F W S eF eW eS
    rw[Zew,Zew,Zky,Zcx,Zcx,Zcx,Zcx,Zek,Zek,Zek]at h;cases h;have w1:∀{u:U} {sz n:Nat} {l:List U},rdU bk sz u=some (n,l)->u.w=1:=λ{u sz n l} hr=>by
     unfold rdU at hr;split at hr<;>first|rfl|cases hr
    obtain⟨k0,_,rfl,g0,k1,_,rfl,g1,k2,_,rfl,g2,k3,_,rfl,g3,k4,_,rfl,g4,c1,_,rfl,d1,c2,_,rfl,d2,c3,_,rfl,d3,c4,e4,rfl,d4,he⟩:=hd;obtain rfl:=Zrm en g0;have fi:=Zcz ei (ds:=k1++(k2++(k3++(k4++[])))) ⟨_,_,rfl,g1,_,_,rfl,g2,_,_,rfl,g3,_,_,rfl,g4,rfl⟩;rw[Ydg]at fi;have ee:∀R:List Value,k1++(k2++(k3++(k4++R)))=(k1++(k2++(k3++k4)))++R:=λR=>by simp only[Ybx]
    rw[ee,fi];obtain rfl:e4=[]:=he;have one:∀{u:U} {c:List Value} {sz n:Nat} {l:List U},rdU bk sz u=some (n,l)->denU (qDen K hK) ρ w u c->∃v,c=[v]:=λ{u c sz n l} hr hu=>by
     have:=hu.len;rw[w1 hr]at this;exact Ydr.1 this
    obtain⟨v1,rfl⟩:=one hf d1;obtain⟨v2,rfl⟩:=one hw d2;obtain⟨v3,rfl⟩:=one hs d3;obtain⟨v4,rfl⟩:=one hc d4;obtain⟨p1,k1,ds1,rfl,a1,b1,l1,m1,r1⟩:=Zfx hB d1 hf;obtain⟨p2,k2,ds2,rfl,a2,b2,l2,m2,r2⟩:=Zfx hB d2 hw;obtain⟨p3,k3,ds3,rfl,a3,b3,l3,m3,r3⟩:=Zfx hB d3 hs;obtain⟨p4,k4,ds4,rfl,a4,b4,l4,m4,r4⟩:=Zfx hB d4 hc;obtain rfl:=Zcz eF l1;obtain rfl:=Zcz eW l2;obtain⟨ps,hps,rfl⟩:=Zrn hB S.length (Yab _) eS l3;refine⟨rfl,⟨p1,k1,p2,k2,p3,k3,p4,k4,λi=>(ps.getD i (none,0)).1,λi=>(ps.getD i (none,0)).2,pi,ci,pI,cI⟩,rfl,rfl,rfl,rfl,rfl,?_,?_,?_,λi _=>?_⟩
    ·exact Zkz a1 b1 (by simpa using m1) r1
    ·exact Zkz a2 b2 (by simpa using m2) r2
    ·refine⟨a3,(show ns<=140737488351232 by omega),λhn=>?_⟩
     obtain⟨b,off,q1,q2,q3⟩:=r3 hn Zd;refine⟨b,off,q1,q2,λi j hi hj=>?_⟩;replace hi:i<ns:=hi;rw[Ybj];apply q3;have hlen:∀x∈S.zip ps,(x.1.cs x.2.1 x.2.2).toList.length=22:=λx _=>rfl;have hSl:S.length=ns:=by
      have h5:=Znv hlen;rw[h5,List.length_zip,hps,Nat.min_self]at m3;omega
     have hz:(S.zip ps)[i]? = some (S.getD i dS,ps.getD i (none,0)):=List.getElem?_zip_eq_some.2 ⟨by simp[hSl,hi],by simp[hps,hSl,hi]⟩;rw[Znu hlen i j hj,hz];rw[Yfq];exact Zwl hj
    ·have hnil:=Znt S.length (Yab _) eS
     have e:(S.getD i dS).co=[]:=by
      rw[Yac];cases hg:S[i]? with
      | none=>rfl
      | some s=>exact hnil s (Ych hg)
     show CoatAt w _ _ (S.getD i dS).co;rw[e];exact CoatAt.nil _ _ _
   ·cases h
  ·cases h
 ·cases h
def rowsU (bk:List (Nat×Blk)) (nw:Nat):List U->Option (List (List Int))
 | []=>some []
 | u :: l => match rdU bk 1 u with
   | some (n, us) => if Nat.beq n nw then (match intsU us, rowsU bk nw l with
     | some z,some r=>some (z::r)
     | _,_=>none) else none
   | none=>none
theorem Znw {ρ:Nm} {w:World} {bk:List (Nat×Blk)} (hB:BkOk (qDen K hK) ρ w w bk) {nw:Nat}:∀{us:List U} {R:List (List Int)} {ds:List Value},rowsU bk nw us=some R->denL (qDen K hK) ρ w us ds->
  ∃ps:List (Option Addr×Nat),ps.length=R.length∧ds=ps.map (λx=>Value.slice x.1 nw x.2)∧∀i,i<R.length->RdF w (ps.getD i (none,0)).1 nw (ps.getD i (none,0)).2 (λj=>(R.getD i []).getD j 0)
 | [],R,ds,h,hd=>by cases h;exact⟨[],rfl,hd,λi hi=>by simp at hi⟩
 | u :: l, R, ds, h, hd => by
   unfold rowsU at h;split at h
   ·rename_i n us hr
    split at h
    ·rename_i hn
     obtain rfl:=Ybe hn;split at h
     ·rename_i z r hz hrw
      cases h;obtain⟨c,d,rfl,hu,hd⟩:=hd;obtain⟨v,rfl⟩:∃v,c=[v]:=by
       have:=hu.len;have hw:u.w=1:=by
        unfold rdU at hr;split at hr<;>first|rfl|cases hr
       rw[hw]at this;exact Ydr.1 this
      obtain⟨p,c,ds,rfl,a1,b1,l1,m1,r1⟩:=Zfx hB hu hr;obtain rfl:=Zcz hz l1;obtain⟨ps,h1,rfl,h3⟩:=Znw hB hrw hd;refine⟨(p,c)::ps,by simp[h1],rfl,λi hi=>?_⟩;cases i with
      | zero =>
        refine⟨a1,Zo,λhn=>?_⟩;obtain⟨b,off,q1,q2,q3⟩:=r1 hn Zd;refine⟨b,off,q1,q2,λj hj=>q3 j _ ?_⟩;have hlt:j<z.length:=by
         rw[Ybt,Yfk]at m1;omega
        simp[hlt]
      | succ i =>
        have:=h3 i (by simpa using hi);simpa using this
     ·cases h
    ·cases h
   ·cases h
def parseO (bk:List (Nat×Blk)) (x:List U):Option Lns:=
 match x with
 | [a0, a1, a2, a3, a4, a5, a6, a7, a8, ui] =>
   match rdU bk 1 ui,rdU bk 2 a6 with
   | some (ni, li), some (nw, _) => (match rowsU bk nw li with
     | some R => llforce R λR => (match parseL bk [a0, a1, a2, a3, a4, a5, a6, a7, a8] (λi j => (R.getD i []).getD j 0) with
       | some a=>if Nat.beq ni a.ns&&Nat.beq nw a.nw&&Nat.beq R.length a.ns then some a else none
       | none=>none)
     | none=>none)
   | _,_=>none
 | _=>none
theorem Zrp {ρ:Nm} {w:World} {bk:List (Nat×Blk)} (hB:BkOk (qDen K hK) ρ w w bk) {x:List U} {a:Lns} (h:parseO bk x=some a) {cs:List Value} (hd:denL (qDen K hK) ρ w x cs) :
  ∃q:Plc,cs.toArray=a.ovals q∧OptAt w a q:=by
 unfold parseO at h;split at h
 ·rename_i a0 a1 a2 a3 a4 a5 a6 a7 a8 ui
  split at h
  ·rename_i ni li nw lw hi hw6
   split at h
   ·rename_i R hR
    rw[Zid]at h;split at h
    ·rename_i a' ha
     split at h
     ·rename_i hc
      cases h;rw[Yam,Yam]at hc;obtain⟨⟨c1,c2⟩,c3⟩:=hc;have c1:=Ybe c1;have c2:=Ybe c2;have c3:=Ybe c3;subst c1;subst c2;obtain⟨cs1,cs2,rfl,h9,h1⟩:∃cs1 cs2,cs=cs1++cs2∧denL (qDen K hK) ρ w [a0,a1,a2,a3,a4,a5,a6,a7,a8] cs1∧denL (qDen K hK) ρ w [ui] cs2:=by
       obtain⟨b0,_,rfl,g0,b1,_,rfl,g1,b2,_,rfl,g2,b3,_,rfl,g3,b4,_,rfl,g4,b5,_,rfl,g5,b6,_,rfl,g6,b7,_,rfl,g7,b8,_,rfl,g8,b9,r9,rfl,g9,g10⟩:=hd;exact⟨b0++(b1++(b2++(b3++(b4++(b5++(b6++(b7++(b8++[])))))))),b9++r9,by simp[Ybx],⟨_,_,rfl,g0,_,_,rfl,g1,_,_,rfl,g2,_,_,rfl,g3,_,_,rfl,g4,_,_,rfl,g5,_,_,rfl,g6,_,_,rfl,g7,_,_,rfl,g8,rfl⟩,_,_,rfl,g9,g10⟩
      obtain⟨c,d,rfl,hu,hdd⟩:=h1;obtain rfl:d=[]:=hdd;obtain⟨v,rfl⟩:∃v,c=[v]:=by
       have:=hu.len;have hw:ui.w=1:=by
        unfold rdU at hi;split at hi<;>first|rfl|cases hi
       rw[hw]at this;exact Ydr.1 this
      obtain⟨p,c,ds,rfl,a1,b1,l1,m1,r1⟩:=Zfx hB hu hi;obtain⟨ps,g1,rfl,g3⟩:=Znw hB hR l1;obtain⟨hix,q,q1,q2,q3,q4,q5,q6⟩:=Zro hB ha h9 p c (λi=>(ps.getD i (none,0)).1) (λi=>(ps.getD i (none,0)).2);refine⟨q,?_,?_⟩
      ·have:(cs1++([Value.slice p a.ns c]++[])).toArray=cs1.toArray.push (Value.slice p a.ns c):=by simp
       rw[this,q5];unfold Lns.lvals Lns.ovals;rw[q1,q2];rfl
      ·refine⟨q6,?_,?_⟩
       ·rw[q1,q2,q3,q4]
        refine⟨a1,Zo,λhn=>?_⟩;obtain⟨b,off,e1,e2,e3⟩:=r1 hn Zd;refine⟨b,off,e1,e2,λi j hi hj=>?_⟩;obtain rfl:j=0:=Zo;rw[Yfk,Yce];apply e3;have hlt:i<ps.length:=Zo;simp[hlt]
       ·intro i hi
        rw[q3,q4,hix];exact g3 i Zo
     ·cases h
    ·cases h
   ·cases h
  ·cases h
 ·cases h
def oCheckRun (args:List SA) (bk:List (Nat×Blk)) (orc:List (Option Bool)):Option (SV×List Prop×List (Option Bool)):=
 match args with
 | [.agg x] => match parseO bk x with
   | some a=>if a.optB then some (.a okV,[],orc) else none
   | none=>none
 | _=>none
def cOCheck (w0:World) (X:Nat->Prop):Ctr (qDen K hK) Tryz.prog w0 X:=.plain 78 oCheckRun<|by
    intro args bk orc v obl orc' hr hobl ρ w vals hfr hb hargs;unfold oCheckRun at hr;split at hr
    ·rename_i x
     split at hr
     ·rename_i a ha
      split at hr
      ·rename_i hok
       cases hr;obtain⟨v1,r1,rfl,⟨cs,rfl,h1⟩,h3⟩:=hargs;obtain rfl:r1=[]:=h3;obtain⟨q,q5,q6⟩:=Zrp hb ha h1;rw[q5];refine(Zmc a (Lns.optB_ok hok) q w q6).mono ?_;rintro e w' ⟨rfl,hbl⟩;exact⟨_,rfl,⟨rfl,rfl⟩,hbl⟩
      ·cases hr
     ·cases hr
    ·cases hr
end
end Go.Proofs.W
namespace Go.Mono
open Go.RowKit
def Lns.vvals (a:Lns) (q:Plc) (k:Int):Array Value:=
 #[.string a.nm,.int .i64 a.di,.int .i64 a.pu,.int .i64 a.st,.int .i64 a.pr,.slice q.pf a.nf q.cf,.slice q.pw a.nw q.cw,.slice q.ps a.ns q.cs,.slice q.pc 0 q.cc,.slice q.pi a.ns q.ci,.int .i64 k]
def Lns.nI (a:Lns) (k s:Nat):Rat:=Rat.divInt (a.ix s k*a.sgn (s+1)) 10000000
def Lns.nB (a:Lns) (k s:Nat):Rat:=if s=0 then Rat.divInt 1 1 else a.nI k (s-1)
theorem Znz {n g:Int} (h1:10000000<=n) (h2:n<=40000000) (hg:g=1∨g = -1) : -40000000<=n*g∧n*g<=40000000:=by
 rcases hg with rfl|rfl<;>omega
end Go.Mono
namespace Go.Proofs.W
open Go.RowKit Go.Mono
theorem Zi8 (a:Lns) (ha:a.opt) (q:Plc) (hchk:Chk a q) (s k:Nat) (w:World) (h:OptAt w a q) (s1:s<a.ns) (k1:k<a.nw) :
  Calls Tryz.prog 38 #[.agg (a.vvals q k),.int .i64 (s:Int)] w λe w'=>∃C,e=.returned (.agg C)∧QV w' (.agg C) (a.nI k s)∧Below w.heap.size w w':=by
 have hbe:=λW (hW:Below w.heap.size w W)=>Zrq a q hchk s k W (h.below hW) s1 k1;have hsi:=λW (hW:Below w.heap.size w W)=>Zwo a q hchk s W (h.below hW) s1 Zo ha.base.ns.2;obtain⟨i1,i2⟩:=ha.ir s k s1 k1;have hsg:=a.sgn_cases (s+1);obtain⟨g1,g2⟩:=Znz i1 i2 hsg;have hwr:IntKind.i64.wrap (a.ix s k*a.sgn (s+1))=a.ix s k*a.sgn (s+1):=by rw[Ybi];omega
 have hpo:=λW=>Zg2 (a.ix s k*a.sgn (s+1)) 10000000 Zd W Zo Zo Zd Zd;rw[show Rat.divInt (a.ix s k*a.sgn (s+1)) 10000000=a.nI k s from rfl]at hpo;have s0:¬((s:Int)<0):=Zo;simp only[Lns.ovals]at hbe hsi;simp only[Lns.vvals];generalize a.nI k s=rr at *;generalize a.ix s k=n at *;generalize a.sgn (s+1)=g at *;clear hchk h ha hsg i1 i2;go_enter Tryz.func38,Tryz.ntmps38
 go_wp2_with fail
 refine Zbj λW hB hs bV bR=>?_;refine(hbe W hB).mono ?_;rintro e W1 ⟨rfl,hb⟩;replace hB:=Zaa hB hb;replace bV:=bV.below hb;replace bR:=bR.below hb;have cV:=bV.cell;have lV:=bV.lt;clear hb;go_wp2_with first|(go_at_call 80;refine(Zny _ _).mono ?_;rintro e w5 ⟨rfl,h5⟩;rw[h5];clear h5 w5)
 refine(hsi W1 hB).mono ?_;rintro e W2 ⟨rfl,hb⟩;replace hB:=Zaa hB hb;replace bR:=bR.below hb;clear hb cV lV bV;go_wp2_with first|(go_at_call 80;refine(Zny _ _).mono ?_;rintro e w5 ⟨rfl,h5⟩;rw[h5];clear h5 w5)
 refine(hpo W2).mono ?_;rintro e W3 ⟨C,rfl,hr,hb⟩;obtain⟨C',hC',hC,h1⟩:=hr.cells;cases hC';have hi:(Tryz.prog.info? 51).map (·.size)=some C.size:=by rw[hC];exact Zah
 replace hB:=Zaa hB hb;replace bR:=bR.below hb;have lR:=bR.lt;go_wp2_with (refine Zab rfl 51 (.tmp 4) (.tmp 27) rfl (w.heap.size+1) 0 51 _ C C rfl rfl bR hi (Ybl (by rw[hC];rfl)) h1 (Zaf (by rw[hC];rfl)) ?_;intro W4 hk4 b4)
 refine bodyPost_ret (b4.results rfl _ _ rfl Tryz.underlying51 rfl hi) rfl ?_;exact⟨C,rfl,hr.ext (hk4.ext bR Zd),hk4.below hB Zo hB.size⟩
theorem Zrr (V:Array Value) (hV:V.size=11) (w:World) :
  Calls Tryz.prog 38 #[.agg V,.int .i64 (-1)] w λe w'=>∃C,e=.returned (.agg C)∧QV w' (.agg C) (Rat.divInt 1 1)∧Below w.heap.size w w':=by
 have hpo:=λW=>Zg2 1 1 Zd W Zd Zd Zd Zd;go_enter Tryz.func38,Tryz.ntmps38
 go_wp2_with fail
 refine Zbj λW hB hs bV bR=>?_;refine(hpo W).mono ?_;rintro e W3 ⟨C,rfl,hr,hb⟩;obtain⟨C',hC',hC,h1⟩:=hr.cells;cases hC';have hi:(Tryz.prog.info? 51).map (·.size)=some C.size:=by rw[hC];exact Zah
 replace hB:=Zaa hB hb;replace bR:=bR.below hb;have lR:=bR.lt;go_wp2_with (refine Zab rfl 51 (.tmp 4) (.tmp 8) rfl (w.heap.size+1) 0 51 _ C C rfl rfl bR hi (Ybl (by rw[hC];rfl)) h1 (Zaf (by rw[hC];rfl)) ?_;intro W4 hk4 b4)
 refine bodyPost_ret (b4.results rfl _ _ rfl Tryz.underlying51 rfl hi) rfl ?_;exact⟨C,rfl,hr.ext (hk4.ext bR Zd),hk4.below hB Zo hB.size⟩
end Go.Proofs.W
namespace Go.Mono
open Go.RowKit
section
section
variable {P:Program} {o:Oper} {a:Act} {w:World} {K:Act->World->Prop} {Q:Exit->Act->World->Prop}
end
section
variable {P:Program} {ops:Array Oper} {Q:Exit->Act->World->Prop} {md:Region.Mode} {S:World->Prop}
theorem Zb5 (B:Nat) (T:TypeId) (i:Nat) {o:Oper} (hi:ops[i]? = some o) (hg:o.guard=none) (hd:o.dst=none) {ty:TypeId} {x y:Operand} (ho:o.op=.store ty x y) (off:Nat) (cells cs new:Array Value) {a:Act} {fuel:Nat} {listed:Array Bool} {w:World}
  (hr:Region.ready md ops listed=[i]) (hS:∀w i u,S w->S (w.setCell ⟨B,i,none⟩ u)) (hx:a.eval x=.pointer (some ⟨B,off,none⟩)) (hy:a.eval y=.agg cells)
  (hb:Box w B T cs) (hs:S w) (hi2:(P.info? ty).map (·.size)=some cells.size) (hoff:off+cells.size<=cs.size) (h1:cells.all (·.oneCell')=true)
  (hn:cs.toList.take off++cells.toList++cs.toList.drop (off+cells.size)=new.toList)
  (h:∀w',KeepBut B w.heap.size w w'->Box w' B T new->S w'->wpAnyH P md ops Q S fuel (listed.setIfInBounds i true) a w'):wpAnyH P md ops Q S (fuel+1) listed a w:=by
 refine wpAnyH_all hr Zs λj hj=>?_;obtain rfl:j=i:=by simpa using hj
 unfold wpOp;rw[hi];have hw:Region.wanted o (yielded ops a.tmps)=true:=by simp[Region.wanted,hg]
 simp only[hw,if_true];left
 have hb2:=Box.setCells cells.toList off w cs hb (by simpa using hoff);have hb3:Box (w.setCells B off cells.toList) B T new:=by simpa[hn]using hb2
 have hs2:=Zbp hS cells.toList off w hs;refine wp_store_mid ty x y ho B off cells hx hy (hb.there off cells.size hoff) hi2 h1 ?_;rw[hd];exact⟨hs2,h _ ((KeepBut.refl _ _).setCells _ _ _) hb3 hs2⟩
end
end
section
section
variable {P:Program} {ops:Array Oper} {rest:List Oper} {a:Act} {w:World} {Q:Exit->Act->World->Prop} {T0 T1 T2 T3:TypeId} {c0 c1 c2 c3:Array Value}
end
end
theorem QV.four {w:World} {C:Array Value} {q:Rat} (h:QV w (.agg C) q):∃x0 x1 x2 x3:Value,C = #[x0,x1,x2,x3]∧x0.oneCell'=true∧x1.oneCell'=true∧x2.oneCell'=true∧x3.oneCell'=true:=by
 obtain⟨p,k,c,p',k',c',e,_,_⟩:=h;cases e;exact⟨_,_,_,_,rfl,rfl,rfl,rfl,rfl⟩
theorem Zdz {P:Program} {S:World->Prop} {oi:Oper} {a:Act} (t:TypeId) (parts:Array (Nat×Operand)) (ho:oi.op=.build t parts) (cells:Array Value)
  (hc:P.built t (parts.map λ(i,x)=>(i,a.eval x)).toList=some cells):∀w,S w->(execOp a.eval oi).run P w=.ok (.value (.agg cells)) w:=λw _=>by
 unfold execOp;have:=run_build w t (parts.map λ(i,x)=>(i,a.eval x)) cells hc;simp only[ho,Yar];first
  | (simp only[this,Yag,Yau];done)
  | (simp[this,Yag,Yau])
structure MV (w:World) (C:Array Value) (m:Mat):Prop where
 parts:∃a0 a1 a2 a3 b0 b1 b2 b3 c0 c1 c2 c3 d0 d1 d2 d3:Value,C = #[a0,a1,a2,a3,b0,b1,b2,b3,c0,c1,c2,c3,d0,d1,d2,d3]∧
  QV w (.agg #[a0,a1,a2,a3]) m.a∧QV w (.agg #[b0,b1,b2,b3]) m.b∧QV w (.agg #[c0,c1,c2,c3]) m.c∧QV w (.agg #[d0,d1,d2,d3]) m.d
theorem MV.ext {w w':World} {C:Array Value} {m:Mat} (h:MV w C m) (hx:Ext w w'):MV w' C m:=by
 obtain⟨a0,a1,a2,a3,b0,b1,b2,b3,c0,c1,c2,c3,d0,d1,d2,d3,rfl,h1,h2,h3,h4⟩:=h.parts;exact⟨⟨_,_,_,_,_,_,_,_,_,_,_,_,_,_,_,_,rfl,h1.ext hx,h2.ext hx,h3.ext hx,h4.ext hx⟩⟩
theorem MV.size {w:World} {C:Array Value} {m:Mat} (h:MV w C m):C.size=16:=by
 obtain⟨a0,a1,a2,a3,b0,b1,b2,b3,c0,c1,c2,c3,d0,d1,d2,d3,rfl,h1,h2,h3,h4⟩:=h.parts;rfl
theorem QV.ones {w:World} {x0 x1 x2 x3:Value} {q:Rat} (h:QV w (.agg #[x0,x1,x2,x3]) q):x0.oneCell'=true∧x1.oneCell'=true∧x2.oneCell'=true∧x3.oneCell'=true:=by
 obtain⟨y0,y1,y2,y3,e,h0,h1,h2,h3⟩:=h.four;cases e;exact⟨h0,h1,h2,h3⟩
theorem MV.ones {w:World} {C:Array Value} {m:Mat} (h:MV w C m):C.all (·.oneCell')=true:=by
 obtain⟨a0,a1,a2,a3,b0,b1,b2,b3,c0,c1,c2,c3,d0,d1,d2,d3,rfl,h1,h2,h3,h4⟩:=h.parts;obtain⟨x0,x1,x2,x3⟩:=h1.ones;obtain⟨y0,y1,y2,y3⟩:=h2.ones;obtain⟨z0,z1,z2,z3⟩:=h3.ones;obtain⟨u0,u1,u2,u3⟩:=h4.ones;simp[*]
theorem Zx3 (k:Nat):pw k=((10 ^ (9*k):Nat):Int):=by
 induction k with
 | zero=>rfl
 | succ k ih =>
   rw[Za5,ih,show 9*(k+1)=9*k+9 from Zo,Ydn,Ycw];rfl
theorem Hs.fits_of {k n:Nat} {x:Rat} (h:Hs k x) (hn:n=9*600) (hk:k<n):(x.num.natAbs:Int)<pw 600∧(x.den:Int)<pw 600:=by
 have e:pw 600=((10 ^ n:Nat):Int):=by rw[hn];exact Zx3 600
 have hlt:10 ^ k<10 ^ n:=Nat.pow_lt_pow_right Zd hk;rw[e];exact⟨Int.ofNat_lt.2 (Nat.lt_of_le_of_lt h.1 hlt),Int.ofNat_lt.2 (Nat.lt_of_le_of_lt h.2 hlt)⟩
theorem Hs.fits {k:Nat} {x:Rat} (h:Hs k x) (hk:k<=5399):Fits x:=by
 obtain⟨n,hn⟩:∃n,n=9*600:=⟨_,rfl⟩
 exact h.fits_of hn Zo
theorem Box.part {w:World} {B:Nat} {T:TypeId} {cs:Array Value} (b:Box w B T cs) (off:Nat) (part:Array Value) (h:(cs.toList.drop off).take part.size=part.toList):w.rangeAt B off part.toList:=λj v hv=>by
 rw[b.cell,<-Yaq];rw[<-h,Ycv]at hv;split at hv
 ·rw[Yeh]at hv
  exact hv
 ·cases hv
def QtV (m:Nat) (w:World) (v:Value) (q:Rat):Prop:=∃s p n c s' p' n' c',v=.agg #[.bool s,.slice p n c,.bool s',.slice p' n' c']∧LgV m w (.agg #[.bool s,.slice p n c]) q.num∧LgV m w (.agg #[.bool s',.slice p' n' c']) q.den
theorem QtV.ext {m:Nat} {w w':World} {v:Value} {q:Rat} (h:QtV m w v q) (hx:Ext w w'):QtV m w' v q:=by
 obtain⟨s,p,n,c,s',p',n',c',hv,h1,h2⟩:=h;exact⟨s,p,n,c,s',p',n',c',hv,h1.ext hx,h2.ext hx⟩
theorem QtV.below {m:Nat} {w w':World} {v:Value} {q:Rat} (h:QtV m w v q) (hb:Below w.heap.size w w'):QtV m w' v q:=h.ext (.of_below hb)
theorem QtV.mono {m m':Nat} {w:World} {v:Value} {q:Rat} (h:QtV m w v q) (hm:m<=m'):QtV m' w v q:=by
 obtain⟨s,p,n,c,s',p',n',c',hv,h1,h2⟩:=h;exact⟨s,p,n,c,s',p',n',c',hv,h1.mono hm,h2.mono hm⟩
theorem LgV.sz {m:Nat} {w:World} {s:Bool} {p:Option Addr} {n c:Nat} {z:Int} (h:LgV m w (.agg #[.bool s,.slice p n c]) z):s=decide (z<0)∧Sz m w (.slice p n c) z.natAbs:=by
 obtain⟨p',n',c',f,hv,h1,h2,h3,h4⟩:=h;simp only[Value.agg.injEq,Array.mk.injEq,List.cons.injEq,Value.bool.injEq,Ydm,and_true]at hv;obtain⟨rfl,rfl,rfl,rfl⟩:=hv;exact⟨rfl,n,f,h1,h2,h3,h4⟩
theorem LgV.of_sz {m:Nat} {w:World} {s:Bool} {p:Option Addr} {n c:Nat} {z:Int} (hs:s=decide (z<0)) (h:Sz m w (.slice p n c) z.natAbs):LgV m w (.agg #[.bool s,.slice p n c]) z:=by
 obtain⟨n',f,h1,h2,h3,h4,rfl⟩:=h.sl;exact⟨p,_,c,f,by rw[hs],h1,h2,h3,h4⟩
theorem QtV.qv {w:World} {v:Value} {q:Rat} (h:QtV 600 w v q):QV w v q:=by
 obtain⟨s,p,n,c,s',p',n',c',rfl,h1,h2⟩:=h;obtain⟨rfl,z1⟩:=h1.sz;obtain⟨rfl,z2⟩:=h2.sz;refine⟨p,n,c,p',n',c',?_,z1,by simpa using z2⟩;rw[decide_eq_false (by omega:¬(q.den:Int)<0)]
theorem QV.qt {w:World} {v:Value} {q:Rat} (h:QV w v q):QtV 600 w v q:=by
 obtain⟨p,n,c,p',n',c',rfl,z1,z2⟩:=h;exact⟨_,p,n,c,_,p',n',c',rfl,LgV.of_sz rfl z1,LgV.of_sz (by rw[decide_eq_false Zo]) (by simpa using z2)⟩
end Go.Mono
namespace Go.Proofs.W
open Go.RowKit Go.Mono
theorem Zbw (w:World):(Instr.alloc 49 true (.tuple #[])).run Tryz.prog w=.ok (.pointer (some ⟨w.heap.size,0,none⟩)) (w.alloc (.cells #[.bool false,.slice none 0 0] 49)):=by go_simp
theorem Zk3 (a b:Bool) (p q:Option Addr) (n m c d:Nat):(#[.bool a,.slice p n c,.bool b,.slice q m d]:Array Value).all (·.oneCell')=true:=by simp[Value.oneCell']
theorem Zc0 {m:Nat} {v1 v2:Value} {n d:Int} (w:World) (h1:LgV m w v1 n) (h2:LgV m w v2 d) (hd:0<d) (hm:m<=100000) :
  Calls Tryz.prog 141 #[v1,v2] w λe w'=>∃v,e=.returned v∧QtV m w' v (Rat.divInt n d)∧Below w.heap.size w w':=by
 have hg0:0<Int.gcd n d:=Int.gcd_pos_of_ne_zero_right n Zo;have hnum:(Rat.divInt n d).num=n.tdiv (Int.gcd n d):=by
  rw[Rat.num_divInt,Yeg hd,Yga,Int.gcd_comm d n];exact(Int.tdiv_eq_ediv_of_dvd (Int.gcd_dvd_left ..)).symm
 have hden:((Rat.divInt n d).den:Int)=d.tdiv (Int.gcd n d):=by
  rw[Rat.den_divInt,if_neg Zo,Int.gcd_comm d n,Int.tdiv_eq_ediv_of_dvd (Int.gcd_dvd_right ..)];have:(d.natAbs:Int)=d:=Zo;rw[Int.natCast_ediv,this]
 have hcm:=λ(X:World) (hX:Ext w X)=>Zg6 X (h1.ext hX) (h2.ext hX) hm;have hp1:=λ(X:World) (g:Value) (hX:Ext w X) (h:LgV m X g (Int.gcd n d))=>Zcq X (h1.ext hX) h Zo hm hm;have hp2:=λ(X:World) (g:Value) (hX:Ext w X) (h:LgV m X g (Int.gcd n d))=>Zcq X (h2.ext hX) h Zo hm hm;obtain⟨s1,p1,n1,c1,rfl⟩:=h1.parts;have hs2:∃p2 n2 c2,v2=.agg #[.bool false,.slice p2 n2 c2]:=by
  obtain⟨p,k,c,f,rfl,_⟩:=h2;exact⟨p,k,c,by rw[decide_eq_false Zo]⟩
 obtain⟨p2,n2,c2,rfl⟩:=hs2;go_enter Tryz.func141,Tryz.ntmps141
 go_wp2_with fail
 refine Zbk λW hB hs b0 b1 b2=>?_;refine(hcm W (.of_below hB)).mono ?_;rintro e W2 ⟨vg,rfl,hg,hbb⟩;obtain⟨sg,pg,ng,cg,rfl⟩:=hg.parts;replace b0:=b0.below hbb;replace b1:=b1.below hbb;replace b2:=b2.below hbb;have hB2:=Zaa hB hbb;clear hcm hbb hB;go_wp2_with first|(refine Zcb 49 5 _ #[.bool sg,.slice pg ng cg] _ rfl rfl rfl rfl rfl rfl Zbw (by as_aux_lemma=>(intro _;kernel_rfl)) (by as_aux_lemma=>(intro _;kernel_rfl)) Zae rfl (Zal _ _ _ _) ?_;intro W3 B5 _ hB3 b5;replace b0:=b0.below hB3;replace b1:=b1.below hB3;replace b2:=b2.below hB3)|(refine Zac rfl 49 (.tmp 2) rfl w.heap.size Zx 49 #[.bool s1,.slice p1 n1 c1] b0 _ Tryz.underlying49 rfl Zae ?_)|(refine Zac rfl 49 (.tmp 5) rfl B5 Zx 49 #[.bool sg,.slice pg ng cg] b5 _ Tryz.underlying49 rfl Zae ?_)
 refine(hp1 W3 _ (.of_below (Zaa hB2 hB3)) (hg.below hB3)).mono ?_;rintro e W4 ⟨vx,vr,rfl,hx,hr,hb4⟩;obtain⟨sx,px,nx,cx,rfl⟩:=hx.parts;obtain⟨sr,pr,nr,cr,rfl⟩:=hr.parts;replace b1:=b1.below hb4;replace b2:=b2.below hb4;replace b5:=b5.below hb4;have hB4:=Zaa (Zaa hB2 hB3) hb4;have hg4:=(hg.below hB3).below hb4;clear hp1 hg hb4 hB3 b0 hB2;go_wp2_with first|(refine Zcc 49 6 7 _ _ #[.bool sx,.slice px nx cx] #[.bool sr,.slice pr nr cr] _ rfl rfl rfl rfl rfl rfl rfl rfl rfl rfl rfl rfl Zbw (by as_aux_lemma=>(intro _ _;kernel_rfl)) (by as_aux_lemma=>(intro _ _;kernel_rfl)) (by as_aux_lemma=>(intro _ _;kernel_rfl)) (by as_aux_lemma=>(intro _ _;kernel_rfl)) Zae rfl rfl (Zal _ _ _ _) (Zal _ _ _ _) ?_;intro W5 B6 B7 _ _ _ hB5 b6 b7;replace b1:=b1.below hB5;replace b2:=b2.below hB5;replace b5:=b5.below hB5)|(refine Zac rfl 49 (.tmp 3) rfl (w.heap.size+1) Zx 49 #[.bool false,.slice p2 n2 c2] b1 _ Tryz.underlying49 rfl Zae ?_)|(refine Zac rfl 49 (.tmp 5) rfl B5 Zx 49 #[.bool sg,.slice pg ng cg] b5 _ Tryz.underlying49 rfl Zae ?_)
 refine(hp2 W5 _ (.of_below (Zaa hB4 hB5)) (hg4.below hB5)).mono ?_;rintro e W6 ⟨vy,vr2,rfl,hy,hr2,hb6⟩;obtain⟨sy,py,ny,cy,rfl⟩:=hy.parts;obtain⟨sr2,pr2,nr2,cr2,rfl⟩:=hr2.parts;replace b2:=b2.below hb6;replace b6:=b6.below hb6;have hB6:=Zaa (Zaa hB4 hB5) hb6;have hx6:=(hx.below hB5).below hb6;clear hp2 hg4 hb6 hB5 hB4 b1 b5 b7 hx hr hr2;rw[<-hnum]at hx6;rw[<-hden]at hy;clear hnum hden h1 h2 hg0;go_wp2_with first|(refine Zac rfl 49 (.tmp 6) rfl B6 Zx 49 #[.bool sx,.slice px nx cx] b6 _ Tryz.underlying49 rfl Zae ?_)|(refine Zac rfl 49 (.tmp 8) rfl B8 Zx 49 #[.bool sy,.slice py ny cy] b8 _ Tryz.underlying49 rfl Zae ?_)|(refine Zap rfl 51 _ rfl #[.bool sx,.slice px nx cx,.bool sy,.slice py ny cy] Zx ?_)|(refine Zab rfl 51 (.tmp 4) _ rfl (w.heap.size+1+1) 0 51 _ #[.bool sx,.slice px nx cx,.bool sy,.slice py ny cy] #[.bool sx,.slice px nx cx,.bool sy,.slice py ny cy] rfl rfl b2 Zah (Yaa rfl) (Zk3 _ _ _ _ _ _ _ _) (Zaf rfl) ?_;intro W8 hk b4)|(refine Zcc 49 8 9 _ _ #[.bool sy,.slice py ny cy] #[.bool sr2,.slice pr2 nr2 cr2] _ rfl rfl rfl rfl rfl rfl rfl rfl rfl rfl rfl rfl Zbw (by as_aux_lemma=>(intro _ _;kernel_rfl)) (by as_aux_lemma=>(intro _ _;kernel_rfl)) (by as_aux_lemma=>(intro _ _;kernel_rfl)) (by as_aux_lemma=>(intro _ _;kernel_rfl)) Zae rfl rfl (Zal _ _ _ _) (Zal _ _ _ _) ?_;intro W7 B8 B9 _ _ _ hB7 b8 b9;replace b2:=b2.below hB7;replace b6:=b6.below hB7)
 have hB8:=Zaa hB6 hB7;have hb8:=hk.below hB8 Zo hB8.size;have he:=hk.ext b2 Zd;refine bodyPost_ret (b4.results rfl _ _ rfl Tryz.underlying51 rfl Zah) rfl ⟨_,rfl,⟨_,_,_,_,_,_,_,_,rfl,(hx6.below hB7).ext he,(hy.below hB7).ext he⟩,hb8⟩
end Go.Proofs.W
namespace Go.Mono
open Go.RowKit
def qc (q:Rat) (p:Option Addr) (k c:Nat) (p':Option Addr) (k' c':Nat):Array Value:=#[.bool (decide (q.num<0)),.slice p k c,.bool false,.slice p' k' c']
def BoxQ (w:World) (B:Nat) (T:TypeId) (q:Rat):Prop:=∃p k c p' k' c',Box w B T #[.bool (decide (q.num<0)),.slice p k c,.bool false,.slice p' k' c']∧QV w (.agg #[.bool (decide (q.num<0)),.slice p k c,.bool false,.slice p' k' c']) q
theorem BoxQ.below {w w':World} {B:Nat} {T:TypeId} {q:Rat} (h:BoxQ w B T q) (hB:Below w.heap.size w w'):BoxQ w' B T q:=by
 obtain⟨p,k,c,p',k',c',b,r⟩:=h;exact⟨p,k,c,p',k',c',b.below hB,r.ext (.of_below hB)⟩
theorem Zi9 {w:World} {T:TypeId} {q:Rat} {p:Option Addr} {k c:Nat} {p':Option Addr} {k' c':Nat} (r:QV w (.agg #[.bool (decide (q.num<0)),.slice p k c,.bool false,.slice p' k' c']) q) :
  BoxQ (w.alloc (.cells #[.bool (decide (q.num<0)),.slice p k c,.bool false,.slice p' k' c'] T)) w.heap.size T q:=
 ⟨p,k,c,p',k',c',Box.new _ _ _,r.ext ((Ext.refl _).alloc _)⟩
theorem Zja {w:World} {B:Nat} {T:TypeId} {q:Rat} {p:Option Addr} {k c:Nat} {p':Option Addr} {k' c':Nat} {o0 o1 o2 o3:Value} (hT:T≠3) (b:Box w B T #[o0,o1,o2,o3]) (r:QV w (.agg #[.bool (decide (q.num<0)),.slice p k c,.bool false,.slice p' k' c']) q) :
  BoxQ ((((w.setCell ⟨B,0,none⟩ (.bool (decide (q.num<0)))).setCell ⟨B,1,none⟩ (.slice p k c)).setCell ⟨B,2,none⟩ (.bool false)).setCell ⟨B,3,none⟩ (.slice p' k' c')) B T q:=by
 have b1:=b.set 0 (.bool (decide (q.num<0)));have b2:=b1.set 1 (.slice p k c);have b3:=b2.set 2 (.bool false);have b4:=b3.set 3 (.slice p' k' c');exact⟨p,k,c,p',k',c',b4,r.ext (((((Ext.refl w).set b hT 0 _).set b1 hT 1 _).set b2 hT 2 _).set b3 hT 3 _)⟩
def Lns.step (a:Lns) (k s:Nat):Rat:=a.nI k s-a.nB k s
def Lns.cv (a:Lns) (s:Nat):Rat:=Rat.divInt (a.S s).curv 1000000000
def Lns.gr (a:Lns) (k s:Nat):Rat:=Rat.divInt (2*(a.S s).order*(a.S s).p0) 10000000*Rat.divInt (a.L k) 10000000
def Lns.pow (a:Lns) (k s:Nat):Rat:=if(a.S s).kind=3 then Rat.divInt 0 1 else if(a.S s).kind=4 then a.cv s else a.cv s*a.step k s-a.gr k s
end Go.Mono
namespace Go.Proofs.W
open Go.RowKit Go.Mono
theorem Zwp (V:Array Value) (s:Int) (w:World) :
  Calls Tryz.prog 276 #[.agg V,.int .i64 s] w λe w'=>∃C,e=.returned (.agg C)∧QV w' (.agg C) (Rat.divInt 0 1)∧Below w.heap.size w w':=by
 have hpo:=λW=>Zg2 0 1 Zd W Zd Zd Zd Zd;go_enter Tryz.func276,Tryz.ntmps276
 go_wp2_with fail
 refine Zbj λW hB hs bV bR=>?_;refine(hpo W).mono ?_;rintro e W3 ⟨C,rfl,hr,hb⟩;obtain⟨C',hC',hC,h1⟩:=hr.cells;cases hC';have hi:(Tryz.prog.info? 51).map (·.size)=some C.size:=by rw[hC];exact Zah
 replace hB:=Zaa hB hb;replace bR:=bR.below hb;have lR:=bR.lt;go_wp2_with (refine Zab rfl 51 (.tmp 4) (.tmp 5) rfl (w.heap.size+1) 0 51 _ C C rfl rfl bR hi (Ybl (by rw[hC];rfl)) h1 (Zaf (by rw[hC];rfl)) ?_;intro W4 hk4 b4)
 refine bodyPost_ret (b4.results rfl _ _ rfl Tryz.underlying51 rfl hi) rfl ?_;exact⟨C,rfl,hr.ext (hk4.ext bR Zd),hk4.below hB Zo hB.size⟩
theorem Zuh (a:Lns) (q:Plc) (s k:Nat) (w:World) (h:OptAt w a q) (s1:s<a.ns) (hc1 : -1000000000<=(a.S s).curv) (hc2:(a.S s).curv<=1000000000) :
  Calls Tryz.prog 277 #[.agg (a.vvals q k),.int .i64 (s:Int)] w λe w'=>∃C,e=.returned (.agg C)∧QV w' (.agg C) (a.cv s)∧Below w.heap.size w w':=by
 have hpo:=λW=>Zg2 (a.S s).curv 1000000000 Zd W Zo Zo Zd Zd;rw[show Rat.divInt (a.S s).curv 1000000000=a.cv s from rfl]at hpo;obtain⟨b,off,hps,hbl,hcell⟩:=h.surfs.2.2 Zo;have f1:w.cell? ⟨b,off+s*22+1,none⟩=some (.int .i64 (a.S s).curv):=hcell s 1 s1 Zo;simp only[Lns.vvals];rw[hps];have s1':(s:Int)<a.ns:=Zo;clear hcell h hc1 hc2;generalize (a.S s).curv=cu at *;generalize a.cv s=rr at *;go_enter Tryz.func277,Tryz.ntmps277
 go_wp2_with fail
 refine Zbj λW hB hs bV bR=>?_;refine(hpo W).mono ?_;rintro e W3 ⟨C,rfl,hr,hb⟩;obtain⟨C',hC',hC,h1⟩:=hr.cells;cases hC';have hi:(Tryz.prog.info? 51).map (·.size)=some C.size:=by rw[hC];exact Zah
 replace hB:=Zaa hB hb;replace bR:=bR.below hb;have lR:=bR.lt;go_wp2_with (refine Zab rfl 51 (.tmp 4) (.tmp 13) rfl (w.heap.size+1) 0 51 _ C C rfl rfl bR hi (Ybl (by rw[hC];rfl)) h1 (Zaf (by rw[hC];rfl)) ?_;intro W4 hk4 b4)
 refine bodyPost_ret (b4.results rfl _ _ rfl Tryz.underlying51 rfl hi) rfl ?_;exact⟨C,rfl,hr.ext (hk4.ext bR Zd),hk4.below hB Zo hB.size⟩
theorem Zrs (a:Lns) (ha:a.opt) (q:Plc) (hchk:Chk a q) (s k:Nat) (w:World) (h:OptAt w a q) (s1:s<a.ns) (k1:k<a.nw) :
  Calls Tryz.prog 38 #[.agg (a.vvals q k),.int .i64 ((s:Int)-1)] w λe w'=>∃C,e=.returned (.agg C)∧QV w' (.agg C) (a.nB k s)∧Below w.heap.size w w':=by
 cases s with
 | zero=>exact Zrr _ rfl w
 | succ t =>
   rw[show((t+1:Nat):Int)-1=(t:Int) by omega];have:=Zi8 a ha q hchk t k w h Zo k1;simpa[Lns.nB]using this
end Go.Proofs.W
namespace Go.Mono
open Go.RowKit
theorem QtV.cells {m:Nat} {w:World} {v:Value} {q:Rat} (h:QtV m w v q):∃C:Array Value,v=.agg C∧C.size=4∧C.all (·.oneCell')=true:=by
 obtain⟨s,p,n,c,s',p',n',c',rfl,_,_⟩:=h;exact⟨_,rfl,rfl,by simp[Value.oneCell']⟩
theorem QtV.tight {m k:Nat} {w:World} {v:Value} {q:Rat} (h:QtV m w v q) (h1:(q.num.natAbs:Int)<pw k) (h2:(q.den:Int)<pw k):QtV k w v q:=by
 obtain⟨s,p,n,c,s',p',n',c',rfl,x,y⟩:=h;exact⟨s,p,n,c,s',p',n',c',rfl,x.tight h1,y.tight (by simpa using h2)⟩
theorem Zg7 (a b:Rat):Rat.divInt (a.num*b.num) ((a.den:Int)*b.den)=a*b:=by
 rw[<-Rat.divInt_mul_divInt,Yds,Yds]
theorem Zhx (a b:Rat):Rat.divInt (a.num*b.den+b.num*a.den) ((a.den:Int)*b.den)=a+b:=by
 have h:=Rat.divInt_add_divInt a.num b.num (d₁:=a.den) (d₂:=b.den) (by have:=a.den_pos;omega) (by have:=b.den_pos;omega);rw[<-h,Yds,Yds]
end Go.Mono
namespace Go.Proofs.W
open Go.RowKit Go.Mono

theorem Zr4 {m:Nat} {v1 v2:Value} {a b:Rat} (w:World) (h1:QtV m w v1 a) (h2:QtV m w v2 b) (hm:m<=50000) :
  Calls Tryz.prog 143 #[v1,v2] w λe w'=>∃v,e=.returned v∧QtV (m+m) w' v (a*b)∧Below w.heap.size w w':=by
 have hab:=Zg7 a b;have hden:(0:Int)<(a.den:Int)*b.den:=Int.mul_pos (by have:=a.den_pos;omega) (by have:=b.den_pos;omega);obtain⟨s1,p1,n1,c1,t1,q1,m1,d1,rfl,x1,x2⟩:=h1;obtain⟨s2,p2,n2,c2,t2,q2,m2,d2,rfl,y1,y2⟩:=h2;go_enter Tryz.func143,Tryz.ntmps143
 go_wp2_with fail
 refine Zfv λW hB hs b0 b1 bO=>?_;replace x1:=x1.below hB;replace x2:=x2.below hB;replace y1:=y1.below hB;replace y2:=y2.below hB;refine wp_region_held_drew (S:=λw'=>(∀b o,b<W.heap.size->b≠(w.heap.size+1+1)->w'.cell? ⟨b,o,none⟩=W.cell? ⟨b,o,none⟩)∧KeepBut (w.heap.size+1+1) W.heap.size W w') Zx (KeepBut.S (KeepBut.refl _ _).drew) (λhHeld=>?_);have hBel:Below W.heap.size W W.drew:=(Yae _ _).drew;refine tk 0 (some 5) ?_;refine tl 1 (some 6) rfl (.agg #[.bool s1,.slice p1 n1 c1]) (Zai 49 _ rfl w.heap.size 0 rfl  #[.bool s1,.slice p1 n1 c1] (λw h=>(h.2.box b0 b0.lt Zo).part 0 #[.bool s1,.slice p1 n1 c1] rfl) _ Tryz.underlying49 rfl Zae) ?_;refine tk 2 (some 7) ?_;refine tl 3 (some 8) rfl (.agg #[.bool s2,.slice p2 n2 c2]) (Zai 49 _ rfl (w.heap.size+1) 0 rfl  #[.bool s2,.slice p2 n2 c2] (λw h=>(h.2.box b1 b1.lt Zo).part 0 #[.bool s2,.slice p2 n2 c2] rfl) _ Tryz.underlying49 rfl Zae) ?_;refine tk 5 (some 10) ?_;refine tl 6 (some 11) rfl (.agg #[.bool t1,.slice q1 m1 d1]) (Zai 49 _ rfl w.heap.size 2 rfl  #[.bool t1,.slice q1 m1 d1] (λw h=>(h.2.box b0 b0.lt Zo).part 2 #[.bool t1,.slice q1 m1 d1] rfl) _ Tryz.underlying49 rfl Zae) ?_;refine tk 7 (some 12) ?_;refine tl 8 (some 13) rfl (.agg #[.bool t2,.slice q2 m2 d2]) (Zai 49 _ rfl (w.heap.size+1) 2 rfl  #[.bool t2,.slice q2 m2 d2] (λw h=>(h.2.box b1 b1.lt Zo).part 2 #[.bool t2,.slice q2 m2 d2] rfl) _ Tryz.underlying49 rfl Zae) ?_;refine Mono.stc 4 (some 9) (Zcu _ (x1.ext (.of_below hBel)) (y1.ext (.of_below hBel)) Zo Zo) (λe Wn4 hR=>?_);obtain⟨V4,rfl,R4,hb4⟩:=hR;replace hBel:=Zaa hBel hb4;refine⟨(KeepBut.S (hHeld.2.call hb4)),λhHeld=>Mono.pt ?_⟩;refine Mono.stc 9 (some 14) (Zcu _ (x2.ext (.of_below hBel)) (y2.ext (.of_below hBel)) Zo Zo) (λe Wn9 hR=>?_);obtain⟨V9,rfl,R9,hb9⟩:=hR;replace hBel:=Zaa hBel hb9;replace R4:=R4.ext (.of_below hb9);refine⟨(KeepBut.S (hHeld.2.call hb9)),λhHeld=>Mono.pt ?_⟩;refine Mono.stc 10 (some 15) (Zc0 _ R4 R9 hden Zo) (λe Wn10 hR=>?_);obtain⟨V10,rfl,R10,hb10⟩:=hR;replace hBel:=Zaa hBel hb10;replace R4:=R4.ext (.of_below hb10);replace R9:=R9.ext (.of_below hb10);refine⟨(KeepBut.S (hHeld.2.call hb10)),λhHeld=>Mono.pt ?_⟩;rw[hab]at R10;obtain⟨C,rfl,zC,oC⟩:=R10.cells;refine Zb5 (w.heap.size+1+1) 51 11 rfl rfl rfl rfl 0 C _ C Zx (λw' i u hS=>KeepBut.S (hS.2.set i u)) rfl rfl (bO.below hBel) hHeld (by rw[zC];exact Zah) (Ybl (by rw[zC];rfl)) oC (Zaf (by rw[zC];rfl)) (λWs hks bs hHeld=>?_);refine wpAnyH_done Zx ?_ _;have xS:=hks.ext (bO.below hBel) Zd;go_wp2
 refine bodyPost_ret (bs.results rfl _ _ rfl Tryz.underlying51 rfl (by rw[zC];exact Zah)) rfl ?_;exact⟨_,rfl,R10.ext xS,hHeld.2.below hB Zo hB.size⟩
theorem Zn2 {m:Nat} {v1 v2:Value} {a b:Rat} (w:World) (h1:QtV m w v1 a) (h2:QtV m w v2 b) (hm:m<=40000) :
  Calls Tryz.prog 140 #[v1,v2] w λe w'=>∃v,e=.returned v∧QtV (m+m+1) w' v (a+b)∧Below w.heap.size w w':=by
 have hab:=Zhx a b;have hden:(0:Int)<(a.den:Int)*b.den:=Int.mul_pos (by have:=a.den_pos;omega) (by have:=b.den_pos;omega);obtain⟨s1,p1,n1,c1,t1,q1,m1,d1,rfl,x1,x2⟩:=h1;obtain⟨s2,p2,n2,c2,t2,q2,m2,d2,rfl,y1,y2⟩:=h2;go_enter Tryz.func140,Tryz.ntmps140
 go_wp2_with fail
 refine Zfv λW hB hs b0 b1 bO=>?_;replace x1:=x1.below hB;replace x2:=x2.below hB;replace y1:=y1.below hB;replace y2:=y2.below hB;refine wp_region_held_drew (S:=λw'=>(∀b o,b<W.heap.size->b≠(w.heap.size+1+1)->w'.cell? ⟨b,o,none⟩=W.cell? ⟨b,o,none⟩)∧KeepBut (w.heap.size+1+1) W.heap.size W w') Zx (KeepBut.S (KeepBut.refl _ _).drew) (λhHeld=>?_);have hBel:Below W.heap.size W W.drew:=(Yae _ _).drew;refine tk 0 (some 5) ?_;refine tl 1 (some 6) rfl (.agg #[.bool s1,.slice p1 n1 c1]) (Zai 49 _ rfl w.heap.size 0 rfl  #[.bool s1,.slice p1 n1 c1] (λw h=>(h.2.box b0 b0.lt Zo).part 0 #[.bool s1,.slice p1 n1 c1] rfl) _ Tryz.underlying49 rfl Zae) ?_;refine tk 2 (some 7) ?_;refine tl 3 (some 8) rfl (.agg #[.bool t2,.slice q2 m2 d2]) (Zai 49 _ rfl (w.heap.size+1) 2 rfl  #[.bool t2,.slice q2 m2 d2] (λw h=>(h.2.box b1 b1.lt Zo).part 2 #[.bool t2,.slice q2 m2 d2] rfl) _ Tryz.underlying49 rfl Zae) ?_;refine tk 5 (some 10) ?_;refine tl 6 (some 11) rfl (.agg #[.bool s2,.slice p2 n2 c2]) (Zai 49 _ rfl (w.heap.size+1) 0 rfl  #[.bool s2,.slice p2 n2 c2] (λw h=>(h.2.box b1 b1.lt Zo).part 0 #[.bool s2,.slice p2 n2 c2] rfl) _ Tryz.underlying49 rfl Zae) ?_;refine tk 7 (some 12) ?_;refine tl 8 (some 13) rfl (.agg #[.bool t1,.slice q1 m1 d1]) (Zai 49 _ rfl w.heap.size 2 rfl  #[.bool t1,.slice q1 m1 d1] (λw h=>(h.2.box b0 b0.lt Zo).part 2 #[.bool t1,.slice q1 m1 d1] rfl) _ Tryz.underlying49 rfl Zae) ?_;refine tk 11 (some 16) ?_;refine tl 12 (some 17) rfl (.agg #[.bool t1,.slice q1 m1 d1]) (Zai 49 _ rfl w.heap.size 2 rfl  #[.bool t1,.slice q1 m1 d1] (λw h=>(h.2.box b0 b0.lt Zo).part 2 #[.bool t1,.slice q1 m1 d1] rfl) _ Tryz.underlying49 rfl Zae) ?_;refine tk 13 (some 18) ?_;refine tl 14 (some 19) rfl (.agg #[.bool t2,.slice q2 m2 d2]) (Zai 49 _ rfl (w.heap.size+1) 2 rfl  #[.bool t2,.slice q2 m2 d2] (λw h=>(h.2.box b1 b1.lt Zo).part 2 #[.bool t2,.slice q2 m2 d2] rfl) _ Tryz.underlying49 rfl Zae) ?_;refine Mono.stc 4 (some 9) (Zcu _ (x1.ext (.of_below hBel)) (y2.ext (.of_below hBel)) Zo Zo) (λe Wn4 hR=>?_);obtain⟨V4,rfl,R4,hb4⟩:=hR;replace hBel:=Zaa hBel hb4;refine⟨(KeepBut.S (hHeld.2.call hb4)),λhHeld=>Mono.pt ?_⟩;refine Mono.stc 9 (some 14) (Zcu _ (y1.ext (.of_below hBel)) (x2.ext (.of_below hBel)) Zo Zo) (λe Wn9 hR=>?_);obtain⟨V9,rfl,R9,hb9⟩:=hR;replace hBel:=Zaa hBel hb9;replace R4:=R4.ext (.of_below hb9);refine⟨(KeepBut.S (hHeld.2.call hb9)),λhHeld=>Mono.pt ?_⟩;refine Mono.stc 10 (some 15) (Zn1 _ R4 R9 Zo Zo) (λe Wn10 hR=>?_);obtain⟨V10,rfl,R10,hb10⟩:=hR;replace hBel:=Zaa hBel hb10;replace R4:=R4.ext (.of_below hb10);replace R9:=R9.ext (.of_below hb10);refine⟨(KeepBut.S (hHeld.2.call hb10)),λhHeld=>Mono.pt ?_⟩;refine Mono.stc 15 (some 20) (Zcu _ (x2.ext (.of_below hBel)) (y2.ext (.of_below hBel)) Zo Zo) (λe Wn15 hR=>?_);obtain⟨V15,rfl,R15,hb15⟩:=hR;replace hBel:=Zaa hBel hb15;replace R4:=R4.ext (.of_below hb15);replace R9:=R9.ext (.of_below hb15);replace R10:=R10.ext (.of_below hb15);refine⟨(KeepBut.S (hHeld.2.call hb15)),λhHeld=>Mono.pt ?_⟩
 refine Mono.stc 16 (some 21) (Zc0 (m:=m+m+1) _ (R10.mono Zo) (R15.mono Zo) hden Zo) (λe Wn16 hR=>?_);obtain⟨V16,rfl,R16,hb16⟩:=hR;replace hBel:=Zaa hBel hb16;replace R4:=R4.ext (.of_below hb16);replace R9:=R9.ext (.of_below hb16);replace R10:=R10.ext (.of_below hb16);replace R15:=R15.ext (.of_below hb16);refine⟨(KeepBut.S (hHeld.2.call hb16)),λhHeld=>Mono.pt ?_⟩;rw[hab]at R16;obtain⟨C,rfl,zC,oC⟩:=R16.cells;refine Zb5 (w.heap.size+1+1) 51 17 rfl rfl rfl rfl 0 C _ C Zx (λw' i u hS=>KeepBut.S (hS.2.set i u)) rfl rfl (bO.below hBel) hHeld (by rw[zC];exact Zah) (Ybl (by rw[zC];rfl)) oC (Zaf (by rw[zC];rfl)) (λWs hks bs hHeld=>?_);refine wpAnyH_done Zx ?_ _;have xS:=hks.ext (bO.below hBel) Zd;go_wp2
 refine bodyPost_ret (bs.results rfl _ _ rfl Tryz.underlying51 rfl (by rw[zC];exact Zah)) rfl ?_;exact⟨_,rfl,R16.ext xS,hHeld.2.below hB Zo hB.size⟩
end Go.Proofs.W
