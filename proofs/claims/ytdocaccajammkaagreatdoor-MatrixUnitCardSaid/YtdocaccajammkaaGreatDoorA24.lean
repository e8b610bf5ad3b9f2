/- Contracts of package matrix,and a verified evaluator. Part 24 of 28. No condition beside the row. -/
import Derived.Test.YtdocaccajammkaaGreatDoorA02
import Derived.Test.YtdocaccajammkaaGreatDoorA08
import Derived.Test.YtdocaccajammkaaGreatDoorA16
import Derived.Test.YtdocaccajammkaaGreatDoorA22
import Derived.Test.YtdocaccajammkaaGreatDoorA23
set_option linter.unusedVariables false
set_option linter.unusedSimpArgs false
set_option maxRecDepth 100000
set_option maxHeartbeats 4000000
namespace Go.Mono
open Go.RowKit

end Go.Mono
namespace Go.Proofs.W
open Go.RowKit Go.Mono
theorem Zwt (a:Lns) (q:Plc) (hchk:Chk a q) (k:Nat) (w:World) (h:OptAt w a q) (k1:k<a.nw) :
  Calls Tryz.prog 60 #[.agg (a.ovals q),.int .i64 (k:Int)] w λe w'=>e=.returned (.agg (a.vvals q k))∧Below w.heap.size w w':=by
 have hc:=λW (hW:Below w.heap.size w W)=>hchk W (h.below hW);have hi:(Tryz.prog.info? 115).map (·.size)=some 11:=Zk;have k1':(k:Int)<a.nw:=Zo;simp only[Lns.ovals,Lns.vvals]at hc ⊢;clear h hchk;go_enter Tryz.func60,Tryz.ntmps60
 go_wp2_with fail
 refine Zbq λW hB hs bO bR=>?_;refine(hc W hB).mono ?_;rintro e W1 ⟨rfl,hb⟩;replace hB:=Zaa hB hb;replace bO:=bO.below hb;replace bR:=bR.below hb;have cO:=bO.cell;have lO:=bO.lt;go_wp2_with (refine Zab rfl 115 (.tmp 4) (.tmp 27) rfl (w.heap.size+1) 0 115 _ #[.string a.nm,.int .i64 a.di,.int .i64 a.pu,.int .i64 a.st,.int .i64 a.pr,.slice q.pf a.nf q.cf,.slice q.pw a.nw q.cw,.slice q.ps a.ns q.cs,.slice q.pc 0 q.cc,.slice q.pi a.ns q.ci,.int .i64 (k:Int)] #[.string a.nm,.int .i64 a.di,.int .i64 a.pu,.int .i64 a.st,.int .i64 a.pr,.slice q.pf a.nf q.cf,.slice q.pw a.nw q.cw,.slice q.ps a.ns q.cs,.slice q.pc 0 q.cc,.slice q.pi a.ns q.ci,.int .i64 (k:Int)] rfl rfl bR hi (Yaa rfl) (by simp[Value.oneCell']) rfl ?_;intro W4 hk4 b4)
 refine bodyPost_ret (b4.results rfl _ _ rfl Tryz.underlying115 rfl hi) rfl ?_;exact⟨rfl,hk4.below hB Zo hB.size⟩
section
open Go.Ex
variable {K:Nat->Value} {hK:∀i,(K i).oneCell'=true}
def dS:Srf:=⟨0,0,0,0,0,0,0,0,0,0,0,0,0,{data:=#[]},0,0,0,0,0,0,0,[]⟩
def lforce {α:Type}:List Int->(List Int->α)->α
 | [],f=>f []
 | z::r,f=>icase z λz=>lforce r λr=>f (z::r)
theorem Zfa {α:Type}:∀(l:List Int) (f:List Int->α),lforce l f=f l
 | [],f=>rfl
 | z::r,f=>by unfold lforce;rw[Zc2,Zfa r]
def llforce {α:Type}:List (List Int)->(List (List Int)->α)->α
 | [],f=>f []
 | z::r,f=>lforce z λz=>llforce r λr=>f (z::r)
theorem Ziq {α:Type}:∀(l:List (List Int)) (f:List (List Int)->α),llforce l f=f l
 | [],f=>rfl
 | z::r,f=>by unfold llforce;rw[Zfa,Ziq r]
def sforce {α:Type}:List Srf->(List Srf->α)->α
 | [],f=>f []
 | ⟨z1, z2, z3, z4, z5, z6, z7, z8, z9, z10, z11, z12, z13, g, z15, z16, z17, z18, z19, z20, z21, co⟩ :: r, f =>
   icase z1 λz1=>icase z2 λz2=>icase z3 λz3=>icase z4 λz4=>icase z5 λz5=>icase z6 λz6=>icase z7 λz7=>icase z8 λz8=>icase z9 λz9=>icase z10 λz10=>icase z11 λz11=>icase z12 λz12=>icase z13 λz13=>
   icase z15 λz15=>icase z16 λz16=>icase z17 λz17=>icase z18 λz18=>icase z19 λz19=>icase z20 λz20=>icase z21 λz21=>sforce r λr=>f (⟨z1,z2,z3,z4,z5,z6,z7,z8,z9,z10,z11,z12,z13,g,z15,z16,z17,z18,z19,z20,z21,co⟩::r)
theorem Zlg {α:Type}:∀(l:List Srf) (f:List Srf->α),sforce l f=f l
 | [],f=>rfl
 | s :: r, f => by
   cases s;unfold sforce;simp only[Zc2];rw[Zlg r]
def parseL (bk:List (Nat×Blk)) (x:List U) (ix:Nat->Nat->Int):Option Lns:=
 match x with
 | [um, ud, up, ut, ur, uf, uw, us, uc] => match strU um, intsU [ud, up, ut, ur] with
   | some nm,some [di,pu,st,pr]=>(match rdU bk 2 uf,rdU bk 2 uw,rdU bk 22 us,rdU bk 1 uc with
   | some (nf, lf), some (nw, lw), some (ns, ls), some (0, _) => (match intsU lf, intsU lw, srfU bk ls with
     | some F,some W,some S=>lforce F λF=>lforce W λW=>sforce S λS=>icase di λdi=>icase pu λpu=>icase st λst=>icase pr λpr=>ncase nf λnf=>ncase nw λnw=>ncase ns λns=>some ⟨nm,di,pu,st,pr,nf,λi=>F.getD (i*2) 0,λi=>F.getD (i*2+1) 0,nw,λi=>W.getD (i*2) 0,λi=>W.getD (i*2+1) 0,ns,λi=>S.getD i dS,ix⟩
     | _,_,_=>none)
   | _,_,_,_=>none)
   | _,_=>none
 | _=>none
theorem Zlh {w:World} {p:Option Addr} {n c:Nat} {F:List Int} (h1:n<=c) (h2:n<=1000000) (hl:F.length=n*2) (hc:0<n->0<2->∃b off,p=some ⟨b,off,none⟩∧b<w.heap.size∧∀i v,(F.map (Value.int .i64))[i]? = some v->w.cell? ⟨b,off+i,none⟩=some v) :
  RdC w p n c 2 (λi j=>if j=0 then .int .i64 (F.getD (i*2) 0) else .int .i64 (F.getD (i*2+1) 0)):=by
 refine⟨h1,Zo,λhn=>?_⟩;obtain⟨b,off,q1,q2,q3⟩:=hc hn Zd;refine⟨b,off,q1,q2,λi j hi hj=>?_⟩;rw[Ybj];apply q3;rcases(by omega:j=0∨j=1) with rfl|rfl
 ·have hlt:i*2<F.length:=by omega
  simp[hlt]
 ·have hlt:i*2+1<F.length:=by omega
  simp[hlt]
theorem Zli {ρ:Nm} {w:World} {bk:List (Nat×Blk)} (hB:BkOk (qDen K hK) ρ w w bk) {x:List U} {ix:Nat->Nat->Int} {a:Lns} (h:parseL bk x ix=some a) {cs:List Value} (hd:denL (qDen K hK) ρ w x cs) (pi:Option Addr) (ci:Nat) (pI:Nat->Option Addr) (cI:Nat->Nat) :
  a.ix=ix∧∃q:Plc,q.pi=pi∧q.ci=ci∧q.pI=pI∧q.cI=cI∧cs.toArray=a.lvals q∧LnsAt w a q:=by
 unfold parseL at h;split at h
 ·rename_i um ud up ut ur uf uw us uc
  split at h
  rotate_left
  ·cases h
  rename_i nm di pu st pr en ei;split at h
  ·rename_i nf lf nw lw ns ls lc hf hw hs hc
   split at h
   ·rename_i F W S eF eW eS
    rw[Zfa,Zfa,Zlg,Zc2,Zc2,Zc2,Zc2,Zer,Zer,Zer]at h;cases h;have w1:∀{u:U} {sz n:Nat} {l:List U},rdU bk sz u=some (n,l)->u.w=1:=λ{u sz n l} hr=>by
     unfold rdU at hr;split at hr<;>first|rfl|cases hr
    obtain⟨k0,_,rfl,g0,k1,_,rfl,g1,k2,_,rfl,g2,k3,_,rfl,g3,k4,_,rfl,g4,c1,_,rfl,d1,c2,_,rfl,d2,c3,_,rfl,d3,c4,e4,rfl,d4,he⟩:=hd;obtain rfl:=Zru en g0;have fi:=Zc5 ei (ds:=k1++(k2++(k3++(k4++[])))) ⟨_,_,rfl,g1,_,_,rfl,g2,_,_,rfl,g3,_,_,rfl,g4,rfl⟩;rw[Ydg]at fi;have ee:∀R:List Value,k1++(k2++(k3++(k4++R)))=(k1++(k2++(k3++k4)))++R:=λR=>by simp only[Ybx]
    rw[ee,fi];obtain rfl:e4=[]:=he;have one:∀{u:U} {c:List Value} {sz n:Nat} {l:List U},rdU bk sz u=some (n,l)->denU (qDen K hK) ρ w u c->∃v,c=[v]:=λ{u c sz n l} hr hu=>by
     have:=hu.len;rw[w1 hr]at this;exact Ydr.1 this
    obtain⟨v1,rfl⟩:=one hf d1;obtain⟨v2,rfl⟩:=one hw d2;obtain⟨v3,rfl⟩:=one hs d3;obtain⟨v4,rfl⟩:=one hc d4;obtain⟨p1,k1,ds1,rfl,a1,b1,l1,m1,r1⟩:=Zf2 hB d1 hf;obtain⟨p2,k2,ds2,rfl,a2,b2,l2,m2,r2⟩:=Zf2 hB d2 hw;obtain⟨p3,k3,ds3,rfl,a3,b3,l3,m3,r3⟩:=Zf2 hB d3 hs;obtain⟨p4,k4,ds4,rfl,a4,b4,l4,m4,r4⟩:=Zf2 hB d4 hc;obtain rfl:=Zc5 eF l1;obtain rfl:=Zc5 eW l2;obtain⟨ps,hps,rfl⟩:=Zrv hB S.length (Yab _) eS l3;refine⟨rfl,⟨p1,k1,p2,k2,p3,k3,p4,k4,λi=>(ps.getD i (none,0)).1,λi=>(ps.getD i (none,0)).2,pi,ci,pI,cI⟩,rfl,rfl,rfl,rfl,rfl,?_,?_,?_,λi _=>?_⟩
    ·exact Zlh a1 b1 (by simpa using m1) r1
    ·exact Zlh a2 b2 (by simpa using m2) r2
    ·refine⟨a3,(show ns<=140737488351232 by omega),λhn=>?_⟩
     obtain⟨b,off,q1,q2,q3⟩:=r3 hn Zd;refine⟨b,off,q1,q2,λi j hi hj=>?_⟩;replace hi:i<ns:=hi;rw[Ybj];apply q3;have hlen:∀x∈S.zip ps,(x.1.cs x.2.1 x.2.2).toList.length=22:=λx _=>rfl;have hSl:S.length=ns:=by
      have h5:=Zn8 hlen;rw[h5,List.length_zip,hps,Nat.min_self]at m3;omega
     have hz:(S.zip ps)[i]? = some (S.getD i dS,ps.getD i (none,0)):=List.getElem?_zip_eq_some.2 ⟨by simp[hSl,hi],by simp[hps,hSl,hi]⟩;rw[Zn7 hlen i j hj,hz];rw[Yfq];exact Zwo hj
    ·have hnil:=Zn6 S.length (Yab _) eS
     have e:(S.getD i dS).co=[]:=by
      rw[Yac];cases hg:S[i]? with
      | none=>rfl
      | some s=>exact hnil s (Ych hg)
     show CoatAt w _ _ (S.getD i dS).co;rw[e];exact CoatAt.nil _ _ _
   ·cases h
  ·cases h
 ·cases h
def rowsU (bk:List (Nat×Blk)) (nw:Nat):List U->Option (List (List Int))
 | []=>some []
 | u :: l => match rdU bk 1 u with
   | some (n, us) => if Nat.beq n nw then (match intsU us, rowsU bk nw l with
     | some z,some r=>some (z::r)
     | _,_=>none) else none
   | none=>none
theorem Zof {ρ:Nm} {w:World} {bk:List (Nat×Blk)} (hB:BkOk (qDen K hK) ρ w w bk) {nw:Nat}:∀{us:List U} {R:List (List Int)} {ds:List Value},rowsU bk nw us=some R->denL (qDen K hK) ρ w us ds->
  ∃ps:List (Option Addr×Nat),ps.length=R.length∧ds=ps.map (λx=>Value.slice x.1 nw x.2)∧∀i,i<R.length->RdF w (ps.getD i (none,0)).1 nw (ps.getD i (none,0)).2 (λj=>(R.getD i []).getD j 0)
 | [],R,ds,h,hd=>by cases h;exact⟨[],rfl,hd,λi hi=>by simp at hi⟩
 | u :: l, R, ds, h, hd => by
   unfold rowsU at h;split at h
   ·rename_i n us hr
    split at h
    ·rename_i hn
     obtain rfl:=Ybe hn;split at h
     ·rename_i z r hz hrw
      cases h;obtain⟨c,d,rfl,hu,hd⟩:=hd;obtain⟨v,rfl⟩:∃v,c=[v]:=by
       have:=hu.len;have hw:u.w=1:=by
        unfold rdU at hr;split at hr<;>first|rfl|cases hr
       rw[hw]at this;exact Ydr.1 this
      obtain⟨p,c,ds,rfl,a1,b1,l1,m1,r1⟩:=Zf2 hB hu hr;obtain rfl:=Zc5 hz l1;obtain⟨ps,h1,rfl,h3⟩:=Zof hB hrw hd;refine⟨(p,c)::ps,by simp[h1],rfl,λi hi=>?_⟩;cases i with
      | zero =>
        refine⟨a1,Zo,λhn=>?_⟩;obtain⟨b,off,q1,q2,q3⟩:=r1 hn Zd;refine⟨b,off,q1,q2,λj hj=>q3 j _ ?_⟩;have hlt:j<z.length:=by
         rw[Ybt,Yfk]at m1;omega
        simp[hlt]
      | succ i =>
        have:=h3 i (by simpa using hi);simpa using this
     ·cases h
    ·cases h
   ·cases h
def parseO (bk:List (Nat×Blk)) (x:List U):Option Lns:=
 match x with
 | [a0, a1, a2, a3, a4, a5, a6, a7, a8, ui] =>
   match rdU bk 1 ui,rdU bk 2 a6 with
   | some (ni, li), some (nw, _) => (match rowsU bk nw li with
     | some R => llforce R λR => (match parseL bk [a0, a1, a2, a3, a4, a5, a6, a7, a8] (λi j => (R.getD i []).getD j 0) with
       | some a=>if Nat.beq ni a.ns&&Nat.beq nw a.nw&&Nat.beq R.length a.ns then some a else none
       | none=>none)
     | none=>none)
   | _,_=>none
 | _=>none
theorem Zlj {ρ:Nm} {w:World} {bk:List (Nat×Blk)} (hB:BkOk (qDen K hK) ρ w w bk) {x:List U} {a:Lns} (h:parseO bk x=some a) {cs:List Value} (hd:denL (qDen K hK) ρ w x cs) :
  ∃q:Plc,cs.toArray=a.ovals q∧OptAt w a q:=by
 unfold parseO at h;split at h
 ·rename_i a0 a1 a2 a3 a4 a5 a6 a7 a8 ui
  split at h
  ·rename_i ni li nw lw hi hw6
   split at h
   ·rename_i R hR
    rw[Ziq]at h;split at h
    ·rename_i a' ha
     split at h
     ·rename_i hc
      cases h;rw[Yam,Yam]at hc;obtain⟨⟨c1,c2⟩,c3⟩:=hc;have c1:=Ybe c1;have c2:=Ybe c2;have c3:=Ybe c3;subst c1;subst c2;obtain⟨cs1,cs2,rfl,h9,h1⟩:∃cs1 cs2,cs=cs1++cs2∧denL (qDen K hK) ρ w [a0,a1,a2,a3,a4,a5,a6,a7,a8] cs1∧denL (qDen K hK) ρ w [ui] cs2:=by
       obtain⟨b0,_,rfl,g0,b1,_,rfl,g1,b2,_,rfl,g2,b3,_,rfl,g3,b4,_,rfl,g4,b5,_,rfl,g5,b6,_,rfl,g6,b7,_,rfl,g7,b8,_,rfl,g8,b9,r9,rfl,g9,g10⟩:=hd;exact⟨b0++(b1++(b2++(b3++(b4++(b5++(b6++(b7++(b8++[])))))))),b9++r9,by simp[Ybx],⟨_,_,rfl,g0,_,_,rfl,g1,_,_,rfl,g2,_,_,rfl,g3,_,_,rfl,g4,_,_,rfl,g5,_,_,rfl,g6,_,_,rfl,g7,_,_,rfl,g8,rfl⟩,_,_,rfl,g9,g10⟩
      obtain⟨c,d,rfl,hu,hdd⟩:=h1;obtain rfl:d=[]:=hdd;obtain⟨v,rfl⟩:∃v,c=[v]:=by
       have:=hu.len;have hw:ui.w=1:=by
        unfold rdU at hi;split at hi<;>first|rfl|cases hi
       rw[hw]at this;exact Ydr.1 this
      obtain⟨p,c,ds,rfl,a1,b1,l1,m1,r1⟩:=Zf2 hB hu hi;obtain⟨ps,g1,rfl,g3⟩:=Zof hB hR l1;obtain⟨hix,q,q1,q2,q3,q4,q5,q6⟩:=Zli hB ha h9 p c (λi=>(ps.getD i (none,0)).1) (λi=>(ps.getD i (none,0)).2);refine⟨q,?_,?_⟩
      ·have:(cs1++([Value.slice p a.ns c]++[])).toArray=cs1.toArray.push (Value.slice p a.ns c):=by simp
       rw[this,q5];unfold Lns.lvals Lns.ovals;rw[q1,q2];rfl
      ·refine⟨q6,?_,?_⟩
       ·rw[q1,q2,q3,q4]
        refine⟨a1,Zo,λhn=>?_⟩;obtain⟨b,off,e1,e2,e3⟩:=r1 hn Zd;refine⟨b,off,e1,e2,λi j hi hj=>?_⟩;obtain rfl:j=0:=Zo;rw[Yfk,Yce];apply e3;have hlt:i<ps.length:=Zo;simp[hlt]
       ·intro i hi
        rw[q3,q4,hix];exact g3 i Zo
     ·cases h
    ·cases h
   ·cases h
  ·cases h
 ·cases h
def lCheckRun (args:List SA) (bk:List (Nat×Blk)) (orc:List (Option Bool)):Option (SV×List Prop×List (Option Bool)):=
 match args with
 | [.agg x] => match parseL bk x (λ_ _ => 0) with
   | some a=>if a.okB then some (.a okV,[],orc) else none
   | none=>none
 | _=>none
def cLCheck (w0:World) (X:Nat->Prop):Ctr (qDen K hK) Tryz.prog w0 X:=.plain 200 lCheckRun<|by
    intro args bk orc v obl orc' hr hobl ρ w vals hfr hb hargs;unfold lCheckRun at hr;split at hr
    ·rename_i x
     split at hr
     ·rename_i a ha
      split at hr
      ·rename_i hok
       cases hr;obtain⟨v1,r1,rfl,⟨cs,rfl,h1⟩,h3⟩:=hargs;obtain rfl:r1=[]:=h3;obtain⟨_,q,_,_,_,_,q5,q6⟩:=Zli hb ha h1 none 0 (λ_=>none) (λ_=>0);rw[q5];refine(Zrr a (Lns.okB_ok hok) q w q6).mono ?_;rintro e w' ⟨rfl,hbl⟩;exact⟨_,rfl,⟨rfl,rfl⟩,hbl⟩
      ·cases hr
     ·cases hr
    ·cases hr
def oCheckRun (args:List SA) (bk:List (Nat×Blk)) (orc:List (Option Bool)):Option (SV×List Prop×List (Option Bool)):=
 match args with
 | [.agg x] => match parseO bk x with
   | some a=>if a.optB then some (.a okV,[],orc) else none
   | none=>none
 | _=>none
def cOCheck (w0:World) (X:Nat->Prop):Ctr (qDen K hK) Tryz.prog w0 X:=.plain 138 oCheckRun<|by
    intro args bk orc v obl orc' hr hobl ρ w vals hfr hb hargs;unfold oCheckRun at hr;split at hr
    ·rename_i x
     split at hr
     ·rename_i a ha
      split at hr
      ·rename_i hok
       cases hr;obtain⟨v1,r1,rfl,⟨cs,rfl,h1⟩,h3⟩:=hargs;obtain rfl:r1=[]:=h3;obtain⟨q,q5,q6⟩:=Zlj hb ha h1;rw[q5];refine(Zji a (Lns.optB_ok hok) q w q6).mono ?_;rintro e w' ⟨rfl,hbl⟩;exact⟨_,rfl,⟨rfl,rfl⟩,hbl⟩
      ·cases hr
     ·cases hr
    ·cases hr
end
end Go.Proofs.W
namespace Go.Mono
open Go.RowKit
theorem QtV.cells {m:Nat} {w:World} {v:Value} {q:Rat} (h:QtV m w v q):∃C:Array Value,v=.agg C∧C.size=4∧C.all (·.oneCell')=true:=by
 obtain⟨s,p,n,c,s',p',n',c',rfl,_,_⟩:=h;exact⟨_,rfl,rfl,by simp[Value.oneCell']⟩
theorem QtV.tight {m k:Nat} {w:World} {v:Value} {q:Rat} (h:QtV m w v q) (h1:(q.num.natAbs:Int)<pw k) (h2:(q.den:Int)<pw k):QtV k w v q:=by
 obtain⟨s,p,n,c,s',p',n',c',rfl,x,y⟩:=h;exact⟨s,p,n,c,s',p',n',c',rfl,x.tight h1,y.tight (by simpa using h2)⟩
theorem Zhc (a b:Rat):Rat.divInt (a.num*b.num) ((a.den:Int)*b.den)=a*b:=by
 rw[<-Rat.divInt_mul_divInt,Yds,Yds]
theorem Zh8 (a b:Rat):Rat.divInt (a.num*b.den+b.num*a.den) ((a.den:Int)*b.den)=a+b:=by
 have h:=Rat.divInt_add_divInt a.num b.num (d₁:=a.den) (d₂:=b.den) (by have:=a.den_pos;omega) (by have:=b.den_pos;omega);rw[<-h,Yds,Yds]
end Go.Mono
namespace Go.Proofs.W
open Go.RowKit Go.Mono

theorem Zsa {m:Nat} {v1 v2:Value} {a b:Rat} (w:World) (h1:QtV m w v1 a) (h2:QtV m w v2 b) (hm:m<=50000) :
  Calls Tryz.prog 275 #[v1,v2] w λe w'=>∃v,e=.returned v∧QtV (m+m) w' v (a*b)∧Below w.heap.size w w':=by
 have hab:=Zhc a b;have hden:(0:Int)<(a.den:Int)*b.den:=Int.mul_pos (by have:=a.den_pos;omega) (by have:=b.den_pos;omega);obtain⟨s1,p1,n1,c1,t1,q1,m1,d1,rfl,x1,x2⟩:=h1;obtain⟨s2,p2,n2,c2,t2,q2,m2,d2,rfl,y1,y2⟩:=h2;go_enter Tryz.func275,Tryz.ntmps275
 go_wp2_with fail
 refine Zf0 λW hB hs b0 b1 bO=>?_;replace x1:=x1.below hB;replace x2:=x2.below hB;replace y1:=y1.below hB;replace y2:=y2.below hB;refine wp_region_held_drew (S:=λw'=>(∀b o,b<W.heap.size->b≠(w.heap.size+1+1)->w'.cell? ⟨b,o,none⟩=W.cell? ⟨b,o,none⟩)∧KeepBut (w.heap.size+1+1) W.heap.size W w') Zx (KeepBut.S (KeepBut.refl _ _).drew) (λhHeld=>?_);have hBel:Below W.heap.size W W.drew:=(Yae _ _).drew;refine tk 0 (some 5) ?_;refine tl 1 (some 6) rfl (.agg #[.bool s1,.slice p1 n1 c1]) (Zaj 44 _ rfl w.heap.size 0 rfl  #[.bool s1,.slice p1 n1 c1] (λw h=>(h.2.box b0 b0.lt Zo).part 0 #[.bool s1,.slice p1 n1 c1] rfl) _ Tryz.underlying44 rfl Zae) ?_;refine tk 2 (some 7) ?_;refine tl 3 (some 8) rfl (.agg #[.bool s2,.slice p2 n2 c2]) (Zaj 44 _ rfl (w.heap.size+1) 0 rfl  #[.bool s2,.slice p2 n2 c2] (λw h=>(h.2.box b1 b1.lt Zo).part 0 #[.bool s2,.slice p2 n2 c2] rfl) _ Tryz.underlying44 rfl Zae) ?_;refine tk 5 (some 10) ?_;refine tl 6 (some 11) rfl (.agg #[.bool t1,.slice q1 m1 d1]) (Zaj 44 _ rfl w.heap.size 2 rfl  #[.bool t1,.slice q1 m1 d1] (λw h=>(h.2.box b0 b0.lt Zo).part 2 #[.bool t1,.slice q1 m1 d1] rfl) _ Tryz.underlying44 rfl Zae) ?_;refine tk 7 (some 12) ?_;refine tl 8 (some 13) rfl (.agg #[.bool t2,.slice q2 m2 d2]) (Zaj 44 _ rfl (w.heap.size+1) 2 rfl  #[.bool t2,.slice q2 m2 d2] (λw h=>(h.2.box b1 b1.lt Zo).part 2 #[.bool t2,.slice q2 m2 d2] rfl) _ Tryz.underlying44 rfl Zae) ?_;refine Mono.stc 4 (some 9) (Zcx _ (x1.ext (.of_below hBel)) (y1.ext (.of_below hBel)) Zo Zo) (λe Wn4 hR=>?_);obtain⟨V4,rfl,R4,hb4⟩:=hR;replace hBel:=Zaa hBel hb4;refine⟨(KeepBut.S (hHeld.2.call hb4)),λhHeld=>Mono.pt ?_⟩;refine Mono.stc 9 (some 14) (Zcx _ (x2.ext (.of_below hBel)) (y2.ext (.of_below hBel)) Zo Zo) (λe Wn9 hR=>?_);obtain⟨V9,rfl,R9,hb9⟩:=hR;replace hBel:=Zaa hBel hb9;replace R4:=R4.ext (.of_below hb9);refine⟨(KeepBut.S (hHeld.2.call hb9)),λhHeld=>Mono.pt ?_⟩;refine Mono.stc 10 (some 15) (Zc6 _ R4 R9 hden Zo) (λe Wn10 hR=>?_);obtain⟨V10,rfl,R10,hb10⟩:=hR;replace hBel:=Zaa hBel hb10;replace R4:=R4.ext (.of_below hb10);replace R9:=R9.ext (.of_below hb10);refine⟨(KeepBut.S (hHeld.2.call hb10)),λhHeld=>Mono.pt ?_⟩;rw[hab]at R10;obtain⟨C,rfl,zC,oC⟩:=R10.cells;refine Zdk (w.heap.size+1+1) 46 11 rfl rfl rfl rfl 0 C _ C Zx (λw' i u hS=>KeepBut.S (hS.2.set i u)) rfl rfl (bO.below hBel) hHeld (by rw[zC];exact Za0) (Ybl (by rw[zC];rfl)) oC (Zah (by rw[zC];rfl)) (λWs hks bs hHeld=>?_);refine wpAnyH_done Zx ?_ _;have xS:=hks.ext (bO.below hBel) Zd;go_wp2
 refine bodyPost_ret (bs.results rfl _ _ rfl Tryz.underlying46 rfl (by rw[zC];exact Za0)) rfl ?_;exact⟨_,rfl,R10.ext xS,hHeld.2.below hB Zo hB.size⟩
theorem Zut {m:Nat} {v1 v2:Value} {a b:Rat} (w:World) (h1:QtV m w v1 a) (h2:QtV m w v2 b) (hm:m<=40000) :
  Calls Tryz.prog 289 #[v1,v2] w λe w'=>∃v,e=.returned v∧QtV (m+m+1) w' v (a+b)∧Below w.heap.size w w':=by
 have hab:=Zh8 a b;have hden:(0:Int)<(a.den:Int)*b.den:=Int.mul_pos (by have:=a.den_pos;omega) (by have:=b.den_pos;omega);obtain⟨s1,p1,n1,c1,t1,q1,m1,d1,rfl,x1,x2⟩:=h1;obtain⟨s2,p2,n2,c2,t2,q2,m2,d2,rfl,y1,y2⟩:=h2;go_enter Tryz.func289,Tryz.ntmps289
 go_wp2_with fail
 refine Zf0 λW hB hs b0 b1 bO=>?_;replace x1:=x1.below hB;replace x2:=x2.below hB;replace y1:=y1.below hB;replace y2:=y2.below hB;refine wp_region_held_drew (S:=λw'=>(∀b o,b<W.heap.size->b≠(w.heap.size+1+1)->w'.cell? ⟨b,o,none⟩=W.cell? ⟨b,o,none⟩)∧KeepBut (w.heap.size+1+1) W.heap.size W w') Zx (KeepBut.S (KeepBut.refl _ _).drew) (λhHeld=>?_);have hBel:Below W.heap.size W W.drew:=(Yae _ _).drew;refine tk 0 (some 5) ?_;refine tl 1 (some 6) rfl (.agg #[.bool s1,.slice p1 n1 c1]) (Zaj 44 _ rfl w.heap.size 0 rfl  #[.bool s1,.slice p1 n1 c1] (λw h=>(h.2.box b0 b0.lt Zo).part 0 #[.bool s1,.slice p1 n1 c1] rfl) _ Tryz.underlying44 rfl Zae) ?_;refine tk 2 (some 7) ?_;refine tl 3 (some 8) rfl (.agg #[.bool t2,.slice q2 m2 d2]) (Zaj 44 _ rfl (w.heap.size+1) 2 rfl  #[.bool t2,.slice q2 m2 d2] (λw h=>(h.2.box b1 b1.lt Zo).part 2 #[.bool t2,.slice q2 m2 d2] rfl) _ Tryz.underlying44 rfl Zae) ?_;refine tk 5 (some 10) ?_;refine tl 6 (some 11) rfl (.agg #[.bool s2,.slice p2 n2 c2]) (Zaj 44 _ rfl (w.heap.size+1) 0 rfl  #[.bool s2,.slice p2 n2 c2] (λw h=>(h.2.box b1 b1.lt Zo).part 0 #[.bool s2,.slice p2 n2 c2] rfl) _ Tryz.underlying44 rfl Zae) ?_;refine tk 7 (some 12) ?_;refine tl 8 (some 13) rfl (.agg #[.bool t1,.slice q1 m1 d1]) (Zaj 44 _ rfl w.heap.size 2 rfl  #[.bool t1,.slice q1 m1 d1] (λw h=>(h.2.box b0 b0.lt Zo).part 2 #[.bool t1,.slice q1 m1 d1] rfl) _ Tryz.underlying44 rfl Zae) ?_;refine tk 11 (some 16) ?_;refine tl 12 (some 17) rfl (.agg #[.bool t1,.slice q1 m1 d1]) (Zaj 44 _ rfl w.heap.size 2 rfl  #[.bool t1,.slice q1 m1 d1] (λw h=>(h.2.box b0 b0.lt Zo).part 2 #[.bool t1,.slice q1 m1 d1] rfl) _ Tryz.underlying44 rfl Zae) ?_;refine tk 13 (some 18) ?_;refine tl 14 (some 19) rfl (.agg #[.bool t2,.slice q2 m2 d2]) (Zaj 44 _ rfl (w.heap.size+1) 2 rfl  #[.bool t2,.slice q2 m2 d2] (λw h=>(h.2.box b1 b1.lt Zo).part 2 #[.bool t2,.slice q2 m2 d2] rfl) _ Tryz.underlying44 rfl Zae) ?_;refine Mono.stc 4 (some 9) (Zcx _ (x1.ext (.of_below hBel)) (y2.ext (.of_below hBel)) Zo Zo) (λe Wn4 hR=>?_);obtain⟨V4,rfl,R4,hb4⟩:=hR;replace hBel:=Zaa hBel hb4;refine⟨(KeepBut.S (hHeld.2.call hb4)),λhHeld=>Mono.pt ?_⟩;refine Mono.stc 9 (some 14) (Zcx _ (y1.ext (.of_below hBel)) (x2.ext (.of_below hBel)) Zo Zo) (λe Wn9 hR=>?_);obtain⟨V9,rfl,R9,hb9⟩:=hR;replace hBel:=Zaa hBel hb9;replace R4:=R4.ext (.of_below hb9);refine⟨(KeepBut.S (hHeld.2.call hb9)),λhHeld=>Mono.pt ?_⟩;refine Mono.stc 10 (some 15) (Zod _ R4 R9 Zo Zo) (λe Wn10 hR=>?_);obtain⟨V10,rfl,R10,hb10⟩:=hR;replace hBel:=Zaa hBel hb10;replace R4:=R4.ext (.of_below hb10);replace R9:=R9.ext (.of_below hb10);refine⟨(KeepBut.S (hHeld.2.call hb10)),λhHeld=>Mono.pt ?_⟩;refine Mono.stc 15 (some 20) (Zcx _ (x2.ext (.of_below hBel)) (y2.ext (.of_below hBel)) Zo Zo) (λe Wn15 hR=>?_);obtain⟨V15,rfl,R15,hb15⟩:=hR;replace hBel:=Zaa hBel hb15;replace R4:=R4.ext (.of_below hb15);replace R9:=R9.ext (.of_below hb15);replace R10:=R10.ext (.of_below hb15);refine⟨(KeepBut.S (hHeld.2.call hb15)),λhHeld=>Mono.pt ?_⟩
 refine Mono.stc 16 (some 21) (Zc6 (m:=m+m+1) _ (R10.mono Zo) (R15.mono Zo) hden Zo) (λe Wn16 hR=>?_);obtain⟨V16,rfl,R16,hb16⟩:=hR;replace hBel:=Zaa hBel hb16;replace R4:=R4.ext (.of_below hb16);replace R9:=R9.ext (.of_below hb16);replace R10:=R10.ext (.of_below hb16);replace R15:=R15.ext (.of_below hb16);refine⟨(KeepBut.S (hHeld.2.call hb16)),λhHeld=>Mono.pt ?_⟩;rw[hab]at R16;obtain⟨C,rfl,zC,oC⟩:=R16.cells;refine Zdk (w.heap.size+1+1) 46 17 rfl rfl rfl rfl 0 C _ C Zx (λw' i u hS=>KeepBut.S (hS.2.set i u)) rfl rfl (bO.below hBel) hHeld (by rw[zC];exact Za0) (Ybl (by rw[zC];rfl)) oC (Zah (by rw[zC];rfl)) (λWs hks bs hHeld=>?_);refine wpAnyH_done Zx ?_ _;have xS:=hks.ext (bO.below hBel) Zd;go_wp2
 refine bodyPost_ret (bs.results rfl _ _ rfl Tryz.underlying46 rfl (by rw[zC];exact Za0)) rfl ?_;exact⟨_,rfl,R16.ext xS,hHeld.2.below hB Zo hB.size⟩
end Go.Proofs.W
namespace Go.Mono
open Go.RowKit
theorem LgV.len {m:Nat} {w:World} {s:Bool} {p:Option Addr} {n c:Nat} {z:Int} (h:LgV m w (.agg #[.bool s,.slice p n c]) z):n<=m∧s=decide (z<0)∧(0<z.natAbs↔0<n):=by
 obtain⟨p',n',c',f,hv,h1,h2,h3,h4⟩:=h;simp only[Value.agg.injEq,Array.mk.injEq,List.cons.injEq,Value.bool.injEq,Ydm,and_true]at hv;obtain⟨rfl,rfl,rfl,rfl⟩:=hv;refine⟨h4,rfl,?_⟩;have:=h2.pos;rw[h3]at this;omega
end Go.Mono
namespace Go.Proofs.W
open Go.RowKit Go.Mono
theorem Zhd {v1:Value} {a:Rat} (w:World) (h1:QtV 600 w v1 a) :
  Calls Tryz.prog 274 #[v1] w λe w'=>e=.returned (.tuple #[v1,.int .i64 0])∧Below w.heap.size w w':=by
 obtain⟨s1,p1,n1,c1,t1,q1,m1,d1,rfl,x1,x2⟩:=h1;have l1:=x1.len.1;have l2:=x2.len.1;have l1':¬((600:Int)<n1):=Zo;have l2':¬((600:Int)<m1):=Zo;clear x1 x2;go_enter Tryz.func274,Tryz.ntmps274
 go_wp2
 have b:=Box.new (w.alloc (.cells #[.bool s1,.slice p1 n1 c1,.bool t1,.slice q1 m1 d1] 46)) 46 #[.bool s1,.slice p1 n1 c1,.bool t1,.slice q1 m1 d1];simp only[Yav]at b;exact bodyPost_ret (b.resultsT rfl _ _ rfl Tryz.underlying46 rfl Za0) rfl ⟨rfl,Zad (Zad (Yae _ _) _) _⟩
theorem Zb0 {v1:Value} {a:Rat} (w:World) (h1:QtV 600 w v1 a) :
  Calls Tryz.prog 249 #[v1] w λe w'=>e=.returned (.bool true)∧Below w.heap.size w w':=by
 obtain⟨s1,p1,n1,c1,t1,q1,m1,d1,rfl,x1,x2⟩:=h1;have hg:(Int.gcd a.num a.den:Int)=1:=by
  have:=a.reduced;have h:Int.gcd a.num a.den=1:=by simpa[Int.gcd,Nat.Coprime]using this
  rw[h];rfl
 have ht:t1=false:=by
  rw[x2.len.2.1];exact decide_eq_false Zo
 subst ht;have hn:=x2.len.2.2.1 (by have:=a.den_pos;omega);have hn':(0:Int)<m1:=Zo;have hr1:=λ(X:World) (hX:Ext w X)=>Zct X (x1.ext hX);have hr2:=λ(X:World) (hX:Ext w X)=>Zct X (x2.ext hX);have hc:=λ(X:World) (hX:Ext w X)=>Zhb X (x1.ext hX) (x2.ext hX) Zd;rw[hg]at hc;clear x1 x2 hg;go_enter Tryz.func249,Tryz.ntmps249
 go_wp2_with fail
 refine Zby λW hB hs b0=>?_;refine(hr1 W (.of_below hB)).mono ?_;rintro e W2 ⟨rfl,hb⟩;replace b0:=b0.below hb;replace hB:=Zaa hB hb;have cb0:=b0.cell;have lb0:=b0.lt;have fb0:=b0.frozen;clear hb;go_wp2_with (go_at_call 239;refine(hr2 W2 (.of_below hB)).mono ?_;rintro e W3 ⟨rfl,hb3⟩;replace b0:=b0.below hb3;replace hB:=Zaa hB hb3;clear cb0 lb0 fb0 hb3;have cb0:=b0.cell;have lb0:=b0.lt;have fb0:=b0.frozen)
 go_wp2_with (go_at_call 265;refine(hc W3 (.of_below hB)).mono ?_;rintro e W4 ⟨v,rfl,hv,hb4⟩;replace hB:=Zaa hB hb4)
 go_wp2_with (go_at_call 214;refine(Zef 1 W4 Zd Zd).mono ?_;rintro e W5 ⟨u,rfl,hu,hb5⟩;replace hB:=Zaa hB hb5)
 go_wp2_with (go_at_call 272;refine(Zlb W5 (hv.below hb5) hu).mono ?_;rintro e W6 ⟨rfl,hb6⟩;replace hB:=Zaa hB hb6)
 go_wp2
 go_ret
 exact⟨Zs,hB⟩
theorem Zuu {v1 v2:Value} {a b:Rat} (w:World) (h1:QtV 600 w v1 a) (h2:QtV 600 w v2 b) (hf:Fits (a+b)) :
  Calls Tryz.prog 271 #[v1,v2] w λe w'=>∃C,e=.returned (.tuple #[.agg C,.int .i64 0])∧QtV 600 w' (.agg C) (a+b)∧Below w.heap.size w w':=by
 have hr1:=λ(X:World) (hX:Ext w X)=>Zb0 X (h1.ext hX);have hr2:=λ(X:World) (hX:Ext w X)=>Zb0 X (h2.ext hX);have hc:=λ(X:World) (hX:Ext w X)=>Zut X (h1.ext hX) (h2.ext hX) Zd;obtain⟨s1,p1,n1,c1,t1,q1,m1,d1,rfl,x1,x2⟩:=h1;obtain⟨s2,p2,n2,c2,t2,q2,m2,d2,rfl,y1,y2⟩:=h2;clear x1 x2 y1 y2;go_enter Tryz.func271,Tryz.ntmps271
 go_wp2_with fail
 refine Zbw λW hB hs b0 b1 bO=>?_;refine(hr1 W (.of_below hB)).mono ?_;rintro e W2 ⟨rfl,hb⟩;replace b0:=b0.below hb;replace b1:=b1.below hb;replace bO:=bO.below hb;replace hB:=Zaa hB hb;have cb0:=b0.cell;have lb0:=b0.lt;have fb0:=b0.frozen;have cb1:=b1.cell;have lb1:=b1.lt;have fb1:=b1.frozen;clear hb hr1 hs;go_wp2_with fail
 refine(hr2 W2 (.of_below hB)).mono ?_;rintro e W3 ⟨rfl,hb⟩;replace b0:=b0.below hb;replace b1:=b1.below hb;replace bO:=bO.below hb;replace hB:=Zaa hB hb;clear cb0 lb0 fb0 cb1 lb1 fb1;have cb0:=b0.cell;have lb0:=b0.lt;have fb0:=b0.frozen;have cb1:=b1.cell;have lb1:=b1.lt;have fb1:=b1.frozen;clear hb hr2;go_wp2_with fail
 refine(hc W3 (.of_below hB)).mono ?_;rintro e W4 ⟨V,rfl,hV,hb4⟩;replace bO:=bO.below hb4;replace hB:=Zaa hB hb4;go_wp2_with fail
 refine(Zhd W4 (hV.tight hf.1 hf.2)).mono ?_;rintro e W5 ⟨rfl,hb9⟩;have h9:=(hV.tight hf.1 hf.2).below hb9;obtain⟨C,rfl,zC,oC⟩:=h9.cells;replace bO:=bO.below hb9;replace hB:=Zaa hB hb9;go_wp2_with first|(refine Zab rfl 46 (.tmp 4) (.tmp 19) rfl (w.heap.size+1+1) 0 46 _ C C rfl rfl bO (by rw[zC];exact Za0) (Ybl (by rw[zC];rfl)) oC (Zah (by rw[zC];rfl)) ?_;intro W6 hk b2)
 refine bodyPost_ret (b2.resultsT rfl _ _ rfl Tryz.underlying46 rfl (by rw[zC];exact Za0)) rfl ?_;exact⟨_,rfl,h9.ext (hk.ext bO Zd),hk.below hB Zo hB.size⟩
theorem Zuv {v1 v2:Value} {a b:Rat} (w:World) (h1:QtV 600 w v1 a) (h2:QtV 600 w v2 b) (hf:Fits (a*b)) :
  Calls Tryz.prog 251 #[v1,v2] w λe w'=>∃C,e=.returned (.tuple #[.agg C,.int .i64 0])∧QtV 600 w' (.agg C) (a*b)∧Below w.heap.size w w':=by
 have hr1:=λ(X:World) (hX:Ext w X)=>Zb0 X (h1.ext hX);have hr2:=λ(X:World) (hX:Ext w X)=>Zb0 X (h2.ext hX);have hc:=λ(X:World) (hX:Ext w X)=>Zsa X (h1.ext hX) (h2.ext hX) Zd;obtain⟨s1,p1,n1,c1,t1,q1,m1,d1,rfl,x1,x2⟩:=h1;obtain⟨s2,p2,n2,c2,t2,q2,m2,d2,rfl,y1,y2⟩:=h2;clear x1 x2 y1 y2;go_enter Tryz.func251,Tryz.ntmps251
 go_wp2_with fail
 refine Zbw λW hB hs b0 b1 bO=>?_;refine(hr1 W (.of_below hB)).mono ?_;rintro e W2 ⟨rfl,hb⟩;replace b0:=b0.below hb;replace b1:=b1.below hb;replace bO:=bO.below hb;replace hB:=Zaa hB hb;have cb0:=b0.cell;have lb0:=b0.lt;have fb0:=b0.frozen;have cb1:=b1.cell;have lb1:=b1.lt;have fb1:=b1.frozen;clear hb hr1 hs;go_wp2_with fail
 refine(hr2 W2 (.of_below hB)).mono ?_;rintro e W3 ⟨rfl,hb⟩;replace b0:=b0.below hb;replace b1:=b1.below hb;replace bO:=bO.below hb;replace hB:=Zaa hB hb;clear cb0 lb0 fb0 cb1 lb1 fb1;have cb0:=b0.cell;have lb0:=b0.lt;have fb0:=b0.frozen;have cb1:=b1.cell;have lb1:=b1.lt;have fb1:=b1.frozen;clear hb hr2;go_wp2_with fail
 refine(hc W3 (.of_below hB)).mono ?_;rintro e W4 ⟨V,rfl,hV,hb4⟩;replace bO:=bO.below hb4;replace hB:=Zaa hB hb4;go_wp2_with fail
 refine(Zhd W4 (hV.tight hf.1 hf.2)).mono ?_;rintro e W5 ⟨rfl,hb9⟩;have h9:=(hV.tight hf.1 hf.2).below hb9;obtain⟨C,rfl,zC,oC⟩:=h9.cells;replace bO:=bO.below hb9;replace hB:=Zaa hB hb9;go_wp2_with first|(refine Zab rfl 46 (.tmp 4) (.tmp 19) rfl (w.heap.size+1+1) 0 46 _ C C rfl rfl bO (by rw[zC];exact Za0) (Ybl (by rw[zC];rfl)) oC (Zah (by rw[zC];rfl)) ?_;intro W6 hk b2)
 refine bodyPost_ret (b2.resultsT rfl _ _ rfl Tryz.underlying46 rfl (by rw[zC];exact Za0)) rfl ?_;exact⟨_,rfl,h9.ext (hk.ext bO Zd),hk.below hB Zo hB.size⟩
end Go.Proofs.W
namespace Go.Mono
open Go.RowKit
theorem LgV.tail {m:Nat} {w:World} {v:Value} {z:Int} (h:LgV m w v z):∃p n c,v=.agg #[.bool (decide (z<0)),.slice p n c]∧(z≠0↔0<n):=by
 obtain⟨p,n,c,f,rfl,h1,h2,h3,h4⟩:=h;refine⟨p,n,c,rfl,?_⟩;have:=h2.pos;rw[h3]at this;omega
end Go.Mono
namespace Go.Proofs.W
open Go.RowKit Go.Mono
theorem Zpu {v1 v2:Value} {n d:Int} (w:World) (h1:LgV 3 w v1 n) (h2:LgV 3 w v2 d) (hd:0<d) :
  Calls Tryz.prog 213 #[v1,v2] w λe w'=>∃C,e=.returned (.tuple #[.agg C,.int .i64 0])∧QtV 3 w' (.agg C) (Rat.divInt n d)∧Below w.heap.size w w':=by
 have hr1:=λ(X:World) (hX:Ext w X)=>Zct X ((h1.ext hX).mono Zd);have hr2:=λ(X:World) (hX:Ext w X)=>Zct X ((h2.ext hX).mono Zd);have hc:=λ(X:World) (hX:Ext w X)=>Zc6 X (h1.ext hX) (h2.ext hX) hd Zd;obtain⟨p1,n1,c1,rfl,_⟩:=h1.tail;obtain⟨p2,n2,c2,rfl,hn2⟩:=h2.tail;have hn2':((n2:Int)==0)=false:=by have:=hn2.1 (Zo);simp;omega
 generalize decide (n<0)=s1 at *;generalize decide (d<0)=s2 at *;clear h1 h2 hn2;go_enter Tryz.func213,Tryz.ntmps213
 go_wp2_with fail
 refine Zbw λW hB hs b0 b1 bO=>?_;refine(hr1 W (.of_below hB)).mono ?_;rintro e W2 ⟨rfl,hb⟩;replace b0:=b0.below hb;replace b1:=b1.below hb;replace bO:=bO.below hb;replace hB:=Zaa hB hb;have cb0:=b0.cell;have lb0:=b0.lt;have fb0:=b0.frozen;have cb1:=b1.cell;have lb1:=b1.lt;have fb1:=b1.frozen;clear hb hr1 hs;go_wp2_with fail
 refine(hr2 W2 (.of_below hB)).mono ?_;rintro e W3 ⟨rfl,hb⟩;replace b0:=b0.below hb;replace b1:=b1.below hb;replace bO:=bO.below hb;replace hB:=Zaa hB hb;clear cb0 lb0 fb0 cb1 lb1 fb1;have cb0:=b0.cell;have lb0:=b0.lt;have fb0:=b0.frozen;have cb1:=b1.cell;have lb1:=b1.lt;have fb1:=b1.frozen;clear hb hr2;go_wp2_with fail
 refine(hc W3 (.of_below hB)).mono ?_;rintro e W4 ⟨V,rfl,hV,hb4⟩;obtain⟨C,rfl,zC,oC⟩:=hV.cells;replace bO:=bO.below hb4;replace hB:=Zaa hB hb4;go_wp2_with first|(refine Zab rfl 46 (.tmp 4) (.tmp 22) rfl (w.heap.size+1+1) 0 46 _ C C rfl rfl bO (by rw[zC];exact Za0) (Ybl (by rw[zC];rfl)) oC (Zah (by rw[zC];rfl)) ?_;intro W6 hk b2)
 refine bodyPost_ret (b2.resultsT rfl _ _ rfl Tryz.underlying46 rfl (by rw[zC];exact Za0)) rfl ?_;exact⟨_,rfl,hV.ext (hk.ext bO Zd),hk.below hB Zo hB.size⟩
theorem Zwx (n d:Int) (w:World) (hd:0<d) (a1 : -9223372036854775808<=n) (a2:n<=9223372036854775807) (b2:d<=9223372036854775807) :
  Calls Tryz.prog 164 #[.int .i64 n,.int .i64 d] w λe w'=>∃C,e=.returned (.tuple #[.agg C,.int .i64 0])∧QtV 3 w' (.agg C) (Rat.divInt n d)∧Below w.heap.size w w':=by
 go_enter Tryz.func164,Tryz.ntmps164
 go_wp2_with fail
 refine Zby λW hB hs bO=>?_;refine(Zef n W a1 a2).mono ?_;rintro e W2 ⟨v1,rfl,h1,hb⟩;replace bO:=bO.below hb;replace hB:=Zaa hB hb;clear hb;go_wp2_with fail
 refine(Zef d W2 Zo b2).mono ?_;rintro e W3 ⟨v2,rfl,h2,hb⟩;replace bO:=bO.below hb;replace hB:=Zaa hB hb;replace h1:=h1.below hb;clear hb;go_wp2_with fail
 refine(Zpu W3 h1 h2 hd).mono ?_;rintro e W4 ⟨C,rfl,hV,hb⟩;obtain⟨_,e,zC,oC⟩:=hV.cells;cases e;replace bO:=bO.below hb;replace hB:=Zaa hB hb;clear hb h1 h2;go_wp2_with first|(refine Zab rfl 46 (.tmp 4) (.tmp 11) rfl w.heap.size 0 46 _ C C rfl rfl bO (by rw[zC];exact Za0) (Ybl (by rw[zC];rfl)) oC (Zah (by rw[zC];rfl)) ?_;intro W6 hk b2)
 refine bodyPost_ret (b2.resultsT rfl _ _ rfl Tryz.underlying46 rfl (by rw[zC];exact Za0)) rfl ?_;exact⟨_,rfl,hV.ext (hk.ext bO Zd),hk.below hB Zo hB.size⟩
section
open Go.Ex
variable {K:Nat->Value} {hK:∀i,(K i).oneCell'=true}
def cR4Add (S:Side) (w0:World) (X:Nat->Prop):Ctr (qDen K hK) Tryz.prog w0 X:=binSpec S.cl w0 X 271 (λa b=>a+b) (λa b=>S.fit (a+b)) λa b u v L w hs hL h1 h2=>(Zuu w h1.qt h2.qt (S.hfit _ _ hs hL)).mono λe w' ⟨C,e1,hC,hb⟩=>⟨_,e1,hC.qv,hb⟩
def cR4Mul (S:Side) (w0:World) (X:Nat->Prop):Ctr (qDen K hK) Tryz.prog w0 X:=binSpec S.cl w0 X 251 (λa b=>a*b) (λa b=>S.fit (a*b)) λa b u v L w hs hL h1 h2=>(Zuv w h1.qt h2.qt (S.hfit _ _ hs hL)).mono λe w' ⟨C,e1,hC,hb⟩=>⟨_,e1,hC.qv,hb⟩
def ofR4 (args:List SA) (bk:List (Nat×Blk)) (orc:List (Option Bool)):Option (SV×List Prop×List (Option Bool)):=
 match args with
 | [x, y] => match intOf (some (.a x)), intOf (some (.a y)) with
   | some (.i64,n,_),some (.i64,d,_)=>some (.tup [.agg [.quo (Rat.divInt n d)],okV],[inR n,inR d,0<d],orc)
   | _,_=>none
 | _=>none
def cR4Of (w0:World) (X:Nat->Prop):Ctr (qDen K hK) Tryz.prog w0 X:=.plain 164 ofR4<|by
    intro args bk orc v obl orc' hr hobl ρ w vals hfr hb hargs;unfold ofR4 at hr;split at hr
    ·rename_i x y
     split at hr
     ·rename_i n s d s' hx hy
      cases hr;obtain⟨v1,r1,rfl,h1,v2,r2,rfl,h2,h3⟩:=hargs;obtain rfl:r2=[]:=h3;obtain rfl:=Zbj (D:=qDen K hK) (ρ:=ρ) (w:=w) hx h1;obtain rfl:=Zbj (D:=qDen K hK) (ρ:=ρ) (w:=w) hy h2;obtain⟨a1,a2⟩:=hobl (inR n) Zs;obtain⟨b1,b2⟩:=hobl (inR d) Zs;refine(Zwx n d w (hobl (0<d) Zs) a1 a2 b2).mono ?_;rintro e w' ⟨C,rfl,hC,hbl⟩;exact⟨_,rfl,⟨[_,.int .i64 0],rfl,_,_,rfl,den_quo.2 (hC.mono Zd).qv,_,_,rfl,⟨rfl,rfl⟩,rfl⟩,hbl⟩
     ·cases hr
    ·cases hr
end
end Go.Proofs.W
namespace Go.Mono
open Go.RowKit
section
theorem Zmm {P:Program} {S:World->Prop} {oi:Oper} {a:Act} (ty:TypeId) (x ix:Operand) (ok:Bool) (ho:oi.op=.lookup ty x ix ok) (m kv v:Value) (hx:a.eval x=m) (hk:a.eval ix=kv)
  (hrun:∀w,S w->(Instr.lookup ty m kv ok).run P w=.ok v w):∀w,S w->(execOp a.eval oi).run P w=.ok (.value v) w:=λw hS=>by
 unfold execOp;simp only[ho,hx,hk,Yar,hrun w hS,Yag,Yau]
section
variable {P:Program} {ops:Array Oper} {Q:Exit->Act->World->Prop} {md:Region.Mode} {S:World->Prop}
theorem Zjm (B:Nat) (T:TypeId) (i:Nat) {o:Oper} (hi:ops[i]? = some o) (hg:o.guard=none) (hd:o.dst=none) {ty:TypeId} {x y:Operand} (ho:o.op=.store ty x y) (off:Nat) (cells cs new:Array Value) {a:Act} {fuel:Nat} {listed:Array Bool} {w:World}
  (hr:Region.ready md ops listed=[i]) (hS:∀w i u,S w->S (w.setCell ⟨B,i,none⟩ u)) (hx:a.eval x=.pointer (some ⟨B,off,none⟩)) (hy:a.eval y=.agg cells)
  (hb:Box w B T cs) (hs:S w) (hi2:(P.info? ty).map (·.size)=some cells.size) (hoff:off+cells.size<=cs.size) (h1:cells.all (·.oneCell')=true)
  (hn:cs.toList.take off++cells.toList++cs.toList.drop (off+cells.size)=new.toList)
  (h:∀w',KeepBut B w.heap.size w w'->Box w' B T new->S w'->wpAnyH P md ops Q S fuel (listed.setIfInBounds i true) a w'):wpAnyH P md ops Q S (fuel+1) listed a w:=by
 refine wpAnyH_all hr Zs λj hj=>?_;obtain rfl:j=i:=by simpa using hj
 unfold wpOp;rw[hi];have hw:Region.wanted o (yielded ops a.tmps)=true:=by simp[Region.wanted,hg]
 simp only[hw,if_true];left
 have hb2:=Box.setCells cells.toList off w cs hb (by simpa using hoff);have hb3:Box (w.setCells B off cells.toList) B T new:=by simpa[hn]using hb2
 have hs2:=Zbn hS cells.toList off w hs;refine wp_store_mid ty x y ho B off cells hx hy (hb.there off cells.size hoff) hi2 h1 ?_;rw[hd];exact⟨hs2,h _ ((KeepBut.refl _ _).setCells _ _ _) hb3 hs2⟩
end
def CB (R:Nat) (W w:World):Prop:=(∀b o,b<W.heap.size->b≠R->w.cell? ⟨b,o,none⟩=W.cell? ⟨b,o,none⟩)∧KeepBut R W.heap.size W w
theorem CB.set {R:Nat} {W:World} (w:World) (i:Nat) (u:Value) (h:(∀b o,b<W.heap.size->b≠R->w.cell? ⟨b,o,none⟩=W.cell? ⟨b,o,none⟩)∧KeepBut R W.heap.size W w) :
  (∀b o,b<W.heap.size->b≠R->(w.setCell ⟨R,i,none⟩ u).cell? ⟨b,o,none⟩=W.cell? ⟨b,o,none⟩)∧KeepBut R W.heap.size W (w.setCell ⟨R,i,none⟩ u):=KeepBut.S (h.2.set i u)
theorem Zmn {R:Nat} {W w:World} (h:KeepBut R W.heap.size W w):(∀b o,b<W.heap.size->b≠R->w.cell? ⟨b,o,none⟩=W.cell? ⟨b,o,none⟩)∧KeepBut R W.heap.size W w:=KeepBut.S h
end
end Go.Mono
namespace Go.Proofs.W
open Go.RowKit Go.Mono
structure PowsAt (w:World) (m:Nat):Prop where
 lt:m<w.heap.size
 pos:0<w.heap.size
 cell:w.cell? ⟨0,0,none⟩=some (.map (some m))
 look:∀w':World,w'.heap[m]? = w.heap[m]?->(Instr.lookup 226 (.map (some m)) (.int .i64 1) false).run Tryz.prog w'=.ok (.func (.func 344) #[] #[]) w'∧(Instr.lookup 226 (.map (some m)) (.int .i64 2) false).run Tryz.prog w'=.ok (.func (.func 344) #[] #[]) w'∧
  (Instr.lookup 226 (.map (some m)) (.int .i64 3) false).run Tryz.prog w'=.ok (.func (.func 345) #[] #[]) w'∧(Instr.lookup 226 (.map (some m)) (.int .i64 4) false).run Tryz.prog w'=.ok (.func (.func 346) #[] #[]) w'
theorem PowsAt.below {w w':World} {m:Nat} (h:PowsAt w m) (hB:Below w.heap.size w w'):PowsAt w' m:=
 ⟨Yaf h.lt hB.size,Yaf h.pos hB.size,(hB.cell (p:=⟨0,0,none⟩) h.pos).trans h.cell,λw2 h2=>h.look w2 (h2.trans (hB.block m h.lt))⟩
theorem PowsAt.kind {w:World} {m:Nat} (h:PowsAt w m) {kd:Int} (k1:1<=kd) (k2:kd<=4):∀w':World,w'.heap[m]? = w.heap[m]?->(Instr.lookup 226 (.map (some m)) (.int .i64 kd) false).run Tryz.prog w'=.ok (.func (.func (if kd=3 then 345 else if kd=4 then 346 else 344)) #[] #[]) w':=λw' hw=>by
 obtain⟨h1,h2,h3,h4⟩:=h.look w' hw;rcases(by omega:kd=1∨kd=2∨kd=3∨kd=4) with rfl|rfl|rfl|rfl
 ·exact h1
 ·exact h2
 ·exact h3
 ·exact h4
theorem Zpj (kd:Int):∀args w,(callFunc (if kd=3 then 345 else if kd=4 then 346 else 344) args).run Tryz.prog w=.ok (.enter (if kd=3 then 345 else if kd=4 then 346 else 344) args) w:=by
 by_cases h3:kd=3
 ·rw[if_pos h3];exact Go.Proofs.enters_of Tryz.func345 Zk rfl
 ·rw[if_neg h3]
  by_cases h4:kd=4
  ·rw[if_pos h4];exact Go.Proofs.enters_of Tryz.func346 Zk rfl
  ·rw[if_neg h4];exact Go.Proofs.enters_of Tryz.func344 Zk rfl
structure PowFits (a:Lns) (k s:Nat):Prop where
 f1:Fits (a.step k s)
 f2:Fits (a.cv s*a.step k s)
 f3:Fits (a.gr k s)
 f4:Fits (a.cv s*a.step k s-a.gr k s)
theorem Zwv (a:Lns) (ha:a.opt) (q:Plc) (hchk:Chk a q) (s k:Nat) (w:World) (h:OptAt w a q) (s1:s<a.ns) (k1:k<a.nw) (hf:PowFits a k s) :
  Calls Tryz.prog (if(a.S s).kind=3 then 345 else if(a.S s).kind=4 then 346 else 344) #[.agg (a.vvals q k),.int .i64 (s:Int)] w λe w'=>∃C,e=.returned (.agg C)∧QV w' (.agg C) (a.pow k s)∧Below w.heap.size w w':=by
 by_cases h3:(a.S s).kind=3
 ·rw[if_pos h3]
  have e:a.pow k s=Rat.divInt 0 1:=by unfold Lns.pow;rw[if_pos h3]
  rw[e];exact Zws _ _ w
 ·rw[if_neg h3]
  by_cases h4:(a.S s).kind=4
  ·rw[if_pos h4]
   have e:a.pow k s=a.cv s:=by unfold Lns.pow;rw[if_neg h3,if_pos h4]
   rw[e];have:=(ha.base.sok s s1).curv;exact Zuo a q s k w h s1 this.1 this.2
  ·rw[if_neg h4]
   have e:a.pow k s=a.cv s*a.step k s-a.gr k s:=by unfold Lns.pow;rw[if_neg h3,if_neg h4]
   rw[e];exact Zr0 a ha q hchk s k w h s1 k1 hf.f1 hf.f2 hf.f3 hf.f4
theorem Zob (a:Lns) (ha:a.opt) (q:Plc) (hchk:Chk a q) (s k:Nat) (w:World) (h:OptAt w a q) (s1:s<a.ns) (k1:k<a.nw) (hf:PowFits a k s) (m:Nat) (hp:PowsAt w m) :
  Calls Tryz.prog 93 #[.agg (a.vvals q k),.int .i64 (s:Int)] w λe w'=>∃C,e=.returned (.agg C)∧QV w' (.agg C) (a.pow k s)∧Below w.heap.size w w':=by
 obtain⟨b,off,hps,hbl,hcell⟩:=h.surfs.2.2 Zo;have f0:w.cell? ⟨b,off+s*22,none⟩=some (.int .i64 (a.S s).kind):=hcell s 0 s1 Zo;have hc:=λW (hW:Below w.heap.size w W)=>Zwv a ha q hchk s k W (h.below hW) s1 k1 hf;have eg:=Zpj (a.S s).kind;have hlk:=hp.kind (ha.base.sok s s1).k1 (ha.base.sok s s1).k2;have hpc:=hp.cell;have hpl:=hp.lt;simp only[Lns.vvals]at hc ⊢;rw[hps]at hc ⊢;have s1':(s:Int)<a.ns:=Zo;have hp0:=hp.pos;clear hcell hf;generalize (a.S s).kind=kd at *;generalize (if kd=3 then 345 else if kd=4 then 346 else 344)=g at *;go_enter Tryz.func93,Tryz.ntmps93
 go_wp2_with fail
 refine Zem λW hB hs bV bR=>?_;have cV:=bV.cell;have lV:=bV.lt;replace f0:=(hB.cell (p:=⟨b,off+s*22,none⟩) hbl).trans f0;have lb:=Yaf hbl hB.size;have nb:b≠w.heap.size+1:=Zo;have nV:w.heap.size≠w.heap.size+1:=Zo;have n0:0≠w.heap.size+1:=Zo;have l0:0<W.heap.size:=Zo;replace hpc:=(hB.cell (p:=⟨0,0,none⟩) hp0).trans hpc;have hlk':∀w',((∀b o,b<W.heap.size->b≠w.heap.size+1->w'.cell? ⟨b,o,none⟩=W.cell? ⟨b,o,none⟩)∧KeepBut (w.heap.size+1) W.heap.size W w')->(Instr.lookup 226 (.map (some m)) (.int .i64 kd) false).run Tryz.prog w'=.ok (.func (.func g) #[] #[]) w':=λw' hS=>
  hlk w' ((hS.2.block m Zo Zo).trans (hB.block m hpl))
 have hSt:=λ(w':World) (i:Nat) (u:Value)=>CB.set (R:=w.heap.size+1) (W:=W) w' i u;replace hSt:=Yah hSt;replace hlk':=Yah hlk';clear hlk;refine wp_region_held_drew (S:=λw'=>(∀b o,b<W.heap.size->b≠w.heap.size+1->w'.cell? ⟨b,o,none⟩=W.cell? ⟨b,o,none⟩)∧KeepBut (w.heap.size+1) W.heap.size W w') Zk (Zmn (KeepBut.refl _ _).drew) (λhHeld=>?_);refine tk 0 (some 5) ?_;refine tk 1 (some 6) ?_;refine tk 2 (some 7) ?_;refine tk 3 (some 8) ?_;refine tk 4 (some 9) ?_;refine tk 5 (some 10) ?_;refine tk 6 (some 11) ?_;refine tk 7 (some 12) ?_;refine tk 8 (some 13) ?_;refine tl 9 (some 14) rfl (.func (.func g) #[] #[]) (Zmm 226 _ _ false rfl (.map (some m)) (.int .i64 kd) _ rfl rfl hlk'.out) ?_;refine tk 10 (some 15) ?_;refine tk 11 (some 16) ?_;refine Mono.st 12 ?_;intro K hK;go_simp
 (refine(hc _ ?_).mono ?_;(exact hHeld.2.below hB Zo hB.size);rintro e W2 ⟨C,rfl,R,hb⟩)
 refine kp hK (Zmn (hHeld.2.call hb)) (λhHeld=>?_);clear hK K;obtain⟨C',hC',hC,h1⟩:=R.cells;cases hC';have hi:(Tryz.prog.info? 46).map (·.size)=some C.size:=by rw[hC];exact Za0
 have bR2:=bR.drew.below hb;refine Zjm (w.heap.size+1) 46 13 rfl rfl rfl rfl 0 C _ C Zk hSt.out rfl rfl bR2 hHeld hi (Ybl (by rw[hC];rfl)) h1 (Zah (by rw[hC];rfl)) (λW3 hk3 b3 hHeld3=>?_);refine wpAnyH_done Zk ?_ _;go_wp2
 refine bodyPost_ret (b3.results rfl _ _ rfl Tryz.underlying46 rfl hi) rfl ?_;exact⟨C,rfl,R.ext (hk3.ext bR2 Zd),hHeld3.2.below hB Zo hB.size⟩
end Go.Proofs.W
