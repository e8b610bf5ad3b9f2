/- The law PupilExit: the chief ray meets the center of the exit pupil,the marginal ray its edge;its contracts,its walk and its card. Part 2 of 11. No condition beside the row. -/
import Derived.Test.YtgkmjekkefmejaaGreatDoorA12
import Derived.Test.YtgkmjekkefmejaaGreatDoorA17
import Derived.Test.YtgkmjekkefmejaaGreatDoorA23
import Derived.Test.YtgkmjekkefmejaaGreatDoorA26
import Derived.Test.YtgkmjekkefmejaaGreatDoorA27
set_option linter.unusedVariables false
set_option linter.unusedSimpArgs false
set_option maxRecDepth 100000
set_option maxHeartbeats 4000000
namespace Go.Mono
def Lns.ahM (a:Lns) (k:Nat):Nat->M22
 | 0=>.one
 | s+1=>(a.gapM k s).mul (a.sysM k 0 s)
def Lns.ahA (a:Lns):Rat:=(a.ahM a.pr.toNat a.st.toNat).a
def Lns.ahB (a:Lns):Rat:=(a.ahM a.pr.toNat a.st.toNat).b
def Lns.enZ (a:Lns):Rat:=a.ahB/a.ahA
def Lns.enR (a:Lns):Rat:=Rat.divInt a.pu 2000000
def Lns.far (a:Lns):Rat:=Rat.divInt a.di 1000000
def Lns.fY (a:Lns) (f:Nat):Rat:=Rat.divInt (a.Y f) 1000000
def Lns.par (a:Lns):Rat×Rat:=(a.enR,Rat.divInt 0 1)
def Lns.sla (a:Lns) (f:Nat):Rat×Rat:=(-(a.enZ*a.fY f),a.fY f)
def Lns.axi (a:Lns):Rat×Rat:=(a.far*(a.enR/(a.far+a.enZ)),a.enR/(a.far+a.enZ))
def Lns.out (a:Lns) (f:Nat):Rat×Rat:=(a.enZ*(a.fY f/(a.far+a.enZ)),-(a.fY f/(a.far+a.enZ)))
theorem Lns.opt.ahM_ov {a:Lns} (ha:a.opt) {k:Nat} (hk:k<a.nw):∀s,s+1<a.ns->∃D,D<=10 ^ (16+30*s)∧(a.ahM k s).Ov (10 ^ (20+37*s)) D
 | 0,_=>⟨1,Zd,M22.one_ov.mono Zd⟩
 | s + 1, h => by
   obtain⟨D,h1,h2⟩:=ha.sysM_ov hk (i:=0) s Zo;obtain⟨D',h3,h4⟩:=ha.gapS_ov (s:=s) Zo hk h2 h1;exact⟨D',Yak h3 (Zbs Zo),h4.mono (Zbs Zo)⟩
theorem Lns.opt.pr_lt {a:Lns} (ha:a.opt):a.pr.toNat<a.nw:=by
 have:=ha.base.pr;have:=ha.base.nw;omega
theorem Lns.opt.st_lt {a:Lns} (ha:a.opt):a.st.toNat+1<a.ns:=by
 have:=ha.base.st;have:=ha.base.ns;omega
theorem Lns.opt.ah_hs {a:Lns} (ha:a.opt) (h6:a.ns<=6):Hs 200 a.ahA∧Hs 200 a.ahB:=by
 obtain⟨D,h1,h2⟩:=ha.ahM_ov ha.pr_lt a.st.toNat ha.st_lt;have hs:=ha.st_lt;have e1:=Zbs (show 20+37*a.st.toNat<=200 by omega);have e2:=Yak h1 (Zbs (show 16+30*a.st.toNat<=200 by omega));exact⟨Hs.of_ov h2.a e1 e2,Hs.of_ov h2.b e1 e2⟩
theorem Zkj {z:Int} (h1 : -1000000000<=z) (h2:z<=1000000000):z.natAbs<=10 ^ 10:=by
 have:(10:Nat) ^ 10=10000000000:=Zd;omega
theorem Lns.opt.enZ_hs {a:Lns} (ha:a.opt) (h6:a.ns<=6):Hs 400 a.enZ:=(ha.ah_hs h6).2.div (ha.ah_hs h6).1
theorem Lns.opt.enR_hs {a:Lns} (ha:a.opt):Hs 10 a.enR:=Hs.divInt _ _ Zd (Zkj (by have:=ha.base.pu;omega) ha.base.pu.2) Zd
theorem Lns.opt.far_hs {a:Lns} (ha:a.opt):Hs 10 a.far:=Hs.divInt _ _ Zd (Zkj (by have:=ha.base.di;omega) ha.base.di.2) Zd
theorem Lns.opt.fY_in {a:Lns} (ha:a.opt) {f:Nat} (hf:f<a.nf) : -1000000000<=a.Y f∧a.Y f<=1000000000:=by
 obtain⟨h1,h2⟩:=(ha.base.fr f hf).2;split at h1<;>split at h2<;>omega
theorem Lns.opt.fY_hs {a:Lns} (ha:a.opt) {f:Nat} (hf:f<a.nf):Hs 10 (a.fY f):=Hs.divInt _ _ Zd (Zkj (ha.fY_in hf).1 (ha.fY_in hf).2) Zd
theorem Lns.opt.zt_hs {a:Lns} (ha:a.opt) (h6:a.ns<=6) {f:Nat} (hf:f<a.nf):Hs 410 (a.enZ*a.fY f):=(ha.enZ_hs h6).mul (ha.fY_hs hf)
theorem Lns.opt.fz_hs {a:Lns} (ha:a.opt) (h6:a.ns<=6):Hs 411 (a.far+a.enZ):=ha.far_hs.add (ha.enZ_hs h6)
theorem Lns.opt.rw_hs {a:Lns} (ha:a.opt) (h6:a.ns<=6):Hs 421 (a.enR/(a.far+a.enZ)):=ha.enR_hs.div (ha.fz_hs h6)
theorem Lns.opt.tw_hs {a:Lns} (ha:a.opt) (h6:a.ns<=6) {f:Nat} (hf:f<a.nf):Hs 421 (a.fY f/(a.far+a.enZ)):=(ha.fY_hs hf).div (ha.fz_hs h6)
def Lns.stg (a:Lns) (s d:Int):Lns:={a with st:=s,di:=d}
theorem Lns.opt.stg {a:Lns} (ha:a.opt) {s d:Int} (h0:0<=s) (h1:s<=a.ns-2) (hk:(a.S s.toNat).kind≠3) (hd:d=a.di∨(1<=d∧d<=1000000000)):(a.stg s d).opt:=by
 have hb:=ha.base;refine⟨{hb with di:=?_,fr:=?_,st:=⟨h0,h1⟩,stop:=hk},ha.ir,ha.it,ha.ia⟩
 ·rcases hd with rfl|h
  ·exact hb.di
  ·exact⟨by have:=h.1;show(0:Int)<=d;omega,h.2⟩
 ·intro i hi
  rcases hd with rfl|h
  ·exact hb.fr i hi
  ·have:=hb.fr i hi
   show In (if d=0 then 1000000 else 1000000000) (a.X i)∧In (if d=0 then 1000000 else 1000000000) (a.Y i);rw[if_neg Zo];obtain⟨⟨x1,x2⟩,y1,y2⟩:=this;split at x1<;>exact⟨⟨Zo,Zo⟩,Zo,Zo⟩
end Go.Mono
namespace Go.Mono
end Go.Mono
namespace Go.Proofs.W
open Go.RowKit Go.Mono Go.Ex
end Go.Proofs.W
namespace Go.Proofs.W
open Go.RowKit Go.Mono
section
open Go.Ex
variable {K:Nat->Value} {hK:∀i,(K i).oneCell'=true}
def dS:Srf:=⟨0,0,0,0,0,0,0,0,0,0,0,0,0,{data:=#[]},0,0,0,0,0,0,0,[]⟩
def lforce {α:Type}:List Int->(List Int->α)->α
 | [],f=>f []
 | z::r,f=>icase z λz=>lforce r λr=>f (z::r)
theorem Zfb {α:Type}:∀(l:List Int) (f:List Int->α),lforce l f=f l
 | [],f=>rfl
 | z::r,f=>by unfold lforce;rw[Zcw,Zfb r]
def llforce {α:Type}:List (List Int)->(List (List Int)->α)->α
 | [],f=>f []
 | z::r,f=>lforce z λz=>llforce r λr=>f (z::r)
theorem Zi1 {α:Type}:∀(l:List (List Int)) (f:List (List Int)->α),llforce l f=f l
 | [],f=>rfl
 | z::r,f=>by unfold llforce;rw[Zfb,Zi1 r]
def sforce {α:Type}:List Srf->(List Srf->α)->α
 | [],f=>f []
 | ⟨z1, z2, z3, z4, z5, z6, z7, z8, z9, z10, z11, z12, z13, g, z15, z16, z17, z18, z19, z20, z21, co⟩ :: r, f =>
   icase z1 λz1=>icase z2 λz2=>icase z3 λz3=>icase z4 λz4=>icase z5 λz5=>icase z6 λz6=>icase z7 λz7=>icase z8 λz8=>icase z9 λz9=>icase z10 λz10=>icase z11 λz11=>icase z12 λz12=>icase z13 λz13=>
   icase z15 λz15=>icase z16 λz16=>icase z17 λz17=>icase z18 λz18=>icase z19 λz19=>icase z20 λz20=>icase z21 λz21=>sforce r λr=>f (⟨z1,z2,z3,z4,z5,z6,z7,z8,z9,z10,z11,z12,z13,g,z15,z16,z17,z18,z19,z20,z21,co⟩::r)
theorem Zmi {α:Type}:∀(l:List Srf) (f:List Srf->α),sforce l f=f l
 | [],f=>rfl
 | s :: r, f => by
   cases s;unfold sforce;simp only[Zcw];rw[Zmi r]
def parseL (bk:List (Nat×Blk)) (x:List U) (ix:Nat->Nat->Int):Option Lns:=
 match x with
 | [um, ud, up, ut, ur, uf, uw, us, uc] => match strU um, intsU [ud, up, ut, ur] with
   | some nm,some [di,pu,st,pr]=>(match rdU bk 2 uf,rdU bk 2 uw,rdU bk 22 us,rdU bk 1 uc with
   | some (nf, lf), some (nw, lw), some (ns, ls), some (0, _) => (match intsU lf, intsU lw, srfU bk ls with
     | some F,some W,some S=>lforce F λF=>lforce W λW=>sforce S λS=>icase di λdi=>icase pu λpu=>icase st λst=>icase pr λpr=>ncase nf λnf=>ncase nw λnw=>ncase ns λns=>some ⟨nm,di,pu,st,pr,nf,λi=>F.getD (i*2) 0,λi=>F.getD (i*2+1) 0,nw,λi=>W.getD (i*2) 0,λi=>W.getD (i*2+1) 0,ns,λi=>S.getD i dS,ix⟩
     | _,_,_=>none)
   | _,_,_,_=>none)
   | _,_=>none
 | _=>none
theorem Zmj {w:World} {p:Option Addr} {n c:Nat} {F:List Int} (h1:n<=c) (h2:n<=1000000) (hl:F.length=n*2) (hc:0<n->0<2->∃b off,p=some ⟨b,off,none⟩∧b<w.heap.size∧∀i v,(F.map (Value.int .i64))[i]? = some v->w.cell? ⟨b,off+i,none⟩=some v) :
  RdC w p n c 2 (λi j=>if j=0 then .int .i64 (F.getD (i*2) 0) else .int .i64 (F.getD (i*2+1) 0)):=by
 refine⟨h1,Zo,λhn=>?_⟩;obtain⟨b,off,q1,q2,q3⟩:=hc hn Zd;refine⟨b,off,q1,q2,λi j hi hj=>?_⟩;rw[Ybj];apply q3;rcases(by omega:j=0∨j=1) with rfl|rfl
 ·have hlt:i*2<F.length:=by omega
  simp[hlt]
 ·have hlt:i*2+1<F.length:=by omega
  simp[hlt]
theorem Zmk {ρ:Nm} {w:World} {bk:List (Nat×Blk)} (hB:BkOk (qDen K hK) ρ w w bk) {x:List U} {ix:Nat->Nat->Int} {a:Lns} (h:parseL bk x ix=some a) {cs:List Value} (hd:denL (qDen K hK) ρ w x cs) (pi:Option Addr) (ci:Nat) (pI:Nat->Option Addr) (cI:Nat->Nat) :
  a.ix=ix∧∃q:Plc,q.pi=pi∧q.ci=ci∧q.pI=pI∧q.cI=cI∧cs.toArray=a.lvals q∧LnsAt w a q:=by
 unfold parseL at h;split at h
 ·rename_i um ud up ut ur uf uw us uc
  split at h
  rotate_left
  ·cases h
  rename_i nm di pu st pr en ei;split at h
  ·rename_i nf lf nw lw ns ls lc hf hw hs hc
   split at h
   ·rename_i F W S eF eW eS
    rw[Zfb,Zfb,Zmi,Zcw,Zcw,Zcw,Zcw,Zeo,Zeo,Zeo]at h;cases h;have w1:∀{u:U} {sz n:Nat} {l:List U},rdU bk sz u=some (n,l)->u.w=1:=λ{u sz n l} hr=>by
     unfold rdU at hr;split at hr<;>first|rfl|cases hr
    obtain⟨k0,_,rfl,g0,k1,_,rfl,g1,k2,_,rfl,g2,k3,_,rfl,g3,k4,_,rfl,g4,c1,_,rfl,d1,c2,_,rfl,d2,c3,_,rfl,d3,c4,e4,rfl,d4,he⟩:=hd;obtain rfl:=Zsb en g0;have fi:=Zcz ei (ds:=k1++(k2++(k3++(k4++[])))) ⟨_,_,rfl,g1,_,_,rfl,g2,_,_,rfl,g3,_,_,rfl,g4,rfl⟩;rw[Ydg]at fi;have ee:∀R:List Value,k1++(k2++(k3++(k4++R)))=(k1++(k2++(k3++k4)))++R:=λR=>by simp only[Ybx]
    rw[ee,fi];obtain rfl:e4=[]:=he;have one:∀{u:U} {c:List Value} {sz n:Nat} {l:List U},rdU bk sz u=some (n,l)->denU (qDen K hK) ρ w u c->∃v,c=[v]:=λ{u c sz n l} hr hu=>by
     have:=hu.len;rw[w1 hr]at this;exact Ydr.1 this
    obtain⟨v1,rfl⟩:=one hf d1;obtain⟨v2,rfl⟩:=one hw d2;obtain⟨v3,rfl⟩:=one hs d3;obtain⟨v4,rfl⟩:=one hc d4;obtain⟨p1,k1,ds1,rfl,a1,b1,l1,m1,r1⟩:=Zfz hB d1 hf;obtain⟨p2,k2,ds2,rfl,a2,b2,l2,m2,r2⟩:=Zfz hB d2 hw;obtain⟨p3,k3,ds3,rfl,a3,b3,l3,m3,r3⟩:=Zfz hB d3 hs;obtain⟨p4,k4,ds4,rfl,a4,b4,l4,m4,r4⟩:=Zfz hB d4 hc;obtain rfl:=Zcz eF l1;obtain rfl:=Zcz eW l2;obtain⟨ps,hps,rfl⟩:=Zsd hB S.length (Yab _) eS l3;refine⟨rfl,⟨p1,k1,p2,k2,p3,k3,p4,k4,λi=>(ps.getD i (none,0)).1,λi=>(ps.getD i (none,0)).2,pi,ci,pI,cI⟩,rfl,rfl,rfl,rfl,rfl,?_,?_,?_,λi _=>?_⟩
    ·exact Zmj a1 b1 (by simpa using m1) r1
    ·exact Zmj a2 b2 (by simpa using m2) r2
    ·refine⟨a3,(show ns<=140737488351232 by omega),λhn=>?_⟩
     obtain⟨b,off,q1,q2,q3⟩:=r3 hn Zd;refine⟨b,off,q1,q2,λi j hi hj=>?_⟩;replace hi:i<ns:=hi;rw[Ybj];apply q3;have hlen:∀x∈S.zip ps,(x.1.cs x.2.1 x.2.2).toList.length=22:=λx _=>rfl;have hSl:S.length=ns:=by
      have h5:=Zof hlen;rw[h5,List.length_zip,hps,Nat.min_self]at m3;omega
     have hz:(S.zip ps)[i]? = some (S.getD i dS,ps.getD i (none,0)):=List.getElem?_zip_eq_some.2 ⟨by simp[hSl,hi],by simp[hps,hSl,hi]⟩;rw[Zoe hlen i j hj,hz];rw[Yfq];exact Zsc hj
    ·have hnil:=Zod S.length (Yab _) eS
     have e:(S.getD i dS).co=[]:=by
      rw[Yac];cases hg:S[i]? with
      | none=>rfl
      | some s=>exact hnil s (Ych hg)
     show CoatAt w _ _ (S.getD i dS).co;rw[e];exact CoatAt.nil _ _ _
   ·cases h
  ·cases h
 ·cases h
def rowsU (bk:List (Nat×Blk)) (nw:Nat):List U->Option (List (List Int))
 | []=>some []
 | u :: l => match rdU bk 1 u with
   | some (n, us) => if Nat.beq n nw then (match intsU us, rowsU bk nw l with
     | some z,some r=>some (z::r)
     | _,_=>none) else none
   | none=>none
theorem Zo0 {ρ:Nm} {w:World} {bk:List (Nat×Blk)} (hB:BkOk (qDen K hK) ρ w w bk) {nw:Nat}:∀{us:List U} {R:List (List Int)} {ds:List Value},rowsU bk nw us=some R->denL (qDen K hK) ρ w us ds->
  ∃ps:List (Option Addr×Nat),ps.length=R.length∧ds=ps.map (λx=>Value.slice x.1 nw x.2)∧∀i,i<R.length->RdF w (ps.getD i (none,0)).1 nw (ps.getD i (none,0)).2 (λj=>(R.getD i []).getD j 0)
 | [],R,ds,h,hd=>by cases h;exact⟨[],rfl,hd,λi hi=>by simp at hi⟩
 | u :: l, R, ds, h, hd => by
   unfold rowsU at h;split at h
   ·rename_i n us hr
    split at h
    ·rename_i hn
     obtain rfl:=Ybe hn;split at h
     ·rename_i z r hz hrw
      cases h;obtain⟨c,d,rfl,hu,hd⟩:=hd;obtain⟨v,rfl⟩:∃v,c=[v]:=by
       have:=hu.len;have hw:u.w=1:=by
        unfold rdU at hr;split at hr<;>first|rfl|cases hr
       rw[hw]at this;exact Ydr.1 this
      obtain⟨p,c,ds,rfl,a1,b1,l1,m1,r1⟩:=Zfz hB hu hr;obtain rfl:=Zcz hz l1;obtain⟨ps,h1,rfl,h3⟩:=Zo0 hB hrw hd;refine⟨(p,c)::ps,by simp[h1],rfl,λi hi=>?_⟩;cases i with
      | zero =>
        refine⟨a1,Zo,λhn=>?_⟩;obtain⟨b,off,q1,q2,q3⟩:=r1 hn Zd;refine⟨b,off,q1,q2,λj hj=>q3 j _ ?_⟩;have hlt:j<z.length:=by
         rw[Ybt,Yfk]at m1;omega
        simp[hlt]
      | succ i =>
        have:=h3 i (by simpa using hi);simpa using this
     ·cases h
    ·cases h
   ·cases h
def parseO (bk:List (Nat×Blk)) (x:List U):Option Lns:=
 match x with
 | [a0, a1, a2, a3, a4, a5, a6, a7, a8, ui] =>
   match rdU bk 1 ui,rdU bk 2 a6 with
   | some (ni, li), some (nw, _) => (match rowsU bk nw li with
     | some R => llforce R λR => (match parseL bk [a0, a1, a2, a3, a4, a5, a6, a7, a8] (λi j => (R.getD i []).getD j 0) with
       | some a=>if Nat.beq ni a.ns&&Nat.beq nw a.nw&&Nat.beq R.length a.ns then some a else none
       | none=>none)
     | none=>none)
   | _,_=>none
 | _=>none
theorem Zh5 {ρ:Nm} {w:World} {bk:List (Nat×Blk)} (hB:BkOk (qDen K hK) ρ w w bk) {x:List U} {a:Lns} (h:parseO bk x=some a) {cs:List Value} (hd:denL (qDen K hK) ρ w x cs) :
  ∃q:Plc,cs.toArray=a.ovals q∧OptAt w a q:=by
 unfold parseO at h;split at h
 ·rename_i a0 a1 a2 a3 a4 a5 a6 a7 a8 ui
  split at h
  ·rename_i ni li nw lw hi hw6
   split at h
   ·rename_i R hR
    rw[Zi1]at h;split at h
    ·rename_i a' ha
     split at h
     ·rename_i hc
      cases h;rw[Yam,Yam]at hc;obtain⟨⟨c1,c2⟩,c3⟩:=hc;have c1:=Ybe c1;have c2:=Ybe c2;have c3:=Ybe c3;subst c1;subst c2;obtain⟨cs1,cs2,rfl,h9,h1⟩:∃cs1 cs2,cs=cs1++cs2∧denL (qDen K hK) ρ w [a0,a1,a2,a3,a4,a5,a6,a7,a8] cs1∧denL (qDen K hK) ρ w [ui] cs2:=by
       obtain⟨b0,_,rfl,g0,b1,_,rfl,g1,b2,_,rfl,g2,b3,_,rfl,g3,b4,_,rfl,g4,b5,_,rfl,g5,b6,_,rfl,g6,b7,_,rfl,g7,b8,_,rfl,g8,b9,r9,rfl,g9,g10⟩:=hd;exact⟨b0++(b1++(b2++(b3++(b4++(b5++(b6++(b7++(b8++[])))))))),b9++r9,by simp[Ybx],⟨_,_,rfl,g0,_,_,rfl,g1,_,_,rfl,g2,_,_,rfl,g3,_,_,rfl,g4,_,_,rfl,g5,_,_,rfl,g6,_,_,rfl,g7,_,_,rfl,g8,rfl⟩,_,_,rfl,g9,g10⟩
      obtain⟨c,d,rfl,hu,hdd⟩:=h1;obtain rfl:d=[]:=hdd;obtain⟨v,rfl⟩:∃v,c=[v]:=by
       have:=hu.len;have hw:ui.w=1:=by
        unfold rdU at hi;split at hi<;>first|rfl|cases hi
       rw[hw]at this;exact Ydr.1 this
      obtain⟨p,c,ds,rfl,a1,b1,l1,m1,r1⟩:=Zfz hB hu hi;obtain⟨ps,g1,rfl,g3⟩:=Zo0 hB hR l1;obtain⟨hix,q,q1,q2,q3,q4,q5,q6⟩:=Zmk hB ha h9 p c (λi=>(ps.getD i (none,0)).1) (λi=>(ps.getD i (none,0)).2);refine⟨q,?_,?_⟩
      ·have:(cs1++([Value.slice p a.ns c]++[])).toArray=cs1.toArray.push (Value.slice p a.ns c):=by simp
       rw[this,q5];unfold Lns.lvals Lns.ovals;rw[q1,q2];rfl
      ·refine⟨q6,?_,?_⟩
       ·rw[q1,q2,q3,q4]
        refine⟨a1,Zo,λhn=>?_⟩;obtain⟨b,off,e1,e2,e3⟩:=r1 hn Zd;refine⟨b,off,e1,e2,λi j hi hj=>?_⟩;obtain rfl:j=0:=Zo;rw[Yfk,Yce];apply e3;have hlt:i<ps.length:=Zo;simp[hlt]
       ·intro i hi
        rw[q3,q4,hix];exact g3 i Zo
     ·cases h
    ·cases h
   ·cases h
  ·cases h
 ·cases h
def lCheckRun (args:List SA) (bk:List (Nat×Blk)) (orc:List (Option Bool)):Option (SV×List Prop×List (Option Bool)):=
 match args with
 | [.agg x] => match parseL bk x (λ_ _ => 0) with
   | some a=>if a.okB then some (.a okV,[],orc) else none
   | none=>none
 | _=>none
def cLCheck (w0:World) (X:Nat->Prop):Ctr (qDen K hK) Tryz.prog w0 X:=.plain 139 lCheckRun<|by
    intro args bk orc v obl orc' hr hobl ρ w vals hfr hb hargs;unfold lCheckRun at hr;split at hr
    ·rename_i x
     split at hr
     ·rename_i a ha
      split at hr
      ·rename_i hok
       cases hr;obtain⟨v1,r1,rfl,⟨cs,rfl,h1⟩,h3⟩:=hargs;obtain rfl:r1=[]:=h3;obtain⟨_,q,_,_,_,_,q5,q6⟩:=Zmk hb ha h1 none 0 (λ_=>none) (λ_=>0);rw[q5];refine(Zr8 a (Lns.okB_ok hok) q w q6).mono ?_;rintro e w' ⟨rfl,hbl⟩;exact⟨_,rfl,⟨rfl,rfl⟩,hbl⟩
      ·cases hr
     ·cases hr
    ·cases hr
def oCheckRun (args:List SA) (bk:List (Nat×Blk)) (orc:List (Option Bool)):Option (SV×List Prop×List (Option Bool)):=
 match args with
 | [.agg x] => match parseO bk x with
   | some a=>if a.optB then some (.a okV,[],orc) else none
   | none=>none
 | _=>none
def cOCheck (w0:World) (X:Nat->Prop):Ctr (qDen K hK) Tryz.prog w0 X:=.plain 86 oCheckRun<|by
    intro args bk orc v obl orc' hr hobl ρ w vals hfr hb hargs;unfold oCheckRun at hr;split at hr
    ·rename_i x
     split at hr
     ·rename_i a ha
      split at hr
      ·rename_i hok
       cases hr;obtain⟨v1,r1,rfl,⟨cs,rfl,h1⟩,h3⟩:=hargs;obtain rfl:r1=[]:=h3;obtain⟨q,q5,q6⟩:=Zh5 hb ha h1;rw[q5];refine(Zjq a (Lns.optB_ok hok) q w q6).mono ?_;rintro e w' ⟨rfl,hbl⟩;exact⟨_,rfl,⟨rfl,rfl⟩,hbl⟩
      ·cases hr
     ·cases hr
    ·cases hr
end
end Go.Proofs.W
namespace Go.Mono
def qabs (x:Rat):Rat:=if x.num<0 then -x else x
end Go.Mono
namespace Go.Proofs.W
open Go.RowKit Go.Mono
section
open Go.Ex
variable {K:Nat->Value} {hK:∀i,(K i).oneCell'=true}
section
variable (w0:World) (n d:Nat)
theorem Z1u:(evF Tryz.prog (spD (K:=K) (hK:=hK) w0) [] 12 [] 19 [.agg [.val (.bool true),.dig n,.val (.bool false),.dig d]] [] 0 0 []).map (λr=>(r.v,r.obl,r.pan))=some (.tup [.agg [.quo (digR false n d)],okV],[DigQ true n d,DigQ true n d,d≠0∧Nat.Coprime n d],none):=Zk
theorem Z1v:(evF Tryz.prog (spD (K:=K) (hK:=hK) w0) [] 12 [] 19 [.agg [.val (.bool false),.dig n,.val (.bool false),.dig d]] [] 0 0 []).map (λr=>(r.v,r.obl,r.pan))=some (.tup [.agg [.quo (digR false n d)],okV],[DigQ false n d,DigQ false n d,d≠0∧Nat.Coprime n d],none):=Zk
end
theorem Z1m {w:World} {v:Value} {q:Rat} (h:QV w v q):Calls Tryz.prog 19 #[v] w λe w'=>∃r,e=.returned (.tuple #[r,.int .i64 0])∧QV w' r (qabs q)∧Below w.heap.size w w':=by
 obtain⟨s,hs,hd,hv⟩:=Zxy (K:=λ_=>.bool false) (hK:=λ_=>rfl) h;have e:digR false q.num.natAbs q.den=qabs q:=by
  unfold qabs;cases s with
  | true =>
    rw[if_pos (of_decide_eq_true hs.symm)];exact Zvn hs
  | false =>
    have h0:=of_decide_eq_false hs.symm;rw[if_neg h0];unfold digR digI;rw[cond_false,show((q.num.natAbs:Nat):Int)=q.num by omega,Yds]
 have fin:∀{en:Ending} {w':World},(∃v ρ',en=.returned v∧denV (qDen (λ_=>.bool false) (λ_=>rfl)) ρ' w' (.tup [.agg [.quo (digR false q.num.natAbs q.den)],okV]) v∧Below w.heap.size w w')->∃r,en=.returned (.tuple #[r,.int .i64 0])∧QV w' r (qabs q)∧Below w.heap.size w w':=by
  rintro en w' ⟨v,ρ',rfl,⟨vs,rfl,v1,r1,rfl,h1,v2,r2,rfl,⟨h2,_⟩,h3⟩,hb⟩;obtain rfl:r2=[]:=h3;cases h2;rw[e]at h1;exact⟨v1,rfl,den_quo.1 h1,hb⟩
 cases s with
 | true=>exact(Zip (D:=qDen (λ_=>.bool false) (λ_=>rfl)) (d:=12) (orc:=[]) Zde (spD w) [] _ _ (Z1u w _ _) ⟨hd,hd,hd.1,trivial⟩ (vals:=[v]) ⟨v,[],rfl,hv _,rfl⟩).mono λen w' h=>fin h
 | false=>exact(Zip (D:=qDen (λ_=>.bool false) (λ_=>rfl)) (d:=12) (orc:=[]) Zde (spD w) [] _ _ (Z1v w _ _) ⟨hd,hd,hd.1,trivial⟩ (vals:=[v]) ⟨v,[],rfl,hv _,rfl⟩).mono λen w' h=>fin h
def cAbsN (w0:World) (X:Nat->Prop):Ctr (qDen K hK) Tryz.prog w0 X:=.plain 19 (λargs _ orc=>match args with
    | [.agg x]=>(asQ x).map λq=>(.tup [.agg [.quo (qabs q)],okV],[],orc)
    | _=>none)<|by
 intro args bk orc v obl orc' hr hobl ρ w vals hfr hb hargs;split at hr
 ·rename_i x
  obtain⟨q,hq,e⟩:=Yad.1 hr;cases e;obtain⟨v1,r1,rfl,h1,h3⟩:=hargs;obtain rfl:r1=[]:=h3;refine(Z1m (Zd4 hq h1)).mono ?_;rintro e w' ⟨r,rfl,hr,hbl⟩;exact⟨_,rfl,⟨[r,.int .i64 0],rfl,_,_,rfl,den_quo.2 hr,_,_,rfl,⟨rfl,rfl⟩,rfl⟩,hbl⟩
 ·cases hr
end
section
open Go.Ex
theorem Ziz {a:Lns} (ha:a.opt) {q:Plc} {ns:Nat} (hns:a.ns=ns) {w:World} (ho:OptAt w a q) (sp:List (Ctr DO Tryz.prog w (λ_=>False))) {g:FuncId} {d:Nat} {ex:List U} {ds:List Value} {rest:List SA} {orc:List (Option Bool)} {V:SV} {L:List Prop}
  (hr:(evF Tryz.prog sp [] d [] g (.agg (optU a q ns 0++ex)::rest) [(0,srfB a q ns)] 1 1 orc).map (λr=>(r.v,r.obl,r.wr,r.pan))=some (V,L,[],none)) (hL:AllP L) (hV:closedV V=true) (hex:∀ρ,denL DO ρ w ex ds) {vals:List Value} {ρ0:Nm} (hc:closedAs rest=true) (hd:denAs DO ρ0 w rest vals) :
  Calls Tryz.prog g (.agg ((a.ovals q).toList++ds).toArray::vals).toArray w λe w'=>∃v,e=.returned v∧(∀ρ,denV DO ρ w' V v)∧Below w.heap.size w w':=by
 obtain⟨b,off,hps,hv⟩:=Zhd ha hns ho;refine(Zfy (D:=DO) Zde sp [] (vs:=[⟨85,srfsU a q 0 ns,b,off,srfsC a q 0 ns⟩]) [(0,srfB a q ns)] rfl rfl _ _ _ hr hL (λv hm=>by rw[Ycd.1 hm];exact hv _ _) (vals:=.agg ((a.ovals q).toList++ds).toArray::vals) ?_).mono ?_
 ·refine⟨_,_,rfl,⟨_,rfl,((Zdz hns).2 ⟨⟨b,off,true,0,0⟩,rfl,?_⟩).append (hex _)⟩,Zc2 hc hd⟩
  obtain⟨pf,cf,pw,cw,ps,cs,pc,cc,cp,cl,pi,ci,pI,cI⟩:=q;subst hps;rfl
 ·rintro e w' ⟨v,ρ',rfl,hden,hb,_⟩
  exact⟨v,rfl,λρ=>Zec hV hden,hb⟩
structure Sees (a:Lns) (w0:World) where
 run:List U->List (Nat×Blk)->Option (List Prop)
 ok:∀{w:World} {l:List U} {bk:List (Nat×Blk)} {L:List Prop} {ρ:Nm} {cs:List Value},Frm w0 (λ_=>False) w->run l bk=some L->(∀p∈L,p)->BkOk DO ρ w w bk->denL DO ρ w l cs->∃q',cs=(a.ovals q').toList∧OptAt w a q'
def seesS {a:Lns} (ha:a.opt) (q:Plc) {ns:Nat} (hns:a.ns=ns) {w0:World} (ho:OptAt w0 a q):Sees a w0 where
 run:=seesO a q ns
 ok:=λhf h hL hb hd=>by
  obtain⟨q',h1,h2,_⟩:=Zdf hns (by have:=ha.base.ns.1;omega) (ho.below hf.below) h hL hb hd;exact⟨q',h1,h2⟩
section
variable (a:Lns) (q:Plc) (ns kb:Nat)
def obGp (k s:Int) (L:List Prop):List Prop:=obLk a q ns kb k ((decide (s>=0)=true)::inK .i64 (s+1)::(decide (s+1<(ns:Int))=true)::obS a q ns kb k ((0<=s∧s+1<(ns:Int))::L))
def obAhd (s:Int):List Prop:=((s==0)=false)::inK .i64 (s-1)::obLk a q ns kb a.pr ((decide (0<=s-1)=true)::(decide (s-1<(ns:Int))=true)::obSm a q ns kb a.pr 0 (s-1) (inK .i64 (s-1)::obGp a q ns kb a.pr (s-1) (MFits (a.gapM a.pr.toNat (s-1).toNat) (a.sysM a.pr.toNat 0 (s-1-0).toNat)::[])))
end
section
variable {a:Lns} (ha:a.opt) {ns m:Nat} (hns:a.ns=ns) (h6:2<=ns∧ns<=6) {w:World} {q:Plc} (ho:OptAt w a q) (hp:PowsAt w m)
noncomputable def runZ (f:FuncId) (args:List SA) (orc:List (Option Bool)):Option (SV×List Prop×List (Nat×Blk)×Option Value):=
 (evF Tryz.prog (spMx ha hns h6 ho hp) [] 24 [] f (.agg (optU a q ns 0++[.unk,.unk])::args) [(0,srfB a q ns)] 1 1 orc).map λr=>(r.v,r.obl,r.wr,r.pan)
def ahV (x y:Rat):SV:=.tup [.agg [.quo x],.agg [.quo y]]
noncomputable def ahRun0:Prop:=runZ ha hns h6 ho hp 48 [] [some true]=some (ahV (Rat.divInt 1 1) (Rat.divInt 0 1),((a.st==0)=true)::obOf 1 1 (obOf 0 1 []),[],none)
noncomputable def ahRun1:Prop:=runZ ha hns h6 ho hp 48 [] [some false,some false,some false,some true,some true,some false,some false,some true,some true]=some (ahV ((a.gapM a.pr.toNat (a.st-1).toNat).mul (a.sysM a.pr.toNat 0 (a.st-1-0).toNat)).a ((a.gapM a.pr.toNat (a.st-1).toNat).mul (a.sysM a.pr.toNat 0 (a.st-1-0).toNat)).b,obAhd a q ns 0 a.st,[],none)
end
section
set_option maxRecDepth 100000
variable {a:Lns} (ha:a.opt) {m:Nat} {w:World} {q:Plc} (ho:OptAt w a q) (hp:PowsAt w m)
theorem Zzq:∀{ns:Nat} (hns:a.ns=ns) (h6:2<=ns∧ns<=6),ahRun0 ha hns h6 ho hp∧ahRun1 ha hns h6 ho hp
 | 0,_,h=>absurd h.1 Zd
 | 1,_,h=>absurd h.1 Zd
 | 2,hns,h6=>⟨by unfold ahRun0;kernel_rfl,by unfold ahRun1;kernel_rfl⟩
 | 3,hns,h6=>⟨by unfold ahRun0;kernel_rfl,by unfold ahRun1;kernel_rfl⟩
 | 4,hns,h6=>⟨by unfold ahRun0;kernel_rfl,by unfold ahRun1;kernel_rfl⟩
 | 5,hns,h6=>⟨by unfold ahRun0;kernel_rfl,by unfold ahRun1;kernel_rfl⟩
 | 6,hns,h6=>⟨by unfold ahRun0;kernel_rfl,by unfold ahRun1;kernel_rfl⟩
 | n+7,_,h=>absurd h.2 Zo
end
section
variable {a:Lns} (ha:a.opt) {ns m:Nat} (hns:a.ns=ns) (h6:2<=ns∧ns<=6) {w0:World} {q:Plc} (ho:OptAt w0 a q) (hp:PowsAt w0 m)
include ha hns h6
theorem Zwd {q:Plc} {kb:Nat} (h:a.st≠0):AllP (obAhd a q ns kb a.st):=by
 obtain⟨s0,s1⟩:=ha.base.st;have hk:0<=a.pr∧a.pr<a.nw:=by have:=ha.base.pr;omega
 obtain⟨D,h1,h2⟩:=ha.sysM_ov (k:=a.pr.toNat) Zo (i:=0) (a.st-1).toNat Zo;obtain⟨G,_,g1,g2⟩:=ha.gapM_ov (s:=(a.st-1).toNat) (k:=a.pr.toNat) Zo Zo;unfold obAhd;rw[Int.sub_zero];exact⟨by simpa using h,(⟨Zo,Zo⟩:inR _),Zsz hk ⟨decide_eq_true Zo,decide_eq_true Zo,Zx3 hk ⟨Zo,Zo,Zo⟩ ⟨(⟨Zo,Zo⟩:inR _),
  Zsz hk ⟨decide_eq_true Zo,(⟨Zo,Zo⟩:inR _),decide_eq_true Zo,Zc1 hk ⟨⟨Zo,Zo⟩,Zgk 1000 g2 g1 h2 h1 Zo Zo Zd,trivial⟩⟩⟩⟩⟩
theorem Zwe {w:World} {q:Plc} (ho:OptAt w a q) (hp:PowsAt w m) {x y:Value} (hx:x.oneCell'=true) (hy:y.oneCell'=true) :
  Calls Tryz.prog 48 #[.agg ((a.ovals q).toList++[x,y]).toArray] w λe w'=>∃v,e=.returned v∧(∀ρ,denV DO ρ w' (ahV a.ahA a.ahB) v)∧Below w.heap.size w w':=by
 obtain⟨r0,r1⟩:=Zzq ha ho hp hns h6;have hex:∀ρ,denL DO ρ w [.unk,.unk] [x,y]:=λρ=>⟨[x],_,rfl,⟨x,rfl,hx⟩,[y],[],rfl,⟨y,rfl,hy⟩,rfl⟩
 by_cases hs:a.st=0
 ·have e:ahV a.ahA a.ahB=ahV (Rat.divInt 1 1) (Rat.divInt 0 1):=by unfold Lns.ahA Lns.ahB;rw[hs];rfl
  rw[e];exact Ziz ha hns ho _ r0 ⟨by simpa using hs,Zau okN (Zau okN trivial)⟩ rfl hex (vals:=[]) (ρ0:=λ_=>none) rfl rfl
 ·have e:ahV a.ahA a.ahB=ahV ((a.gapM a.pr.toNat (a.st-1).toNat).mul (a.sysM a.pr.toNat 0 (a.st-1-0).toNat)).a ((a.gapM a.pr.toNat (a.st-1).toNat).mul (a.sysM a.pr.toNat 0 (a.st-1-0).toNat)).b:=by
   obtain⟨s,h⟩:∃s,a.st.toNat=s+1:=⟨a.st.toNat-1,by have:=ha.base.st.1;omega⟩
   unfold Lns.ahA Lns.ahB;rw[h,Int.sub_zero,show(a.st-1).toNat=s by omega];rfl
  rw[e];exact Ziz ha hns ho _ r1 (Zwd ha hns h6 hs) rfl hex (vals:=[]) (ρ0:=λ_=>none) rfl rfl
omit hns h6 ha
def pvOf (l:List U):Option (List U):=
 match l with
 | [a,b,c,d,e,f,g,h,i,j,x,y]=>if Nat.beq x.w 1&&Nat.beq y.w 1 then some [a,b,c,d,e,f,g,h,i,j] else none
 | _=>none
theorem Zt4 {D:Den} {ρ:Nm} {w:World} {l m:List U} (h:pvOf l=some m) {cs:List Value} (hd:denL D ρ w l cs):∃ds x y,cs=ds++[x,y]∧denL D ρ w m ds∧x.oneCell'=true∧y.oneCell'=true:=by
 unfold pvOf at h;split at h
 ·split at h
  ·rename_i hw
   cases h;have hw:=Bool.and_eq_true_iff.1 hw;obtain⟨c0,d0,rfl,h0,c1,d1,rfl,h1,c2,d2,rfl,h2,c3,d3,rfl,h3,c4,d4,rfl,h4,c5,d5,rfl,h5,c6,d6,rfl,h6,c7,d7,rfl,h7,c8,d8,rfl,h8,c9,d9,rfl,h9,c10,d10,rfl,h10,c11,d11,rfl,h11,hd⟩:=hd;obtain rfl:d11=[]:=hd;have one:∀{c:List Value} {u:U},denU D ρ w u c->Nat.beq u.w 1=true->∃v,c=[v]∧v.oneCell'=true:=by
    intro c u hu hw;have hl:=hu.len;rw[Ybe hw]at hl;match c,hl with
    | [v],_=>exact⟨v,rfl,hu.ones v (Ycd.2 rfl)⟩
   obtain⟨x,rfl,hx⟩:=one h10 hw.1;obtain⟨y,rfl,hy⟩:=one h11 hw.2;exact⟨c0++(c1++(c2++(c3++(c4++(c5++(c6++(c7++(c8++(c9++[]))))))))),x,y,Zs,⟨c0,_,rfl,h0,c1,_,rfl,h1,c2,_,rfl,h2,c3,_,rfl,h3,c4,_,rfl,h4,c5,_,rfl,h5,c6,_,rfl,h6,c7,_,rfl,h7,c8,_,rfl,h8,c9,_,rfl,h9,rfl⟩,hx,hy⟩
  ·cases h
 ·cases h
def cAhead (S:Sees a w0) (h6:2<=ns∧ns<=6) (ha:a.opt) (hns:a.ns=ns):Ctr DO Tryz.prog w0 (λ_=>False):=.plain 48 (λargs bk orc=>match args with
    | [.agg l] => match pvOf l with
      | some m=>(S.run m bk).map λL=>(ahV a.ahA a.ahB,L,orc)
      | none=>none
    | _=>none)<|by
 intro args bk orc v obl orc' hr hobl ρ w vals hfr hb hargs;split at hr
 ·rename_i l
  split at hr
  ·rename_i m' hm
   obtain⟨L,hL,e⟩:=Yad.1 hr;cases e;obtain⟨v1,r1,rfl,⟨cs1,rfl,d1⟩,h3⟩:=hargs;obtain rfl:r1=[]:=h3;obtain⟨ds,x,y,rfl,d2,hx,hy⟩:=Zt4 hm d1;obtain⟨q',rfl,ho'⟩:=S.ok hfr hL hobl hb d2;refine(Zwe ha hns h6 ho' (hp.below hfr.below) hx hy).mono ?_;rintro e w' ⟨v,rfl,hv,hbl⟩;exact⟨v,rfl,hv ρ,hbl⟩
  ·cases hr
 ·cases hr
end
end
end Go.Proofs.W
