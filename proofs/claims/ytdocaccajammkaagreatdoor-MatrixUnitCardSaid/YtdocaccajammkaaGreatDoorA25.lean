/- Contracts of package matrix,and a verified evaluator. Part 25 of 28. No condition beside the row. -/
import Derived.Test.YtdocaccajammkaaGreatDoorRows
import Derived.ProofKit
import Derived.LaidMore
import Derived.OpenShut
import Derived.Maps.Keyed
import Derived.LaidOnce
import Derived.Stop.Joined
import Derived.Test.YtdocaccajammkaaGreatDoorA11
import Derived.Test.YtdocaccajammkaaGreatDoorA16
import Derived.Test.YtdocaccajammkaaGreatDoorA17
import Derived.Test.YtdocaccajammkaaGreatDoorA22
import Derived.Test.YtdocaccajammkaaGreatDoorA24
set_option linter.unusedVariables false
set_option linter.unusedSimpArgs false
set_option maxRecDepth 100000
set_option maxHeartbeats 4000000
namespace Go.Ex
open Go.RowKit Go.Mono
def srfU (s:Srf) (p:Option Addr) (c:Nat) (l:List U):List U:=
 .sym s.kind::.sym s.curv::.sym s.conic::.sym s.curvx::.sym s.conicx::.sym s.a0::.sym s.a1::.sym s.a2::.sym s.a3::.sym s.p0::.sym s.p1::.sym s.order::.sym s.thick::.val (.string s.glass)::.sym s.semi::.sym s.hole::.sym s.dx::.sym s.dy::.sym s.ax::.sym s.ay::.sym s.az::.val (.slice p s.co.length c)::l
def srfsU (a:Lns) (q:Plc):Nat->Nat->List U
 | _,0=>[]
 | s,n+1=>srfU (a.S s) (q.cp s) (q.cl s) (srfsU a q (s+1) n)
theorem Zup {D:Den} {ρ:Nm} {w:World} {s:Srf} {p:Option Addr} {c:Nat} {l:List U}:∀{cs:List Value},denL D ρ w (srfU s p c l) cs↔∃ds,cs=(s.cs p c).toList++ds∧denL D ρ w l ds:=by
 intro cs;constructor
 ·rintro⟨_,d0,rfl,h0,_,d1,rfl,h1,_,d2,rfl,h2,_,d3,rfl,h3,_,d4,rfl,h4,_,d5,rfl,h5,_,d6,rfl,h6,_,d7,rfl,h7,_,d8,rfl,h8,_,d9,rfl,h9,_,d10,rfl,h10,_,d11,rfl,h11,_,d12,rfl,h12,_,d13,rfl,⟨h13,_⟩,_,d14,rfl,h14,_,d15,rfl,h15,_,d16,rfl,h16,_,d17,rfl,h17,_,d18,rfl,h18,_,d19,rfl,h19,_,d20,rfl,h20,_,d21,rfl,⟨h21,_⟩,h⟩
  refine⟨d21,?_,h⟩;cases h0;cases h1;cases h2;cases h3;cases h4;cases h5;cases h6;cases h7;cases h8;cases h9;cases h10;cases h11;cases h12;cases h13;cases h14;cases h15;cases h16;cases h17;cases h18;cases h19;cases h20;cases h21;rfl
 ·rintro⟨ds,rfl,h⟩
  exact⟨[_],_,rfl,rfl,[_],_,rfl,rfl,[_],_,rfl,rfl,[_],_,rfl,rfl,[_],_,rfl,rfl,[_],_,rfl,rfl,[_],_,rfl,rfl,[_],_,rfl,rfl,[_],_,rfl,rfl,[_],_,rfl,rfl,[_],_,rfl,rfl,[_],_,rfl,rfl,[_],_,rfl,rfl,[_],_,rfl,⟨rfl,rfl⟩,[_],_,rfl,rfl,[_],_,rfl,rfl,[_],_,rfl,rfl,[_],_,rfl,rfl,[_],_,rfl,rfl,[_],_,rfl,rfl,[_],_,rfl,rfl,[_],_,rfl,⟨rfl,rfl⟩,h⟩
def srfsC (a:Lns) (q:Plc) (s n:Nat):List Value:=(List.range' s n).flatMap λi=>((a.S i).cs (q.cp i) (q.cl i)).toList
theorem Ze1 {D:Den} {ρ:Nm} {w:World} {a:Lns} {q:Plc}:∀(n s:Nat) {cs:List Value},denL D ρ w (srfsU a q s n) cs↔cs=srfsC a q s n
 | 0,s,cs=>Iff.rfl
 | n + 1, s, cs => by
   unfold srfsU;rw[Zup,srfsC,List.range'_succ,List.flatMap_cons];constructor
   ·rintro⟨ds,rfl,h⟩
    rw[(Ze1 n (s+1)).1 h];rfl
   ·rintro rfl
    exact⟨_,rfl,(Ze1 n (s+1)).2 rfl⟩
theorem Zg6 (a:Lns) (q:Plc):∀(n s i j:Nat),i<n->j<22->(srfsC a q s n)[i*22+j]? = some (((a.S (s+i)).cs (q.cp (s+i)) (q.cl (s+i))).getD j undef)
 | 0,_,_,_,h,_=>absurd h Zo
 | n + 1, s, i, j, hi, hj => by
   have e:srfsC a q s (n+1)=((a.S s).cs (q.cp s) (q.cl s)).toList++srfsC a q (s+1) n:=by unfold srfsC;rw[List.range'_succ,List.flatMap_cons]
   have h22:((a.S s).cs (q.cp s) (q.cl s)).toList.length=22:=rfl;rw[e];match i with
   | 0 =>
     rw[Yez,Yba,Ybb Zo,Yce,Yaq,Yax,Yby (show j<((a.S s).cs (q.cp s) (q.cl s)).size from hj)];rfl
   | i + 1 =>
     rw[Ybc Zo,h22,show(i+1)*22+j-22=i*22+j by omega,Zg6 a q n (s+1) i j Zo hj,show s+1+i=s+(i+1) by omega]
theorem Zmo {w:World} {b o:Nat} {v:Value} (h:w.cell? ⟨b,o,none⟩=some v):b<w.heap.size:=
 Nat.lt_of_not_le λhle=>by
  have:=Yfj hle;simp[World.cell?,this]at h
def optU (a:Lns) (q:Plc) (ns k:Nat):List U:=[.val (.string a.nm),.sym a.di,.sym a.pu,.sym a.st,.sym a.pr,.raw 1 [.slice q.pf a.nf q.cf],.raw 1 [.slice q.pw a.nw q.cw],.slc k 0 ns q.cs,.val (.slice q.pc 0 q.cc),.val (.slice q.pi a.ns q.ci)]
theorem Ze2 {D:Den} {ρ:Nm} {w:World} {a:Lns} {q:Plc} {ns k:Nat} (hns:a.ns=ns) {cs:List Value}:denL D ρ w (optU a q ns k) cs↔∃B,ρ k=some B∧cs=(a.ovals {q with ps:=some ⟨B.blk,B.base,none⟩}).toList:=by
 subst hns;constructor
 ·rintro⟨_,d0,rfl,⟨h0,_⟩,_,d1,rfl,h1,_,d2,rfl,h2,_,d3,rfl,h3,_,d4,rfl,h4,_,d5,rfl,⟨h5,_⟩,_,d6,rfl,⟨h6,_⟩,_,d7,rfl,⟨B,hB,h7⟩,_,d8,rfl,⟨h8,_⟩,_,d9,rfl,⟨h9,_⟩,h⟩
  refine⟨B,hB,?_⟩;cases h0;cases h1;cases h2;cases h3;cases h4;cases h5;cases h6;cases h7;cases h8;cases h9;obtain rfl:d9=[]:=h;rfl
 ·rintro⟨B,hB,rfl⟩
  exact⟨[_],_,rfl,⟨rfl,rfl⟩,[_],_,rfl,rfl,[_],_,rfl,rfl,[_],_,rfl,rfl,[_],_,rfl,rfl,[_],_,rfl,⟨rfl,rfl,by simp[Value.oneCell']⟩,[_],_,rfl,⟨rfl,rfl,by simp[Value.oneCell']⟩,[_],_,rfl,⟨B,hB,rfl⟩,[_],_,rfl,⟨rfl,rfl⟩,[_],_,rfl,⟨rfl,rfl⟩,rfl⟩
end Go.Ex
namespace Go.Proofs.W
open Go.RowKit Go.Mono
section
open Go.Ex
theorem Zr1 {a:Lns} (ha:a.opt) (q:Plc):Chk a q:=λW h=>Zji a ha q W h
def srfB (a:Lns) (q:Plc) (ns:Nat):Blk:=⟨160,srfsU a q 0 ns,true,false,false⟩
def seesO (a:Lns) (q:Plc) (ns:Nat) (l:List U) (bk:List (Nat×Blk)):Option (List Prop):=
 match l with
 | [_,_,_,_,_,_,_,.slc k _ _ _,_,_]=>(bk.look k).map λb=>[l=optU a q ns k,b=srfB a q ns]
 | _=>none
theorem Zd5 {D:Den} {w:World} {a:Lns} {q:Plc} {ns:Nat} (hns:a.ns=ns) (h0:2<=ns) (ho:OptAt w a q) {l:List U} {bk:List (Nat×Blk)} {L:List Prop} (h:seesO a q ns l bk=some L) (hL:∀p∈L,p) {ρ:Nm} (hb:BkOk D ρ w w bk) {cs:List Value} (hd:denL D ρ w l cs) :
  ∃q',cs=(a.ovals q').toList∧OptAt w a q'∧q'.cp=q.cp∧q'.cl=q.cl:=by
 unfold seesO at h;split at h
 ·rename_i k _ _ _ _ _
  obtain⟨b,hk,e⟩:=Yad.1 h;subst e;have e1:=hL _ (Ycl ..);have e2:b=srfB a q ns:=hL _ Zs;subst e2;rw[e1]at hd;obtain⟨B,hB,rfl⟩:=(Ze2 hns).1 hd;obtain⟨B',cs',hB',hH,hC,_⟩:=hb _ _ hk rfl;rw[hB]at hB';cases hB';obtain rfl:=(Ze1 ns 0).1 hC;refine⟨_,rfl,⟨⟨ho.fields,ho.waves,?_,ho.coat⟩,ho.index,ho.row⟩,rfl,rfl⟩;obtain⟨h1,h2,_⟩:=ho.surfs;have hc:=λi j (hi:i<a.ns) (hj:j<22)=>hH.cell (Zg6 a q ns 0 i j Zo hj);refine⟨h1,h2,λ_=>⟨B.blk,B.base,rfl,Zmo (hc 0 0 Zo Zd),λi j hi hj=>?_⟩⟩;have:=hc i j hi hj;rw[Yba]at this;rw[Ybj];exact this
 ·cases h
def viewOf (l:List U):Option (List U×Int):=
 match l with
 | [a, b, c, d, e, f, g, h, i, j, x] => match Ex.intOf (some (.a (.one x))) with
   | some (.i64,k,_)=>some ([a,b,c,d,e,f,g,h,i,j],k)
   | _=>none
 | _=>none
theorem Zr2 {D:Den} {ρ:Nm} {w:World} {l m:List U} {k:Int} (h:viewOf l=some (m,k)) {cs:List Value} (hd:denL D ρ w l cs):∃ds,cs=ds++[.int .i64 k]∧denL D ρ w m ds:=by
 unfold viewOf at h;split at h
 ·split at h
  ·rename_i hx
   cases h;obtain⟨c0,d0,rfl,h0,c1,d1,rfl,h1,c2,d2,rfl,h2,c3,d3,rfl,h3,c4,d4,rfl,h4,c5,d5,rfl,h5,c6,d6,rfl,h6,c7,d7,rfl,h7,c8,d8,rfl,h8,c9,d9,rfl,h9,c10,d10,rfl,h10,hd⟩:=hd;obtain rfl:d10=[]:=hd;obtain⟨v,rfl⟩:∃v,c10=[v]:=by
    unfold Ex.intOf at hx;split at hx
    ·rename_i e;cases e;exact⟨_,h10.1⟩
    ·rename_i e;cases e;exact⟨_,h10⟩
    ·rename_i e;cases e;exact⟨_,h10⟩
    ·cases hx
   obtain rfl:=Zbj (D:=D) (ρ:=ρ) (w:=w) hx h10;exact⟨c0++(c1++(c2++(c3++(c4++(c5++(c6++(c7++(c8++(c9++[]))))))))),Zs,c0,_,rfl,h0,c1,_,rfl,h1,c2,_,rfl,h2,c3,_,rfl,h3,c4,_,rfl,h4,c5,_,rfl,h5,c6,_,rfl,h6,c7,_,rfl,h7,c8,_,rfl,h8,c9,_,rfl,h9,rfl⟩
  ·cases h
 ·cases h
variable {K:Nat->Value} {hK:∀i,(K i).oneCell'=true}
def ofRunT (args:List SA) (bk:List (Nat×Blk)) (orc:List (Option Bool)):Option (SV×List Prop×List (Option Bool)):=
 match args with
 | [x, y] => match Ex.intOf (some (.a x)), Ex.intOf (some (.a y)) with
   | some (.i64,n,_),some (.i64,d,_)=>some (.tup [.agg [.quo (Rat.divInt n d)],okV],[inR n,inR d,d≠0],orc)
   | _,_=>none
 | _=>none
def cOfT (w0:World) (X:Nat->Prop):Ctr (qDen K hK) Tryz.prog w0 X:=.plain 95 ofRunT<|by
    intro args bk orc v obl orc' hr hobl ρ w vals hfr hb hargs;unfold ofRunT at hr;split at hr
    ·rename_i x y
     split at hr
     ·rename_i n s d s' hx hy
      cases hr;obtain⟨v1,r1,rfl,h1,v2,r2,rfl,h2,h3⟩:=hargs;obtain rfl:r2=[]:=h3;obtain rfl:=Zbj (D:=qDen K hK) (ρ:=ρ) (w:=w) hx h1;obtain rfl:=Zbj (D:=qDen K hK) (ρ:=ρ) (w:=w) hy h2;obtain⟨a1,a2⟩:=hobl (inR n) Zs;obtain⟨b1,b2⟩:=hobl (inR d) Zs;refine(Zrf n d (hobl (d≠0) Zs) w a1 a2 b1 b2).mono ?_;rintro e w' ⟨r,rfl,hr,hbl⟩;exact⟨_,rfl,⟨[r,.int .i64 0],rfl,_,_,rfl,den_quo.2 hr,_,_,rfl,⟨rfl,rfl⟩,rfl⟩,hbl⟩
     ·cases hr
    ·cases hr
def surfRun (a:Lns) (q:Plc) (ns:Nat) (f:Nat->Nat->Rat) (ob:Nat->Nat->List Prop) (args:List SA) (bk:List (Nat×Blk)) (orc:List (Option Bool)):Option (SV×List Prop×List (Option Bool)):=
 match args with
 | [.agg l, x] => match viewOf l, Ex.intOf (some (.a x)) with
   | some (m,k),some (.i64,s,_)=>(seesO a q ns m bk).map λL=>(.a (.agg [.quo (f k.toNat s.toNat)]),L++(0<=k∧k<a.nw)::(0<=s∧s<(ns:Int))::ob k.toNat s.toNat,orc)
   | _,_=>none
 | _=>none
def surfCtr {a:Lns} (ha:a.opt) {q:Plc} {ns:Nat} (hns:a.ns=ns) {w0:World} (ho:OptAt w0 a q) (g:FuncId) (f:Nat->Nat->Rat) (ob:Nat->Nat->List Prop)
    (hg:∀q' k s w,OptAt w a q'->Below w0.heap.size w0 w->k<a.nw->s<a.ns->(∀p∈ob k s,p)->Calls Tryz.prog g #[.agg (a.vvals q' (k:Int)),.int .i64 (s:Int)] w λe w'=>∃C,e=.returned (.agg C)∧QV w' (.agg C) (f k s)∧Below w.heap.size w w'):Ctr (qDen K hK) Tryz.prog w0 (λ_=>False):=.plain g (surfRun a q ns f ob)<|by
 intro args bk orc v obl orc' hr hobl ρ w vals hfr hb hargs;unfold surfRun at hr;split at hr
 ·rename_i l x
  split at hr
  ·rename_i m k s b hm hx
   obtain⟨L,hL,e⟩:=Yad.1 hr;cases e;obtain⟨v1,r1,rfl,⟨cs,rfl,d1⟩,v2,r2,rfl,d2,h3⟩:=hargs;obtain rfl:r2=[]:=h3;obtain rfl:=Zbj (D:=qDen K hK) (ρ:=ρ) (w:=w) hx d2;obtain⟨ds,rfl,d3⟩:=Zr2 hm d1;have hn2:=ha.base.ns.1;obtain⟨q',rfl,ho',_⟩:=Zd5 hns Zo (ho.below hfr.below) hL (λp hp=>hobl p (Ycy _ hp)) hb d3;obtain⟨k0,k1⟩:=hobl (0<=k∧k<a.nw) Zs;obtain⟨s0,s1⟩:=hobl (0<=s∧s<(ns:Int)) Zs;obtain⟨sn,rfl⟩:∃sn:Nat,s=sn:=⟨s.toNat,Zo⟩
   obtain⟨kn,rfl⟩:∃kn:Nat,k=kn:=⟨k.toNat,Zo⟩
   simp only[Ycb]at hobl;refine(hg q' kn sn w ho' hfr.below Zo Zo (λp hp=>hobl p (by simp[hp]))).mono ?_;rintro e w' ⟨C,rfl,hC,hbl⟩;refine⟨_,rfl,?_,hbl⟩;rw[Ycb,Ycb];exact den_quo.2 hC
  ·cases hr
 ·cases hr
def obPow (a:Lns) (k s:Nat):List Prop:=[PowFits a k s]
def cIdxN {a:Lns} (ha:a.opt) {q:Plc} {ns:Nat} (hns:a.ns=ns) {w0:World} (ho:OptAt w0 a q):Ctr (qDen K hK) Tryz.prog w0 (λ_=>False):=
 surfCtr ha hns ho 62 a.nI (λ_ _=>[]) λq' k s w h _ k1 s1 _=>Zgg a ha q' (Zr1 ha q') s k w h s1 k1
def cPowN {a:Lns} (ha:a.opt) {q:Plc} {ns m:Nat} (hns:a.ns=ns) {w0:World} (ho:OptAt w0 a q) (hp:PowsAt w0 m):Ctr (qDen K hK) Tryz.prog w0 (λ_=>False):=
 surfCtr ha hns ho 93 a.pow (obPow a) λq' k s w h hB k1 s1 hob=>Zob a ha q' (Zr1 ha q') s k w h s1 k1 (hob _ (Ycl ..)) m (hp.below hB)
def lookRun (a:Lns) (q:Plc) (ns:Nat) (args:List SA) (bk:List (Nat×Blk)) (orc:List (Option Bool)):Option (SV×List Prop×List (Option Bool)):=
 match args with
 | [.agg l, x] => match Ex.intOf (some (.a x)), l with
   | some (.i64,k,_),[a0,a1,a2,a3,a4,a5,a6,a7,a8,a9]=>(seesO a q ns l bk).map λL=>(.a (.agg [a0,a1,a2,a3,a4,a5,a6,a7,a8,a9,.sym k]),L++[0<=k∧k<a.nw],orc)
   | _,_=>none
 | _=>none
def cLookN {a:Lns} (ha:a.opt) {q:Plc} {ns:Nat} (hns:a.ns=ns) {w0:World} (ho:OptAt w0 a q):Ctr (qDen K hK) Tryz.prog w0 (λ_=>False):=.plain 60 (lookRun a q ns)<|by
 intro args bk orc v obl orc' hr hobl ρ w vals hfr hb hargs;unfold lookRun at hr;split at hr
 ·rename_i l x
  split at hr
  ·rename_i k b a0 a1 a2 a3 a4 a5 a6 a7 a8 a9 hx
   obtain⟨L,hL,e⟩:=Yad.1 hr;cases e;obtain⟨v1,r1,rfl,⟨cs,rfl,d1⟩,v2,r2,rfl,d2,h3⟩:=hargs;obtain rfl:r2=[]:=h3;obtain rfl:=Zbj (D:=qDen K hK) (ρ:=ρ) (w:=w) hx d2;have hn2:=ha.base.ns.1;obtain⟨q',rfl,ho',_⟩:=Zd5 hns Zo (ho.below hfr.below) hL (λp hp=>hobl p (Ycy _ hp)) hb d1;obtain⟨k0,k1⟩:=hobl (0<=k∧k<a.nw) Zs;obtain⟨kn,rfl⟩:∃kn:Nat,k=kn:=⟨k.toNat,Zo⟩
   refine(Zwt a q' (Zr1 ha q') kn w ho' Zo).mono ?_;rintro e w' ⟨rfl,hbl⟩;refine⟨_,rfl,⟨(a.ovals q').toList++[.int .i64 (kn:Int)],rfl,?_⟩,hbl⟩;have hE:Ext w w':=.of_below hbl;obtain⟨c0,d0,e0,h0,c1,d1,rfl,h1,c2,d2,rfl,h2,c3,d3,rfl,h3,c4,d4,rfl,h4,c5,d5,rfl,h5,c6,d6,rfl,h6,c7,d7,rfl,h7,c8,d8,rfl,h8,c9,d9,rfl,h9,hd⟩:=(denL.mono (Nm.le.refl ρ) hE d1)
   obtain rfl:d9=[]:=hd;rw[e0];simp only[Ybx,Ydp];exact⟨c0,_,rfl,h0,c1,_,rfl,h1,c2,_,rfl,h2,c3,_,rfl,h3,c4,_,rfl,h4,c5,_,rfl,h5,c6,_,rfl,h6,c7,_,rfl,h7,c8,_,rfl,h8,c9,_,rfl,h9,[_],[],rfl,rfl,rfl⟩
  ·cases hr
 ·cases hr
end
end Go.Proofs.W
namespace Go.Mono
def Lns.tr (a:Lns) (k:Nat) (y u:Rat):Nat->Rat×Rat
 | 0=>(y,u)
 | s + 1 =>
   let r:=a.tr k y u s
   let y2:=if s=0 then r.1 else r.1+(Rat.divInt (1*(a.S (s-1)).thick) 1000000*r.2)/a.nI k (s-1)
   (y2,r.2-Rat.divInt 1 1*(y2*a.pow k s))
def Lns.stp (a:Lns) (k s:Nat) (r:Rat×Rat):Rat×Rat:=
 let y2:=if s=0 then r.1 else r.1+(Rat.divInt (1*(a.S (s-1)).thick) 1000000*r.2)/a.nI k (s-1)
 (y2,r.2-Rat.divInt 1 1*(y2*a.pow k s))
def Lns.unstp (a:Lns) (k s:Nat) (r:Rat×Rat):Rat×Rat:=
 let u2:=r.2-Rat.divInt (-1) 1*(r.1*a.pow k s)
 (if s=0 then r.1 else r.1+(Rat.divInt (-1*(a.S (s-1)).thick) 1000000*u2)/a.nI k (s-1),u2)
def Lns.bkn (a:Lns) (ns k:Nat) (y u:Rat):Nat->Rat×Rat
 | 0=>(y,u)
 | i+1=>a.unstp k (ns-1-i) (a.bkn ns k y u i)
abbrev Lns.bk (a:Lns) (k:Nat) (y u:Rat) (i:Nat):Rat×Rat:=a.bkn a.ns k y u i
theorem Lns.tr_stp (a:Lns) (k:Nat) (y u:Rat) (s:Nat):a.tr k y u (s+1)=a.stp k s (a.tr k y u s):=rfl
end Go.Mono
namespace Go.Proofs.W
open Go.RowKit Go.Mono
structure TrFits (a:Lns) (k:Nat) (y u:Rat):Prop where
 pow:∀s,s<a.ns->PowFits a k s
 num:∀s,s<a.ns->(a.nI k s).num≠0
 m1:∀s,s+1<a.ns->Fits (Rat.divInt (1*(a.S s).thick) 1000000*(a.tr k y u (s+1)).2)
 m2:∀s,s+1<a.ns->Fits ((Rat.divInt (1*(a.S s).thick) 1000000*(a.tr k y u (s+1)).2)/a.nI k s)
 m3:∀s,s+1<a.ns->Fits ((a.tr k y u (s+1)).1+((Rat.divInt (1*(a.S s).thick) 1000000*(a.tr k y u (s+1)).2)/a.nI k s))
 b1:∀s,s<a.ns->Fits ((a.tr k y u (s+1)).1*a.pow k s)
 b2:∀s,s<a.ns->Fits (Rat.divInt 1 1*((a.tr k y u (s+1)).1*a.pow k s))
 b3:∀s,s<a.ns->Fits ((a.tr k y u (s+1)).2)
section
open Go.Ex
def pK (m:Nat):Nat->Value
 | 0=>.map (some m)
 | _=>.bool false
theorem pK1 (m:Nat):∀i,(pK m i).oneCell'=true
 | 0=>rfl
 | _+1=>rfl
def powRun (o:Oper) (get:Operand->Option SV):Option SV:=
 match o.op with
 | .load t x => if Nat.beq t 226 then match get x with
   | some (.a (.one (.val (.pointer (some ⟨0,0,none⟩)))))=>some (.a (.one (.tok 0)))
   | _=>none
   else none
 | .lookup t x k false => if Nat.beq t 226 then match get x, get k with
   | some (.a (.one (.tok 0))),some (.a (.one (.val (.int .i64 (.ofNat 1)))))=>some (.a (.one (.clo 344 [])))
   | some (.a (.one (.tok 0))),some (.a (.one (.val (.int .i64 (.ofNat 2)))))=>some (.a (.one (.clo 344 [])))
   | some (.a (.one (.tok 0))),some (.a (.one (.val (.int .i64 (.ofNat 3)))))=>some (.a (.one (.clo 345 [])))
   | some (.a (.one (.tok 0))),some (.a (.one (.val (.int .i64 (.ofNat 4)))))=>some (.a (.one (.clo 346 [])))
   | _,_=>none
   else none
 | _=>none
def powF {K:Nat->Value} {hK:∀i,(K i).oneCell'=true} {w0:World} {m:Nat} (h:PowsAt w0 m) (h0:K 0=.map (some m):=by rfl):Fct (qDen K hK) Tryz.prog w0 (λ_=>False) where
 run:=powRun
 sound:=by
  intro o get x hr ρ wc w ev hfr hg;unfold powRun at hr;split at hr
  ·rename_i t x' ho
   split at hr
   ·rename_i ht
    obtain rfl:=Ybe ht;split at hr
    ·rename_i hx
     cases hr;have e1:ev x'=.pointer (some ⟨0,0,none⟩):=by simpa using(hg _ _ hx).1
     have hc:w.cell? ⟨0,0,none⟩=some (.map (some m)):=(Zes (hfr.block 0 h.pos id) 0).trans h.cell;refine⟨.map (some m),?_,(show[Value.map (some m)]=[K 0] by rw[h0])⟩;unfold execOp;rw[ho];simp only[e1,Instr.loadAt,loadVar,Yar,Instr.sureAddr,Yau,Yag,Zf9 (P:=Tryz.prog) (t:=226) (b:=false) Zk,Ybq,if_false];rw[run_load,hc];rfl
    ·cases hr
   ·cases hr
  ·rename_i t y k ho
   split at hr
   ·rename_i ht
    obtain rfl:=Ybe ht;have hb:w.heap[m]? = w0.heap[m]?:=hfr.block m h.lt id;obtain⟨l1,l2,l3,l4⟩:=h.look w hb
    have go:∀{z:Int} {g:Nat},get y=some (.a (.one (.tok 0)))->get k=some (.a (.one (.val (.int .i64 z))))->(Instr.lookup 226 (.map (some m)) (.int .i64 z) false).run Tryz.prog w=.ok (.func (.func g) #[] #[]) w->
      ∃v,(execOp ev o).run Tryz.prog w=.ok (.value v) w∧denV (qDen K hK) ρ wc (.a (.one (.clo g []))) v:=by
     intro z g hy hk hl;have e1:ev y=.map (some m):=by
      have:[ev y]=[K 0]:=hg _ _ hy;rw[h0]at this;simpa using this
     have e2:ev k=.int .i64 z:=by simpa using(hg _ _ hk).1
     refine⟨_,?_,[],rfl,rfl⟩;unfold execOp;simp only[ho,e1,e2,Yar,hl,Yag,Yau]
    split at hr
    ·rename_i hy hk;cases hr;exact go hy hk l1
    ·rename_i hy hk;cases hr;exact go hy hk l2
    ·rename_i hy hk;cases hr;exact go hy hk l3
    ·rename_i hy hk;cases hr;exact go hy hk l4
    ·cases hr
   ·cases hr
  ·cases hr
end
end Go.Proofs.W
namespace Go.Proofs.YtdocaccajammkaaGreatDoor
open Go.RowKit Go.Mono
section
open Go Go.ChangeShapes Go.WideShapes Go.ChangeAt Go.WideMaps Go.WideElems Go.Proofs.W
theorem Zu1 {w:World} {base:Nat} {sp:Nat->Bool} {n:Nat} {t:TypeId} {ps rs:Array TypeId} {va:Bool} {v:Value} {b:UInt8} {r:List UInt8} {q:List MemPlace} {f0:FuncId}
  (ht:Tryz.prog.underlying t=some (.func ps rs va)) (hone:((List.range Tryz.prog.funcs.size).filter λf=>(Tryz.prog.funcs[f]?).any (·.name.toUTF8.data.toList==b::r))=[f0])
  (h:elemAt (funcToken Tryz.prog) Tryz.prog w base sp true n t v=some (.held (b::r),q)):v=.func (.func f0) #[] #[]:=by
 unfold elemAt at h;split at h
 ·rename_i hf
  cases v<;>simp[Value.formed,ht]at hf
  all_goals exact func_of_trod ht hone (by simpa[Value.cells]using h)
 ·cases h
theorem Zdy {W:World} (h:laidMetH Tryz.prog [("monocle/surface.places",Rows.laid_monocle_surface_places),("monocle/paraxial.powers",Rows.laid_monocle_paraxial_powers)] W):∃m,PowsAt W m:=by
 obtain⟨g,t,cs,fuel,p,hg,ht,hv,hd⟩:=h.funcs (n:= "monocle/paraxial.powers") (Ybs _ (Ycl ..));obtain rfl:=Yej ((show Tryz.prog.globalNamed "monocle/paraxial.powers" = some 0 by kernel_rfl).symm.trans hg);obtain rfl:=Yej ((show(Tryz.prog.globals[0]?).map (·.type)=some 226 by kernel_rfl).symm.trans ht);have hcell:=World.var?_cell hg hv 0;have hd':DataW.trod (funcToken Tryz.prog) Tryz.prog W 0 (λ_=>true) true fuel 226 cs.toList=some (.map [(.int .i64 1,.held [40,109,111,110,111,99,108,101,47,112,97,114,97,120,105,97,108,46,118,105,101,119,41,46,99,117,114,118,101,100]),(.int .i64 2,.held [40,109,111,110,111,99,108,101,47,112,97,114,97,120,105,97,108,46,118,105,101,119,41,46,99,117,114,118,101,100]),(.int .i64 3,.held [40,109,111,110,111,99,108,101,47,112,97,114,97,120,105,97,108,46,118,105,101,119,41,46,102,108,97,116]),(.int .i64 4,.held [40,109,111,110,111,99,108,101,47,112,97,114,97,120,105,97,108,46,118,105,101,119,41,46,105,100,101,97,108])],p):=hd;rcases WideElems.open_map Tryz.underlying226 hd' with ⟨_,hx⟩|⟨m,es,clock,n,rfl,hcs,hb,_,F,hx⟩
 ·exact absurd (congrArg Prod.fst hx) (by intro e;cases e)
 have hc0:W.cell? ⟨0,0,none⟩=some (.map (some m)):=by
  rw[Array.eq_one_of_toList hcs]at hcell;simpa using hcell
 have hlt:m<W.heap.size:=Zaq hb;have hpos:0<W.heap.size:=block_lt_of_cell hc0;have hxx:=congrArg Prod.fst hx;dsimp only at hxx;refine⟨m,hlt,hpos,hc0,λw' hw'=>?_⟩;have hb':=hw'.trans hb;have zero:∀w,(zeroValue 225).run Tryz.prog w=.ok .nilFunc w:=λ_=>Zk
 have look:∀(kd:Int) (b:UInt8) (r:List UInt8) (f0:FuncId),(Lit.int .i64 kd).wf=true->((List.range Tryz.prog.funcs.size).filter λf=>(Tryz.prog.funcs[f]?).any (·.name.toUTF8.data.toList==b::r))=[f0]->
   (DataW.map [(Lit.int .i64 1,DataW.held [40,109,111,110,111,99,108,101,47,112,97,114,97,120,105,97,108,46,118,105,101,119,41,46,99,117,114,118,101,100]),(.int .i64 2,.held [40,109,111,110,111,99,108,101,47,112,97,114,97,120,105,97,108,46,118,105,101,119,41,46,99,117,114,118,101,100]),(.int .i64 3,.held [40,109,111,110,111,99,108,101,47,112,97,114,97,120,105,97,108,46,118,105,101,119,41,46,102,108,97,116]),(.int .i64 4,.held [40,109,111,110,111,99,108,101,47,112,97,114,97,120,105,97,108,46,118,105,101,119,41,46,105,100,101,97,108])]:DataW (List UInt8)).atKey (.int .i64 kd) .nil=.held (b::r)->
   (Instr.lookup 226 (.map (some m)) (.int .i64 kd) false).run Tryz.prog w'=.ok (.func (.func f0) #[] #[]) w':=by
  intro kd b r f0 hw hone hat;have hk:keyOf Tryz.prog 3 (.int .i64 kd)=some (.int .i64 kd):=by simp[keyOf_int Tryz.underlying3,mapKey,Tryz.underlying3,hw]
  rcases Go.Maps.fit_look false (Go.Maps.int_keyed Tryz.underlying3) Tryz.underlying226 (zero w') hb' F hk with ⟨_,_,h2⟩|⟨e0,y,_,_,hrun,hR,h2,_⟩
  ·have:=h2 .nil
   rw[<-hxx]at this;cases hat.symm.trans this
  ·have:=h2 .nil
   rw[<-hxx]at this;replace this:=hat.symm.trans this;obtain⟨y1,y2⟩:=y;cases this;rw[Zu1 Tryz.underlying225 hone hR]at hrun;exact hrun
 exact⟨look 1 40 [109,111,110,111,99,108,101,47,112,97,114,97,120,105,97,108,46,118,105,101,119,41,46,99,117,114,118,101,100] 344 Zk Zk rfl,look 2 40 [109,111,110,111,99,108,101,47,112,97,114,97,120,105,97,108,46,118,105,101,119,41,46,99,117,114,118,101,100] 344 Zk Zk rfl,look 3 40 [109,111,110,111,99,108,101,47,112,97,114,97,120,105,97,108,46,118,105,101,119,41,46,102,108,97,116] 345 Zk Zk rfl,look 4 40 [109,111,110,111,99,108,101,47,112,97,114,97,120,105,97,108,46,118,105,101,119,41,46,105,100,101,97,108] 346 Zk Zk rfl⟩
end
end Go.Proofs.YtdocaccajammkaaGreatDoor
namespace Go.Mono
theorem Ov.cast {N D D':Nat} {x:Rat} (h:Ov N D x) (e:D=D'):Ov N D' x:=e▸h
theorem Ov.fits {N D k:Nat} {x:Rat} (h:Ov N D x) (hk:k<=5399) (hN:N<=10 ^ k) (hD:D<=10 ^ k):Fits x:=Hs.fits (Hs.of_ov h hN hD) hk
theorem Ze7 {z:Int} {n:Nat} (h1 : -(n:Int)<=z) (h2:z<=n):z.natAbs<=n:=Zo
theorem Lns.opt.ix_ov {a:Lns} (ha:a.opt) {k s:Nat} (hs:s<a.ns) (hk:k<a.nw):∃m:Nat,10000000<=m∧m<=40000000∧(a.ix s k*a.sgn (s+1)).natAbs=m:=by
 have h:=ha.ir s k hs hk;rcases a.sgn_cases (s+1) with e|e<;>rw[e]
 ·exact⟨(a.ix s k).natAbs,Zo,Zo,Zo⟩
 ·exact⟨(a.ix s k).natAbs,Zo,Zo,Zo⟩
theorem Lns.opt.nI_ov {a:Lns} (ha:a.opt) {k s:Nat} (hs:s<a.ns) (hk:k<a.nw):Ov 40000000 10000000 (a.nI k s):=by
 obtain⟨m,h1,h2,h3⟩:=ha.ix_ov hs hk;exact Ov.of _ 10000000 Zd _ Zo
theorem Lns.opt.nI_num {a:Lns} (ha:a.opt) {k s:Nat} (hs:s<a.ns) (hk:k<a.nw):(a.nI k s).num≠0:=by
 obtain⟨m,h1,h2,h3⟩:=ha.ix_ov hs hk;intro h;have h0:=Rat.num_eq_zero.1 h;unfold Lns.nI at h0;rw[show(10000000:Int)=((10000000:Nat):Int) from rfl,Rat.divInt_ofNat,Rat.mkRat_eq_zero Zd]at h0;omega
theorem Lns.opt.nI_inv {a:Lns} (ha:a.opt) {k s:Nat} (hs:s<a.ns) (hk:k<a.nw):∃m:Nat,0<m∧m<=40000000∧Ov 10000000 m (a.nI k s)⁻¹:=by
 obtain⟨m,h1,h2,h3⟩:=ha.ix_ov hs hk;refine⟨m,Zo,h2,?_⟩;unfold Lns.nI;rw[Rat.inv_divInt];rcases Int.natAbs_eq (a.ix s k*a.sgn (s+1)) with e|e
 ·rw[e,h3]
  exact Ov.of _ m Zo _ Zd
 ·rw[e,h3]
  have:Rat.divInt 10000000 (-(m:Int))=Rat.divInt (-10000000) (m:Int):=by
   rw[Rat.divInt_neg']
  rw[this];exact Ov.of _ m Zo _ Zd
theorem Lns.opt.nB_ov {a:Lns} (ha:a.opt) {k s:Nat} (hs:s<a.ns) (hk:k<a.nw):Ov 40000000 10000000 (a.nB k s):=by
 unfold Lns.nB;split
 ·exact((Ov.of 1 1 Zd 1 Zd).scale 10000000 Zd).mono Zd
 ·exact ha.nI_ov Zo hk
theorem Lns.opt.cv_ov {a:Lns} (ha:a.opt) {s:Nat} (hs:s<a.ns):Ov 1000000000 1000000000 (a.cv s):=by
 have h:=(ha.base.sok s hs).curv;exact Ov.of _ 1000000000 Zd _ (Ze7 h.1 h.2)
theorem Lns.opt.step_ov {a:Lns} (ha:a.opt) {k s:Nat} (hs:s<a.ns) (hk:k<a.nw):Ov 80000000 10000000 (a.step k s):=
 (ha.nI_ov hs hk).sub_same (ha.nB_ov hs hk)
theorem Lns.opt.gr_ov {a:Lns} (ha:a.opt) {k s:Nat} (hs:s<a.ns) (hk:k<a.nw):Ov (6000000000*2500000) (10000000*10000000) (a.gr k s):=by
 have ho:=(ha.base.sok s hs).order;have hp:=(ha.base.sok s hs).p0;have hl:=ha.base.wl k hk;have h1:(2*(a.S s).order*(a.S s).p0).natAbs<=6000000000:=by
  rw[Yde];have e1:(2*(a.S s).order).natAbs<=6:=Ze7 (by have:=ho.1;omega) (by have:=ho.2;omega);have e2:((a.S s).p0).natAbs<=1000000000:=Ze7 hp.1 hp.2;exact Yak (Ybv e1 e2) Zd
 exact(Ov.of _ 10000000 Zd _ h1).mul (Ov.of _ 10000000 Zd _ Zo)
theorem Lns.opt.cs_ov {a:Lns} (ha:a.opt) {k s:Nat} (hs:s<a.ns) (hk:k<a.nw):Ov (1000000000*80000000) (1000000000*10000000) (a.cv s*a.step k s):=
 (ha.cv_ov hs).mul (ha.step_ov hs hk)
theorem Lns.opt.curved_ov {a:Lns} (ha:a.opt) {k s:Nat} (hs:s<a.ns) (hk:k<a.nw):Ov (10 ^ 19) (10 ^ 16) (a.cv s*a.step k s-a.gr k s):=by
 have h1:=(ha.cs_ov hs hk).cast (show 1000000000*10000000=10 ^ 16 by decide);have h2:=((ha.gr_ov hs hk).scale 100 Zd).cast (show 10000000*10000000*100=10 ^ 16 by decide);exact(h1.sub_same h2).mono Zd
theorem Lns.opt.pow_ov {a:Lns} (ha:a.opt) {k s:Nat} (hs:s<a.ns) (hk:k<a.nw):Ov (10 ^ 19) (10 ^ 16) (a.pow k s):=by
 unfold Lns.pow;split
 ·exact((Ov.of 0 1 Zd 0 Zd).scale (10 ^ 16) Zd).mono Zd |>.cast Zd
 ·split
  ·exact(((ha.cv_ov hs).scale 10000000 Zd).mono Zd).cast Zd
  ·exact ha.curved_ov hs hk
theorem Zcn {a b:Nat} (h:a<=b):10 ^ a<=10 ^ b:=Nat.pow_le_pow_right Zd h
theorem Lns.opt.gap_ov {a:Lns} (ha:a.opt) {s:Nat} (hs:s<a.ns) (j:Int) (hj:j.natAbs=1):Ov 1000000000 1000000 (Rat.divInt (j*(a.S s).thick) 1000000):=by
 have h:=(ha.base.sok s hs).thick;refine Ov.of _ 1000000 Zd _ ?_;rw[Yde,hj,Nat.one_mul];exact Ze7 h.1 h.2
theorem Lns.opt.move_ov {a:Lns} (ha:a.opt) {k s:Nat} (hs:s<a.ns) (hk:k<a.nw) (j:Int) (hj:j.natAbs=1) {N D:Nat} {y u:Rat} (hy:Ov N D y) (hu:Ov N D u) :
  ∃D',D'<=D*10 ^ 14∧D ∣ D'∧D'/D<=10 ^ 14∧Ov (10 ^ 9*N) (10 ^ 6*D) (Rat.divInt (j*(a.S s).thick) 1000000*u)∧Ov (N*10 ^ 16) D' ((Rat.divInt (j*(a.S s).thick) 1000000*u)/a.nI k s)∧Ov (N*10 ^ 17) D' (y+(Rat.divInt (j*(a.S s).thick) 1000000*u)/a.nI k s)∧Ov (N*10 ^ 14) D' u:=by
 obtain⟨m,m0,m1,hm⟩:=ha.nI_inv hs hk;have hD:=hy.1;have h1:=(ha.gap_ov hs j hj).mul hu;have e:1000000*D*m=D*(1000000*m):=by rw[Ycu 1000000 D,Yfv]
 have h2:Ov (N*10 ^ 16) (D*(1000000*m)) ((Rat.divInt (j*(a.S s).thick) 1000000*u)/a.nI k s):=by
  rw[Yew];refine((h1.mul hm).cast e).mono ?_;rw[Ycu 1000000000 N,Yfv];exact Yci _ Zd
 have hk':1000000*m<=10 ^ 14:=by
  have:(10:Nat) ^ 14=100000000000000:=Zd;omega
 have hy2:=(hy.scale (1000000*m) Zo).mono (Yci N hk');have hu2:=(hu.scale (1000000*m) Zo).mono (Yci N hk');refine⟨D*(1000000*m),Yci _ hk',Nat.dvd_mul_right _ _,?_,h1,h2,?_,hu2⟩
 ·rw[Nat.mul_div_cancel_left _ hD];exact hk'
 ·refine(hy2.add_same h2).mono ?_
  rw[<-Nat.mul_add];exact Yci _ Zd
theorem Lns.opt.bend_ov {a:Lns} (ha:a.opt) {k s:Nat} (hs:s<a.ns) (hk:k<a.nw) {N M D:Nat} {y u:Rat} (hy:Ov N D y) (hu:Ov M D u) (j:Rat) (hj:j=1∨j = -1) :
  Ov (N*10 ^ 19) (D*10 ^ 16) (y*a.pow k s)∧Ov (N*10 ^ 19) (D*10 ^ 16) (j*(y*a.pow k s))∧Ov (M*10 ^ 16+N*10 ^ 19) (D*10 ^ 16) (u-j*(y*a.pow k s)):=by
 have h1:=hy.mul (ha.pow_ov hs hk);have h2:Ov (N*10 ^ 19) (D*10 ^ 16) (j*(y*a.pow k s)):=by
  rcases hj with rfl|rfl
  ·rw[Rat.one_mul];exact h1
  ·rw[Rat.neg_mul,Rat.one_mul];exact h1.neg
 exact⟨h1,h2,(hu.scale _ Zd).sub_same h2⟩
theorem Lns.opt.tr_ov {a:Lns} (ha:a.opt) {k:Nat} (hk:k<a.nw) {y u:Rat} {K:Nat} {D0:Nat} (hD0:D0<=10 ^ K) (hy:Ov (10 ^ K) D0 y) (hu:Ov (10 ^ K) D0 u) :
  ∀s,s<=a.ns->∃D,D<=10 ^ (K+30*s)∧Ov (10 ^ (K+37*s)) D (a.tr k y u s).1∧Ov (10 ^ (K+37*s)) D (a.tr k y u s).2
 | 0,_=>⟨D0,hD0,hy,hu⟩
 | s + 1, hs => by
   obtain⟨D,hD,h1,h2⟩:=Lns.opt.tr_ov ha hk hD0 hy hu s Zo;obtain⟨D',hD',h3,h4⟩:∃D',D'<=D*10 ^ 14∧Ov (10 ^ (K+37*s)*10 ^ 17) D' (a.tr k y u (s+1)).1∧Ov (10 ^ (K+37*s)*10 ^ 17) D' (a.tr k y u s).2:=by
    rw[show(a.tr k y u (s+1)).1=(if s=0 then(a.tr k y u s).1 else(a.tr k y u s).1+(Rat.divInt (1*(a.S (s-1)).thick) 1000000*(a.tr k y u s).2)/a.nI k (s-1)) from rfl];split
    ·exact⟨D,Yfd _ (show 0<10 ^ 14 by decide),h1.mono (Yfd _ (show 0<10 ^ 17 by decide)),h2.mono (Yfd _ (show 0<10 ^ 17 by decide))⟩
    ·obtain⟨D',g1,_,_,_,_,g2,g3⟩:=ha.move_ov (s:=s-1) Zo hk 1 rfl h1 h2
     exact⟨D',g1,g2,g3.mono (Yci _ (show 10 ^ 14<=10 ^ 17 by decide))⟩
   obtain⟨_,_,h5⟩:=ha.bend_ov (s:=s) Zo hk h3 h4 (Rat.divInt 1 1) (.inl (by decide +kernel));have e1:(10:Nat) ^ (K+37*(s+1))=10 ^ (K+37*s)*10 ^ 37:=by rw[<-Ydn];congr 1
   have e2:(10:Nat) ^ (K+30*(s+1))=10 ^ (K+30*s)*10 ^ 30:=by rw[<-Ydn];congr 1
   refine⟨D'*10 ^ 16,?_,?_,?_⟩
   ·rw[e2]
    have:=Ybv hD (Yab (10 ^ 14));have h6:=Ybv (Yak hD' this) (Yab (10 ^ 16));rw[Yfv]at h6;exact h6
   ·rw[e1]
    refine(h3.scale (10 ^ 16) Zd).mono ?_;rw[Yfv];exact Yci _ Zd
   ·rw[e1]
    refine Ov.mono (show Ov _ _ (a.tr k y u (s+1)).2 from h5) ?_;rw[Yfv,Yfv,<-Nat.mul_add];exact Yci _ Zd
theorem Hs.two {k:Nat} {x y:Rat} (hx:Hs k x) (hy:Hs k y):∃D,D<=10 ^ (k+k)∧Ov (10 ^ (k+k)) D x∧Ov (10 ^ (k+k)) D y:=by
 refine⟨x.den*y.den,?_,?_,?_⟩
 ·rw[Ydn];exact Ybv hx.2 hy.2
 ·refine(hx.ov.scale y.den y.den_pos).mono ?_
  rw[Ydn];exact Yci _ hy.2
 ·refine((hy.ov.scale x.den x.den_pos).cast (Ycu _ _)).mono ?_
  rw[Ydn];exact Yci _ hx.2
end Go.Mono
namespace Go.Proofs.W
open Go.RowKit Go.Mono
theorem Zg9 {a:Lns} (ha:a.opt) {k s:Nat} (hs:s<a.ns) (hk:k<a.nw):PowFits a k s:=by
 exact⟨(ha.step_ov hs hk).fits (k:=30) Zd Zd Zd,(ha.cs_ov hs hk).fits (k:=30) Zd Zd Zd,(ha.gr_ov hs hk).fits (k:=30) Zd Zd Zd,(ha.curved_ov hs hk).fits (k:=30) Zd Zd Zd⟩
theorem Zpk {a:Lns} (ha:a.opt) {k:Nat} (hk:k<a.nw) {y u:Rat} {K:Nat} (hK:K<=4000) {D0:Nat} (hD0:D0<=10 ^ K) (hy:Ov (10 ^ K) D0 y) (hu:Ov (10 ^ K) D0 u):TrFits a k y u:=by
 have hn:=ha.base.ns;have tr:=λs hs=>ha.tr_ov hk hD0 hy hu s hs;have b':∀s c {n:Nat},n<=10 ^ (K+37*s)*10 ^ c->c<=20->n<=10 ^ (K+37*s+20):=λs c n h hc=>by
  rw[<-Ydn]at h;exact Yak h (Zcn Zo)
 have e30:∀s,(10:Nat) ^ (K+30*s)<=10 ^ (K+37*s):=λs=>Zcn Zo;refine⟨λs hs=>Zg9 ha hs hk,λs hs=>ha.nI_num hs hk,λs hs=>?_,λs hs=>?_,λs hs=>?_,λs hs=>?_,λs hs=>?_,λs hs=>?_⟩
 ·obtain⟨D,hD,h1,h2⟩:=tr (s+1) Zo
  obtain⟨D',g1,_,_,g2,g3,g4,_⟩:=ha.move_ov (s:=s) Zo hk 1 rfl h1 h2;refine g2.fits (k:=K+37*(s+1)+20) Zo (b' (s+1) 9 (by rw[Ycu];exact Yab _) Zd) (b' (s+1) 6 ?_ Zd);rw[Ycu];exact Ybd _ (Yak hD (e30 _))
 ·obtain⟨D,hD,h1,h2⟩:=tr (s+1) Zo
  obtain⟨D',g1,_,_,g2,g3,g4,_⟩:=ha.move_ov (s:=s) Zo hk 1 rfl h1 h2;exact g3.fits (k:=K+37*(s+1)+20) Zo (b' (s+1) 16 (Yab _) Zd) (b' (s+1) 14 (Yak g1 (Ybd _ (Yak hD (e30 _)))) Zd)
 ·obtain⟨D,hD,h1,h2⟩:=tr (s+1) Zo
  obtain⟨D',g1,_,_,g2,g3,g4,_⟩:=ha.move_ov (s:=s) Zo hk 1 rfl h1 h2;exact g4.fits (k:=K+37*(s+1)+20) Zo (b' (s+1) 17 (Yab _) Zd) (b' (s+1) 14 (Yak g1 (Ybd _ (Yak hD (e30 _)))) Zd)
 ·obtain⟨D,hD,h1,h2⟩:=tr (s+1) Zo
  obtain⟨g1,_,_⟩:=ha.bend_ov (s:=s) hs hk h1 h2 1 (.inl rfl);exact g1.fits (k:=K+37*(s+1)+20) Zo (b' (s+1) 19 (Yab _) Zd) (b' (s+1) 16 (Ybd _ (Yak hD (e30 _))) Zd)
 ·obtain⟨D,hD,h1,h2⟩:=tr (s+1) Zo
  obtain⟨_,g1,_⟩:=ha.bend_ov (s:=s) hs hk h1 h2 (Rat.divInt 1 1) (.inl (by decide +kernel));exact g1.fits (k:=K+37*(s+1)+20) Zo (b' (s+1) 19 (Yab _) Zd) (b' (s+1) 16 (Ybd _ (Yak hD (e30 _))) Zd)
 ·obtain⟨D,hD,h1,h2⟩:=tr (s+1) Zo
  exact h2.fits (k:=K+37*(s+1)+20) Zo (b' (s+1) 0 (by rw[Nat.pow_zero,Yfk];exact Yab _) Zd) (b' (s+1) 0 (by rw[Nat.pow_zero,Yfk];exact Yak hD (e30 _)) Zd)
section
open Go.Ex
variable {K:Nat->Value} {hK:∀i,(K i).oneCell'=true}
def viewRun (val:Lns->Nat->Nat->Option Rat) (args:List SA) (bk:List (Nat×Blk)) (orc:List (Option Bool)):Option (SV×List Prop×List (Option Bool)):=
 match args with
 | [.agg [x0, x1, x2, x3, x4, x5, x6, x7, x8, x9, .val (.int .i64 (.ofNat k))], .one (.val (.int .i64 (.ofNat s)))] => match parseO bk [x0, x1, x2, x3, x4, x5, x6, x7, x8, x9] with
   | some a=>if a.optB&&Nat.blt k a.nw&&Nat.blt s a.ns then(val a k s).bind λq=>qcase q λq=>some (.a (.agg [.quo q]),[],orc) else none
   | none=>none
 | _=>none
def viewSpec (w0:World) (X:Nat->Prop) (f:FuncId) (val:Lns->Nat->Nat->Option Rat)
    (h:∀(a:Lns) (k s:Nat) (q:Rat),val a k s=some q->a.opt->∀(pl:Plc) (w:World),Frm w0 X w->Chk a pl->OptAt w a pl->s<a.ns->k<a.nw->Calls Tryz.prog f #[.agg (a.vvals pl k),.int .i64 (s:Int)] w λe w'=>∃C,e=.returned (.agg C)∧QV w' (.agg C) q∧Below w.heap.size w w') :
    Ctr (qDen K hK) Tryz.prog w0 X:=.plain f (viewRun val)<|by
    intro args bk orc v obl orc' hr hobl ρ w vals hfr hb hargs;unfold viewRun at hr;split at hr
    ·rename_i x0 x1 x2 x3 x4 x5 x6 x7 x8 x9 k s
     split at hr
     ·rename_i a ha
      split at hr
      ·rename_i hok
       rw[Yam,Yam]at hok;obtain⟨⟨o1,o3⟩,o4⟩:=hok;obtain⟨q,hq,e⟩:=Ybg.1 hr;rw[Zc3]at e;cases e;rw[Nat.blt_eq]at o3 o4;obtain⟨v1,r1,rfl,⟨cs,rfl,h1⟩,v2,r2,rfl,h2,h3⟩:=hargs;obtain rfl:r2=[]:=h3;obtain rfl:v2=.int .i64 (s:Int):=by simpa using h2.1
       obtain⟨cs1,rfl,h9⟩:∃cs1,cs=cs1++[Value.int .i64 (k:Int)]∧denL (qDen K hK) ρ w [x0,x1,x2,x3,x4,x5,x6,x7,x8,x9] cs1:=by
        obtain⟨b0,_,rfl,g0,b1,_,rfl,g1,b2,_,rfl,g2,b3,_,rfl,g3,b4,_,rfl,g4,b5,_,rfl,g5,b6,_,rfl,g6,b7,_,rfl,g7,b8,_,rfl,g8,b9,_,rfl,g9,b10,r10,rfl,⟨rfl,_⟩,g11⟩:=h1;obtain rfl:r10=[]:=g11;exact⟨b0++(b1++(b2++(b3++(b4++(b5++(b6++(b7++(b8++(b9++[]))))))))),by simp[Ybx],⟨_,_,rfl,g0,_,_,rfl,g1,_,_,rfl,g2,_,_,rfl,g3,_,_,rfl,g4,_,_,rfl,g5,_,_,rfl,g6,_,_,rfl,g7,_,_,rfl,g8,_,_,rfl,g9,rfl⟩⟩
       obtain⟨pl,q5,q6⟩:=Zlj hb ha h9;have hopt:=Lns.optB_ok o1;have e9:(cs1++[Value.int .i64 (k:Int)]).toArray=a.vvals pl k:=by
        have:(cs1++[Value.int .i64 (k:Int)]).toArray=cs1.toArray.push (Value.int .i64 (k:Int)):=Zs;rw[this,q5];rfl
       rw[e9];refine(h a k s q hq hopt pl w hfr (λW hW=>Zji a hopt pl W hW) q6 o4 o3).mono ?_;rintro e w' ⟨C,rfl,hC,hbl⟩;exact⟨_,rfl,den_quo.2 hC,hbl⟩
      ·cases hr
     ·cases hr
    ·cases hr
def cVIndex (w0:World) (X:Nat->Prop):Ctr (qDen K hK) Tryz.prog w0 X:=viewSpec w0 X 62 (λa k s=>some (a.nI k s)) λa k s q hq ha pl w _ hc ho s1 k1=>by
 cases hq;exact Zgg a ha pl hc s k w ho s1 k1
def powB (a:Lns) (k s:Nat):Option Rat:=
 match fitC (a.step k s),fitC (a.cv s*a.step k s),fitC (a.gr k s),fitC (a.cv s*a.step k s-a.gr k s) with
 | some _,some _,some _,some _=>some (a.pow k s)
 | _,_,_,_=>none
theorem Zjy {q:Rat} {L:List Prop} (h:fitC q=some L):Fits q:=by
 have hL:L=[]:=by
  unfold fitC at h;split at h
  ·cases h;rfl
  ·cases h
 subst hL;exact sideC.hfit q [] h Zs
def cVPower {w0:World} {m:Nat} (hp:PowsAt w0 m):Ctr (qDen K hK) Tryz.prog w0 (λ_=>False):=viewSpec w0 _ 93 powB λa k s q hq ha pl w hfr hc ho s1 k1=>by
 unfold powB at hq;split at hq
 ·rename_i h1 h2 h3 h4
  cases hq;exact Zob a ha pl hc s k w ho s1 k1 ⟨Zjy h1,Zjy h2,Zjy h3,Zjy h4⟩ m (hp.below hfr.below)
 ·cases hq
end
end Go.Proofs.W
namespace Go.Mono
end Go.Mono
namespace Go.Proofs.W
open Go.RowKit Go.Mono
end Go.Proofs.W
namespace Go.Mono
structure M22 where
 a:Rat
 b:Rat
 c:Rat
 d:Rat
def M22.mul (x y:M22):M22:=⟨x.a*y.a+x.b*y.c,x.a*y.b+x.b*y.d,x.c*y.a+x.d*y.c,x.c*y.b+x.d*y.d⟩
def M22.one:M22:=⟨Rat.divInt 1 1,Rat.divInt 0 1,Rat.divInt 0 1,Rat.divInt 1 1⟩
def M22.det (x:M22):Rat:=x.a*x.d-x.b*x.c
theorem Zhf:Rat.divInt 1 1=1:=by decide +kernel
theorem Ze9:Rat.divInt 0 1=0:=by decide +kernel
theorem M22.mul_assoc (x y z:M22):(x.mul y).mul z=x.mul (y.mul z):=by
 unfold mul;congr 1<;>grind
theorem M22.det_mul (x y:M22):(x.mul y).det=x.det*y.det:=by
 unfold mul det;grind
theorem M22.mul_one (x:M22):x.mul .one=x:=by
 obtain⟨a,b,c,d⟩:=x;unfold mul one;rw[Zhf,Ze9];congr 1<;>grind
def Lns.surM (a:Lns) (k s:Nat):M22:=⟨Rat.divInt 1 1,Rat.divInt 0 1,-a.pow k s,Rat.divInt 1 1⟩
def Lns.gapM (a:Lns) (k s:Nat):M22:=⟨Rat.divInt 1 1,Rat.divInt (a.S s).thick 1000000/a.nI k s,Rat.divInt 0 1,Rat.divInt 1 1⟩
def Lns.sysM (a:Lns) (k i:Nat):Nat->M22
 | 0=>(a.surM k i).mul .one
 | L+1=>(a.surM k (i+L+1)).mul ((a.gapM k (i+L)).mul (a.sysM k i L))
theorem Lns.sysM_s (a:Lns) (k i L:Nat):a.sysM k i (L+1)=(a.surM k (i+L+1)).mul ((a.gapM k (i+L)).mul (a.sysM k i L)):=rfl
theorem Lns.sysM_0 (a:Lns) (k i:Nat):a.sysM k i 0=a.surM k i:=M22.mul_one _
theorem Lns.sysM_cut (a:Lns) (k i n:Nat):∀m,a.sysM k i (n+1+m)=(a.sysM k (i+n+1) m).mul ((a.gapM k (i+n)).mul (a.sysM k i n))
 | 0=>by rw[a.sysM_0];rfl
 | m + 1 => by
   rw[show n+1+(m+1)=(n+1+m)+1 by omega];rw[a.sysM_s,a.sysM_s,a.sysM_cut k i n m,show i+(n+1+m)+1=i+n+1+m+1 by omega,show i+(n+1+m)=i+n+1+m by omega,M22.mul_assoc,M22.mul_assoc]
theorem Lns.sysM_det (a:Lns) (k i:Nat):∀L,(a.sysM k i L).det=1
 | 0 => by
   rw[a.sysM_0];unfold surM M22.det;rw[Zhf,Ze9];grind
 | L + 1 => by
   rw[a.sysM_s,M22.det_mul,M22.det_mul,a.sysM_det k i L];unfold surM gapM M22.det;rw[Zhf,Ze9];grind
def M22.app (x:M22) (r:Rat×Rat):Rat×Rat:=(x.a*r.1+x.b*r.2,x.c*r.1+x.d*r.2)
theorem M22.app_mul (x y:M22) (r:Rat×Rat):(x.mul y).app r=x.app (y.app r):=by
 unfold mul app;congr 1<;>grind
theorem Lns.sysM_tr (a:Lns) (k:Nat) (y u:Rat):∀L,(a.sysM k 0 L).app (y,u)=a.tr k y u (L+1)
 | 0 => by
   rw[a.sysM_0,a.tr_stp];unfold surM M22.app Lns.stp Lns.tr;rw[Zhf,Ze9];dsimp only;rw[if_pos rfl];congr 1<;>grind
 | L + 1 => by
   rw[a.sysM_s,M22.app_mul,M22.app_mul,a.sysM_tr k y u L,a.tr_stp k y u (L+1),Yba];generalize a.tr k y u (L+1)=r;unfold surM gapM M22.app Lns.stp;rw[Zhf,Ze9,if_neg (Nat.succ_ne_zero L),Ybf,Yga];simp only[Yew];generalize a.pow k (L+1)=p;generalize (a.nI k L)⁻¹=n;generalize Rat.divInt (a.S L).thick 1000000=g;congr 1<;>grind
structure M22.Ov (N D:Nat) (x:M22):Prop where
 a:Go.Mono.Ov N D x.a
 b:Go.Mono.Ov N D x.b
 c:Go.Mono.Ov N D x.c
 d:Go.Mono.Ov N D x.d
theorem M22.Ov.mono {N M D:Nat} {x:M22} (h:x.Ov N D) (hN:N<=M):x.Ov M D:=⟨h.a.mono hN,h.b.mono hN,h.c.mono hN,h.d.mono hN⟩
theorem M22.Ov.mul {N M D E:Nat} {x y:M22} (hx:x.Ov N D) (hy:y.Ov M E):(x.mul y).Ov (2*(N*M)) (D*E):=by
 rw[Nat.two_mul];exact⟨(hx.a.mul hy.a).add_same (hx.b.mul hy.c),(hx.a.mul hy.b).add_same (hx.b.mul hy.d),(hx.c.mul hy.a).add_same (hx.d.mul hy.c),(hx.c.mul hy.b).add_same (hx.d.mul hy.d)⟩
theorem Zfq (D:Nat) (h:0<D):Ov D D (Rat.divInt 1 1):=by
 have:=(Ov.of 1 1 Zd 1 Zd).scale D h;rwa [Nat.one_mul]at this
theorem Zfr (N D:Nat) (h:0<D):Ov N D (Rat.divInt 0 1):=by
 have:=(Ov.of 0 1 Zd 0 Zd).scale D h;rw[Nat.one_mul,Yez]at this;exact this.mono (Yat _)
theorem M22.one_ov:M22.one.Ov 1 1:=⟨Zfq 1 Zd,Zfr _ _ Zd,Zfr _ _ Zd,Zfq 1 Zd⟩
theorem Lns.opt.surM_ov {a:Lns} (ha:a.opt) {k s:Nat} (hs:s<a.ns) (hk:k<a.nw):(a.surM k s).Ov (10 ^ 19) (10 ^ 16):=
 ⟨(Zfq _ Zd).mono Zd,Zfr _ _ Zd,(ha.pow_ov hs hk).neg,(Zfq _ Zd).mono Zd⟩
theorem Lns.opt.gapM_ov {a:Lns} (ha:a.opt) {k s:Nat} (hs:s<a.ns) (hk:k<a.nw):∃D,0<D∧D<=10 ^ 14∧(a.gapM k s).Ov (10 ^ 16) D:=by
 obtain⟨m,m0,m1,hm⟩:=ha.nI_inv hs hk;have h1:=(ha.gap_ov hs 1 rfl).mul hm;rw[Yga,<-Yew]at h1;have e:1000000*m<=10 ^ 14:=by
  have:(10:Nat) ^ 14=100000000000000:=Zd;omega
 have e2:1000000*m<=10 ^ 16:=Yak e Zd;exact⟨1000000*m,Zo,e,(Zfq _ Zo).mono e2,h1.mono Zd,Zfr _ _ Zo,(Zfq _ Zo).mono e2⟩
theorem Lns.opt.gapS_ov {a:Lns} (ha:a.opt) {k s:Nat} (hs:s<a.ns) (hk:k<a.nw) {K E D:Nat} {x:M22} (hx:x.Ov (10 ^ K) D) (hD:D<=10 ^ E):∃D',D'<=10 ^ (E+14)∧((a.gapM k s).mul x).Ov (10 ^ (K+17)) D':=by
 obtain⟨D1,_,h1,h2⟩:=ha.gapM_ov hs hk;refine⟨D1*D,?_,(h2.mul hx).mono ?_⟩
 ·rw[Ydn,Ycu];exact Ybv hD h1
 ·rw[Ydn,Ycu (10 ^ 16),<-Yfv,Ycu 2,Yfv]
  exact Yci _ Zd
theorem Lns.opt.surS_ov {a:Lns} (ha:a.opt) {k s:Nat} (hs:s<a.ns) (hk:k<a.nw) {K E D:Nat} {x:M22} (hx:x.Ov (10 ^ K) D) (hD:D<=10 ^ E):∃D',D'<=10 ^ (E+16)∧((a.surM k s).mul x).Ov (10 ^ (K+20)) D':=by
 refine⟨10 ^ 16*D,?_,((ha.surM_ov hs hk).mul hx).mono ?_⟩
 ·rw[Ydn,Ycu];exact Ybd _ hD
 ·rw[Ydn,Ycu (10 ^ 19),<-Yfv,Ycu 2,Yfv]
  exact Yci _ Zd
theorem Lns.opt.sysM_ov {a:Lns} (ha:a.opt) {k i:Nat} (hk:k<a.nw):∀L,i+L<a.ns->∃D,D<=10 ^ (16+30*L)∧(a.sysM k i L).Ov (10 ^ (20+37*L)) D
 | 0, h => by
   obtain⟨D,h1,h2⟩:=ha.surS_ov (s:=i) Zo hk (K:=0) (E:=0) M22.one_ov (Yab _);exact⟨D,h1,h2⟩
 | L + 1, h => by
   obtain⟨D,h1,h2⟩:=Lns.opt.sysM_ov ha hk L (i:=i) Zo;obtain⟨D1,h3,h4⟩:=ha.gapS_ov (s:=i+L) Zo hk h2 h1;obtain⟨D2,h5,h6⟩:=ha.surS_ov (s:=i+L+1) Zo hk h4 h3;exact⟨D2,Yak h5 (Zcn Zo),by rw[show 20+37*(L+1)=20+37*L+17+20 by omega];exact h6⟩
end Go.Mono
namespace Go.Proofs.W
open Go.RowKit Go.Mono
section
open Go.Ex
def spM {w:World} {m:Nat} (h:PowsAt w m):List (Ctr (qDen (pK m) (pK1 m)) Tryz.prog w (λ_=>False)):=cOCheck w _::cLCheck w _::cVIndex w _::cVPower h::cProduct w _::spC w (λ_=>False)
end
end Go.Proofs.W
namespace Go.Mono
section
section
variable (M:M22) (n:Rat)
def M22.foc:Rat:=Rat.divInt (-1) 1/M.c
def M22.bck:Rat:=-(n*M.a)/M.c
def M22.frt:Rat:=M.d/M.c
def M22.rer:Rat:=n*(Rat.divInt 1 1-M.a)/M.c
def M22.fst:Rat:=(M.d-Rat.divInt 1 1)/M.c
def M22.row0 (x:Rat):Rat:=M.a*x+M.b
def M22.row1 (x:Rat):Rat:=M.c*x+M.d
end
theorem Zyd:Rat.divInt (-1) 1 = -1:=by decide +kernel
variable {M:M22} {n:Rat}
theorem M22.rear_way:M.bck n-M.rer n=n*M.foc:=by
 unfold bck rer foc;rw[Zhf,Zyd];simp only[Yew];grind
theorem M22.front_way:M.fst-M.frt=M.foc:=by
 unfold fst frt foc;rw[Zhf,Zyd];simp only[Yew];grind
theorem M22.row1_fst (hc:M.c≠0):M.row1 (-M.fst)=1:=by
 unfold row1 fst;rw[Zhf];simp only[Yew];have h:=Rat.mul_inv_cancel M.c hc;grind
theorem M22.row1_frt (hc:M.c≠0):M.row1 (-M.frt)=0:=by
 unfold row1 frt;simp only[Yew];have h:=Rat.mul_inv_cancel M.c hc;grind
theorem M22.row0_fst (hc:M.c≠0) (hd:M.det=1) : -(n*M.row0 (-M.fst))=M.rer n:=by
 unfold row0 fst rer;unfold det at hd;rw[Zhf];simp only[Yew];have h:=Rat.mul_inv_cancel M.c hc;generalize M.c⁻¹=e at *;have:M.b=M.b*(M.c*e):=by rw[h,Rat.mul_one]
 rw[this];grind
end
end Go.Mono
