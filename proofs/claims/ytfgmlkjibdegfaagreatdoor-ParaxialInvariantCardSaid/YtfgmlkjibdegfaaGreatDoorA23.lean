/- Contracts of package paraxial,and a verified evaluator. Part 23 of 28. No condition beside the row. -/
import Derived.Test.YtfgmlkjibdegfaaGreatDoorA07
import Derived.Test.YtfgmlkjibdegfaaGreatDoorA10
import Derived.Test.YtfgmlkjibdegfaaGreatDoorA12
import Derived.Test.YtfgmlkjibdegfaaGreatDoorA13
import Derived.Test.YtfgmlkjibdegfaaGreatDoorA15
import Derived.Test.YtfgmlkjibdegfaaGreatDoorA21
import Derived.Test.YtfgmlkjibdegfaaGreatDoorA22
set_option linter.unusedVariables false
set_option linter.unusedSimpArgs false
set_option maxRecDepth 100000
set_option maxHeartbeats 4000000
namespace Go.Mono
open Go.RowKit
def Lns.sgn (a:Lns):Nat->Int
 | 0=>1
 | k+1=>if(a.S k).glass=mirror then-a.sgn k else a.sgn k
theorem Lns.sgn_cases (a:Lns):∀k,a.sgn k=1∨a.sgn k = -1
 | 0=>.inl rfl
 | k + 1 => by
   have:=a.sgn_cases k;unfold Lns.sgn;split<;>omega
end Go.Mono
namespace Go.Proofs.W
open Go.RowKit Go.Mono
def Chk (a:Lns) (q:Plc):Prop:=∀W,OptAt W a q->Calls Tryz.prog 91 #[.agg (a.ovals q)] W λe w'=>e=.returned (.int .i64 0)∧Below W.heap.size W w'
theorem Znc (a:Lns) (q:Plc) (hchk:Chk a q) (s k:Int) (w:World) (h:OptAt w a q) (s0:0<=s) (s1:s<a.ns) (k0:0<=k) (k1:k<a.nw) :
  Calls Tryz.prog 157 #[.agg (a.ovals q),.int .i64 s,.int .i64 k] w λe w'=>e=.returned (.int .i64 0)∧Below w.heap.size w w':=by
 have hc:=λW (hW:Below w.heap.size w W)=>hchk W (h.below hW);simp only[Lns.ovals]at hc ⊢;clear hchk h;go_enter Tryz.func157,Tryz.ntmps157
 go_wp2_with fail
 refine Zbv λW hB hs bO=>?_;refine(hc W hB).mono ?_;rintro e w' ⟨rfl,hb⟩;replace bO:=bO.below hb;have cO:=bO.cell;have lO:=bO.lt;go_wp2
 go_ret
 exact⟨rfl,Zaa hB hb⟩
theorem Zq1 (a:Lns) (q:Plc) (hchk:Chk a q) (s k:Nat) (w:World) (h:OptAt w a q) (s1:s<a.ns) (k1:k<a.nw) :
  Calls Tryz.prog 109 #[.agg (a.ovals q),.int .i64 (s:Int),.int .i64 (k:Int)] w λe w'=>e=.returned (.tuple #[.int .i64 (a.ix s k),.int .i64 0])∧Below w.heap.size w w':=by
 have hc:=λW (hW:Below w.heap.size w W)=>Znc a q hchk s k W (h.below hW) Zo Zo Zo Zo;obtain⟨b,off,hpi,hb,hix⟩:=h.index.2.2 Zo;obtain⟨b2,off2,hpI,hb2,hrow⟩:=(h.row s s1).2.2 Zo;have c1:=hix s 0 s1 Zo;have c2:=hrow k k1;simp only[Yfk,Yce]at c1;simp only[Lns.ovals]at hc ⊢;rw[hpi]at hc ⊢;rw[hpI]at c1;have s1':(s:Int)<a.ns:=Zo;have k1':(k:Int)<a.nw:=Zo;clear hchk h hix hrow;go_enter Tryz.func109,Tryz.ntmps109
 go_wp2_with fail
 refine Zbv λW hB hs bO=>?_;refine(hc W hB).mono ?_;rintro e w' ⟨rfl,hbw⟩;replace bO:=bO.below hbw;have hBw:=Zaa hB hbw;have cO:=bO.cell;have lO:=bO.lt;replace c1:=(hBw.cell (p:=⟨b,off+s,none⟩) hb).trans c1;replace c2:=(hBw.cell (p:=⟨b2,off2+k,none⟩) hb2).trans c2;go_wp2
 go_ret2
 exact⟨rfl,hBw⟩
theorem Zvv (a:Lns) (q:Plc) (hchk:Chk a q) (s:Nat) (w:World) (h:OptAt w a q) (s1:s<a.ns) (k1:0<a.nw) (hns:a.ns<=16) :
  Calls Tryz.prog 110 #[.agg (a.ovals q),.int .i64 (s:Int)] w λe w'=>e=.returned (.tuple #[.int .i64 (a.sgn (s+1)),.int .i64 0])∧Below w.heap.size w w':=by
 have hc:=λW (hW:Below w.heap.size w W)=>Znc a q hchk s 0 W (h.below hW) Zo Zo Zo Zo;obtain⟨b,off,hps,hbl,hcell⟩:=h.surfs.2.2 Zo;have hcap:=h.surfs.1;dsimp only at hcell;simp only[Lns.ovals]at hc ⊢;rw[hps]at hc ⊢;have s1':(s:Int)<a.ns:=Zo;have s2:(s:Int)+1<=a.ns:=Zo;have s3:(s:Int)+1<=q.cs:=Zo;have s4:IntKind.i64.wrap ((s:Int)+1)=(s:Int)+1:=by rw[Ybi];omega
 clear hchk h;go_enter Tryz.func110,Tryz.ntmps110
 go_wp2_with fail
 refine Zbv λW hB hs bO=>?_;refine(hc W hB).mono ?_;rintro e w' ⟨rfl,hbw⟩;replace bO:=bO.below hbw;have hBw:=Zaa hB hbw;have cO:=bO.cell;have lO:=bO.lt;go_wp2
 go_loopw [7,23] (λx y wr=>∃k:Nat,k<=s+1∧x=.int .i64 (a.sgn k)∧y=.int .i64 (k:Int)∧Below w.heap.size w wr) (λ_ y _=>(s+1-intOf y).toNat)
 case atStart=>exact⟨0,Yat _,rfl,rfl,hBw⟩
 case round=>
  obtain⟨k,hk,rfl,rfl,hBr⟩:=hrel;clear hBw cO lO;by_cases hks:k<s+1
  ·have hcel:=hcell k
   have hsz:(Tryz.prog.info? 117).map (·.size)=some ((a.S k).cs (q.cp k) (q.cl k)).size:=Zk;have hsl:(Tryz.prog.info? 117).map (·.size)=some ((a.S k).cs (q.cp k) (q.cl k)).toList.length:=Zk;have g13:((a.S k).cs (q.cp k) (q.cl k))[13]? = some (.string (a.S k).glass):=rfl;have g1:((a.S k).cs (q.cp k) (q.cl k)).all (·.oneCell')=true:=by simp[Srf.cs,Value.oneCell']
   have gz:((a.S k).cs (q.cp k) (q.cl k)).size=22:=rfl;have hrange:wr.rangeAt b (off+k*22) ((a.S k).cs (q.cp k) (q.cl k)).toList:=λj v hv=>by
    have hj:j<22:=by
     have:=(Yan.1 hv).1;simpa[gz]using this
    refine((hBr.cell (p:=⟨b,off+k*22+j,none⟩) hbl).trans (hcel j Zo hj)).trans ?_;rw[Yaq]at hv;rw[Yax,hv];rfl
   have hks':(k:Int)<(s:Int)+1:=Zo;have hsg:a.sgn (k+1)=if(a.S k).glass=mirror then-a.sgn k else a.sgn k:=rfl
   have hsc:=a.sgn_cases k;generalize (a.S k).cs (q.cp k) (q.cl k)=A at *;generalize (a.S k).glass=G at *;generalize a.sgn k=sg at *;clear hcell hcel hc;by_cases hG:G=mirror
   ·rw[if_pos hG]at hsg
    unfold mirror at hG;subst hG;have hwr:IntKind.i64.wrap (-sg) = -sg:=by rw[Ybi];omega
    clear hsc;go_wp2_with first|(refine wpList_load_mid rfl 117 _ rfl b (off+k*22) rfl A.toList _ hrange Tryz.underlying117 rfl hsl ?_)|(refine Zaq rfl 117 rfl _ Za0 ?_;intro W1 B1 hle hB1 b1)|(refine Zab rfl 117 (.tmp 9) (.tmp 26) rfl B1 0 117 _ A A rfl rfl b1 hsz (Ybl (by rw[gz];rfl)) g1 (Zah (by rw[gz];rfl)) ?_;intro W2 hk2 b2;have hBW2:Below wr.heap.size wr W2:=hk2.below hB1 hle hB1.size;have f13:=(b2.cell 13).trans g13;have lb2:=b2.lt)
    go_roundw
    case rel=>exact⟨k+1,Zo,by rw[hsg],Zs,Zaa hBr hBW2⟩
    case measure=>simp[intOf];omega
   ·have hne:=Zix hG
    rw[if_neg hG]at hsg;clear hG hsc;go_wp2_with first|(refine wpList_load_mid rfl 117 _ rfl b (off+k*22) rfl A.toList _ hrange Tryz.underlying117 rfl hsl ?_)|(refine Zaq rfl 117 rfl _ Za0 ?_;intro W1 B1 hle hB1 b1)|(refine Zab rfl 117 (.tmp 9) (.tmp 26) rfl B1 0 117 _ A A rfl rfl b1 hsz (Ybl (by rw[gz];rfl)) g1 (Zah (by rw[gz];rfl)) ?_;intro W2 hk2 b2;have hBW2:Below wr.heap.size wr W2:=hk2.below hB1 hle hB1.size;have f13:=(b2.cell 13).trans g13;have lb2:=b2.lt)
    go_roundw
    case rel=>exact⟨k+1,Zo,by rw[hsg],Zs,Zaa hBr hBW2⟩
    case measure=>simp[intOf];omega
  ·obtain rfl:k=s+1:=by omega
   clear hcell hc;go_wp2
   go_ret2
   exact⟨rfl,hBr⟩
section
open Go.Ex
def kF:Nat->Value:=λ_=>.bool false
theorem kF1 (i:Nat):(kF i).oneCell'=true:=rfl
theorem Zvt {K:Nat->Value} {hK:∀i,(K i).oneCell'=true} {ρ:Nm} {w:World} {bk:List (Nat×Blk)} (hB:BkOk (qDen K hK) ρ w w bk) {u:U} {v:Value} (hu:denU (qDen K hK) ρ w u [v]) {n:Nat} {us:List U} (h:rdU bk 1 u=some (n,us)) {z:Int} (hz:intsU us=some (List.replicate n z)) :
  ∃p c,v=.slice p n c∧RdF w p n c (λ_=>z):=by
 obtain⟨p,c,ds,rfl,a1,b1,l1,m1,r1⟩:=Zfv hB hu h;obtain rfl:=Zc2 hz l1;refine⟨p,c,rfl,a1,Zo,λhn=>?_⟩;obtain⟨b,off,q1,q2,q3⟩:=r1 hn Zd;exact⟨b,off,q1,q2,λi hi=>q3 i _ (by simp[List.getElem?_replicate,hi])⟩
theorem Zdt (n:Nat) (hn:0<n) (hev:∀w:World,(evF Tryz.prog (w0:=w) (X:=λ_=>False) (D:=qDen kF kF1) [] [] 5 [] 182 [.one (.sli 0 0 1),.one (.val (.int .i64 n))] [(0,⟨3,[.val (.int .i64 10000000)],true,false,false⟩)] 1 1 []).map (λr=>(r.v,r.obl,r.wr,r.pan)) =
   some (.a (.one (.slc 1 0 n n)),[],[(1,⟨3,List.replicate n (.val (.int .i64 10000000)),false,false,false⟩)],none)) (hz:rdU [(1,⟨3,List.replicate n (.val (.int .i64 10000000)),false,false,false⟩),(0,⟨3,[.val (.int .i64 10000000)],true,false,false⟩)] 1 (.slc 1 0 n n)=some (n,List.replicate n (.val (.int .i64 10000000))))
   (hi:intsU (List.replicate n (.val (.int .i64 10000000)))=some (List.replicate n 10000000))
  (p:Option Addr) (c:Nat) (w:World) (h:RdF w p 1 c (λ_=>10000000)) :
  Calls Tryz.prog 182 #[.slice p 1 c,.int .i64 n] w λe w'=>∃p' c',e=.returned (.slice p' n c')∧RdF w' p' n c' (λ_=>10000000)∧Below w.heap.size w w':=by
 obtain⟨h1,h2,h3⟩:=h;obtain⟨b,off,rfl,hb,hc⟩:=h3 Zd;refine(Zuq (D:=qDen kF kF1) (vs:=[⟨3,[.val (.int .i64 10000000)],b,off,[.int .i64 10000000]⟩]) (args:=[.one (.sli 0 0 1),.one (.val (.int .i64 n))]) (vals:=[.slice (some ⟨b,off,none⟩) 1 c,.int .i64 n]) Ziu [] [] _ rfl rfl _ [] _ (hev w) trivial ?_ ?_).mono ?_
 ·intro v hv
  obtain rfl:v=_:=by simpa using hv
  refine⟨hb,λj x hj=>?_,⟨_,[],rfl,⟨rfl,rfl⟩,rfl⟩⟩;have:j=0:=by
   have:=(Yan.1 hj).1;simpa using this
  subst this;obtain rfl:Value.int .i64 10000000=x:=by simpa using hj
  exact hc 0 Zd
 ·exact⟨_,_,rfl,⟨⟨b,off,true,0,0⟩,c,rfl,h1,rfl⟩,_,_,rfl,⟨rfl,rfl⟩,rfl⟩
 ·rintro e w' ⟨v,ρ',rfl,hv,hbl,_,hB,_⟩
  obtain⟨p',c',rfl,hr⟩:=Zvt hB (u:=.slc 1 0 n n) hv (us:=List.replicate n (.val (.int .i64 10000000))) hz hi;exact⟨_,_,rfl,hr,hbl⟩
theorem Zoi (n:Nat) (h0:1<=n) (h5:n<=5) (p:Option Addr) (c:Nat) (w:World) (h:RdF w p 1 c (λ_=>10000000)) :
  Calls Tryz.prog 182 #[.slice p 1 c,.int .i64 n] w λe w'=>∃p' c',e=.returned (.slice p' n c')∧RdF w' p' n c' (λ_=>10000000)∧Below w.heap.size w w':=by
 rcases(by omega:n=1∨n=2∨n=3∨n=4∨n=5) with rfl|rfl|rfl|rfl|rfl
 ·exact Zdt 1 Zd (λw=>Zk) rfl rfl p c w h
 ·exact Zdt 2 Zd (λw=>Zk) rfl rfl p c w h
 ·exact Zdt 3 Zd (λw=>Zk) rfl rfl p c w h
 ·exact Zdt 4 Zd (λw=>Zk) rfl rfl p c w h
 ·exact Zdt 5 Zd (λw=>Zk) rfl rfl p c w h
theorem Zvu (n:Nat) (h0:1<=n) (h5:n<=5) (M:Nat) (pw:Option Addr) (cw:Nat) (w:World) (hw:w.cell? ⟨M,6,none⟩=some (.slice pw n cw)) :
  Calls Tryz.prog 140 #[.pointer (some ⟨M,0,none⟩)] w λe w'=>∃p' c',e=.returned (.slice p' n c')∧RdF w' p' n c' (λ_=>10000000)∧Below w.heap.size w w':=by
 have hlt:M<w.heap.size:=block_lt_of_cell hw;go_enter Tryz.func140,Tryz.ntmps140
 go_wp2_with fail
 refine Zbv λW hB hs b0=>?_;refine(Zoi n h0 h5 _ _ W (.box b0 0 1 _ (λi hi=>by obtain rfl:i=0:=(Zo);rfl) Zo)).mono ?_;rintro e w' ⟨p',c',rfl,hr,hb⟩;go_wp2
 go_ret
 exact⟨_,_,rfl,hr,Zaa hB hb⟩
theorem Zqy (a:Lns) (ha:a.opt) (q:Plc) (w:World) (h:OptAt w a q) :
  Calls Tryz.prog 91 #[.agg (a.ovals q)] w λe w'=>e=.returned (.int .i64 0)∧Below w.heap.size w w':=
 Zqv a ha q w h λM W hw=>Zvu a.nw ha.base.nw.1 ha.base.nw.2 M q.pw q.cw W hw
end
end Go.Proofs.W
namespace Go.Mono
open Go.RowKit
theorem QV.cells {w:World} {v:Value} {q:Rat} (h:QV w v q):∃C:Array Value,v=.agg C∧C.size=4∧C.all (·.oneCell')=true:=by
 obtain⟨p,k,c,p',k',c',rfl,_,_⟩:=h;exact⟨_,rfl,rfl,by simp[Value.oneCell']⟩
end Go.Mono
namespace Go.Proofs.W
open Go.RowKit Go.Mono
theorem Zoj (w:World):(Instr.alloc 54 true (.tuple #[])).run Tryz.prog w=.ok (.pointer (some ⟨w.heap.size,0,none⟩)) (w.alloc (.cells #[.bool false,.slice none 0 0,.bool false,.slice none 0 0] 54)):=by
 go_simp
theorem Zan:(Tryz.prog.info? 54).map (·.size)=some 4:=Zk
theorem Za1 (C:Array Value) (hC:C.size=4) (h1:C.all (·.oneCell')=true) (w:World) :
  Calls Tryz.prog 64 #[.agg C,.int .i64 0] w λe w'=>e=.returned (.agg C)∧Below w.heap.size w w':=by
 have hi:(Tryz.prog.info? 54).map (·.size)=some C.size:=by rw[hC];exact Zan
 go_enter Tryz.func64,Tryz.ntmps64
 go_step
 go_step
 go_step
 go_step
 go_step
 go_step
 go_step
 go_step
 go_step
 refine Zb8 λW hB hsz b0 b1=>?_;go_wp2_with first|(refine Zac rfl 54 (.tmp 2) rfl w.heap.size rfl 54 C b0 _ Tryz.underlying54 rfl hi ?_)|(refine Zab rfl 54 (.tmp 4) (.tmp 10) rfl (w.heap.size+1) 0 54 _ C C rfl rfl b1 hi (Ybl (by rw[hC];rfl)) h1 (Zah (by rw[hC];rfl)) ?_;intro W2 hk2 b12)
 refine bodyPost_ret (b12.results rfl _ _ rfl Tryz.underlying54 rfl hi) rfl ?_;exact⟨rfl,hk2.below hB Zo Zo⟩
theorem Znd (z:Int) (w:World):Calls Tryz.prog 108 #[.int .i64 z,.int .i64 0] w λe w'=>e=.returned (.int .i64 z)∧w'=w:=by
 go_enter Tryz.func108,Tryz.ntmps108
 go_wp2
 go_ret
 exact⟨rfl,rfl⟩
theorem Zez (n d:Int) (d0:d≠0) (w:World) (a1 : -9223372036854775808<=n) (a2:n<=9223372036854775807) (b1 : -9223372036854775808<=d) (b2:d<=9223372036854775807) :
  Calls Tryz.prog 94 #[.int .i64 n,.int .i64 d] w λe w'=>∃C,e=.returned (.agg C)∧QV w' (.agg C) (Rat.divInt n d)∧Below w.heap.size w w':=by
 go_enter Tryz.func94,Tryz.ntmps94
 go_wp2_with fail
 refine Zbv λW hB hs bR=>?_;refine(Zup n d d0 W a1 a2 b1 b2).mono ?_;rintro e W1 ⟨r,rfl,hr,hb⟩;obtain⟨C,rfl,hC,h1⟩:=hr.cells;have hi:(Tryz.prog.info? 54).map (·.size)=some C.size:=by rw[hC];exact Zan
 replace hB:=Zaa hB hb;replace bR:=bR.below hb;clear hb a1 a2 b1 b2 d0;go_wp2_with first|(go_at_call 64;refine(Za1 C hC h1 _).mono ?_;rintro e W2 ⟨rfl,hb2⟩;have bR2:=bR.below hb2;have lR:=bR.lt)|(refine Zab rfl 54 (.tmp 4) (.tmp 10) rfl w.heap.size 0 54 _ C C rfl rfl bR2 hi (Ybl (by rw[hC];rfl)) h1 (Zah (by rw[hC];rfl)) ?_;intro W3 hk3 b3)
 refine bodyPost_ret (b3.results rfl _ _ rfl Tryz.underlying54 rfl hi) rfl ?_;exact⟨C,rfl,hr.ext ((Ext.of_below hb2).trans (hk3.ext bR2 Zd)),hk3.below (Zaa hB hb2) Zo (by have:=hB.size;have:=hb2.size;omega)⟩
section
open Go.Ex
variable {K:Nat->Value} {hK:∀i,(K i).oneCell'=true}
def dS:Srf:=⟨0,0,0,0,0,0,0,0,0,0,0,0,0,{data:=#[]},0,0,0,0,0,0,0,[]⟩
def lforce {α:Type}:List Int->(List Int->α)->α
 | [],f=>f []
 | z::r,f=>icase z λz=>lforce r λr=>f (z::r)
theorem Zey {α:Type}:∀(l:List Int) (f:List Int->α),lforce l f=f l
 | [],f=>rfl
 | z::r,f=>by unfold lforce;rw[Zc0,Zey r]
def llforce {α:Type}:List (List Int)->(List (List Int)->α)->α
 | [],f=>f []
 | z::r,f=>lforce z λz=>llforce r λr=>f (z::r)
theorem Zh4 {α:Type}:∀(l:List (List Int)) (f:List (List Int)->α),llforce l f=f l
 | [],f=>rfl
 | z::r,f=>by unfold llforce;rw[Zey,Zh4 r]
def sforce {α:Type}:List Srf->(List Srf->α)->α
 | [],f=>f []
 | ⟨z1, z2, z3, z4, z5, z6, z7, z8, z9, z10, z11, z12, z13, g, z15, z16, z17, z18, z19, z20, z21, co⟩ :: r, f =>
   icase z1 λz1=>icase z2 λz2=>icase z3 λz3=>icase z4 λz4=>icase z5 λz5=>icase z6 λz6=>icase z7 λz7=>icase z8 λz8=>icase z9 λz9=>icase z10 λz10=>icase z11 λz11=>icase z12 λz12=>icase z13 λz13=>
   icase z15 λz15=>icase z16 λz16=>icase z17 λz17=>icase z18 λz18=>icase z19 λz19=>icase z20 λz20=>icase z21 λz21=>sforce r λr=>f (⟨z1,z2,z3,z4,z5,z6,z7,z8,z9,z10,z11,z12,z13,g,z15,z16,z17,z18,z19,z20,z21,co⟩::r)
theorem Zkg {α:Type}:∀(l:List Srf) (f:List Srf->α),sforce l f=f l
 | [],f=>rfl
 | s :: r, f => by
   cases s;unfold sforce;simp only[Zc0];rw[Zkg r]
def parseL (bk:List (Nat×Blk)) (x:List U) (ix:Nat->Nat->Int):Option Lns:=
 match x with
 | [um, ud, up, ut, ur, uf, uw, us, uc] => match strU um, intsU [ud, up, ut, ur] with
   | some nm,some [di,pu,st,pr]=>(match rdU bk 2 uf,rdU bk 2 uw,rdU bk 22 us,rdU bk 1 uc with
   | some (nf, lf), some (nw, lw), some (ns, ls), some (0, _) => (match intsU lf, intsU lw, srfU bk ls with
     | some F,some W,some S=>lforce F λF=>lforce W λW=>sforce S λS=>icase di λdi=>icase pu λpu=>icase st λst=>icase pr λpr=>ncase nf λnf=>ncase nw λnw=>ncase ns λns=>some ⟨nm,di,pu,st,pr,nf,λi=>F.getD (i*2) 0,λi=>F.getD (i*2+1) 0,nw,λi=>W.getD (i*2) 0,λi=>W.getD (i*2+1) 0,ns,λi=>S.getD i dS,ix⟩
     | _,_,_=>none)
   | _,_,_,_=>none)
   | _,_=>none
 | _=>none
theorem Zkh {w:World} {p:Option Addr} {n c:Nat} {F:List Int} (h1:n<=c) (h2:n<=1000000) (hl:F.length=n*2) (hc:0<n->0<2->∃b off,p=some ⟨b,off,none⟩∧b<w.heap.size∧∀i v,(F.map (Value.int .i64))[i]? = some v->w.cell? ⟨b,off+i,none⟩=some v) :
  RdC w p n c 2 (λi j=>if j=0 then .int .i64 (F.getD (i*2) 0) else .int .i64 (F.getD (i*2+1) 0)):=by
 refine⟨h1,Zo,λhn=>?_⟩;obtain⟨b,off,q1,q2,q3⟩:=hc hn Zd;refine⟨b,off,q1,q2,λi j hi hj=>?_⟩;rw[Ybj];apply q3;rcases(by omega:j=0∨j=1) with rfl|rfl
 ·have hlt:i*2<F.length:=by omega
  simp[hlt]
 ·have hlt:i*2+1<F.length:=by omega
  simp[hlt]
theorem Zqz {ρ:Nm} {w:World} {bk:List (Nat×Blk)} (hB:BkOk (qDen K hK) ρ w w bk) {x:List U} {ix:Nat->Nat->Int} {a:Lns} (h:parseL bk x ix=some a) {cs:List Value} (hd:denL (qDen K hK) ρ w x cs) (pi:Option Addr) (ci:Nat) (pI:Nat->Option Addr) (cI:Nat->Nat) :
  a.ix=ix∧∃q:Plc,q.pi=pi∧q.ci=ci∧q.pI=pI∧q.cI=cI∧cs.toArray=a.lvals q∧LnsAt w a q:=by
 unfold parseL at h;split at h
 ·rename_i um ud up ut ur uf uw us uc
  split at h
  rotate_left
  ·cases h
  rename_i nm di pu st pr en ei;split at h
  ·rename_i nf lf nw lw ns ls lc hf hw hs hc
   split at h
   ·rename_i F W S eF eW eS
    rw[Zey,Zey,Zkg,Zc0,Zc0,Zc0,Zc0,Zen,Zen,Zen]at h;cases h;have w1:∀{u:U} {sz n:Nat} {l:List U},rdU bk sz u=some (n,l)->u.w=1:=λ{u sz n l} hr=>by
     unfold rdU at hr;split at hr<;>first|rfl|cases hr
    obtain⟨k0,_,rfl,g0,k1,_,rfl,g1,k2,_,rfl,g2,k3,_,rfl,g3,k4,_,rfl,g4,c1,_,rfl,d1,c2,_,rfl,d2,c3,_,rfl,d3,c4,e4,rfl,d4,he⟩:=hd;obtain rfl:=Zqw en g0;have fi:=Zc2 ei (ds:=k1++(k2++(k3++(k4++[])))) ⟨_,_,rfl,g1,_,_,rfl,g2,_,_,rfl,g3,_,_,rfl,g4,rfl⟩;rw[Ydg]at fi;have ee:∀R:List Value,k1++(k2++(k3++(k4++R)))=(k1++(k2++(k3++k4)))++R:=λR=>by simp only[Ybx]
    rw[ee,fi];obtain rfl:e4=[]:=he;have one:∀{u:U} {c:List Value} {sz n:Nat} {l:List U},rdU bk sz u=some (n,l)->denU (qDen K hK) ρ w u c->∃v,c=[v]:=λ{u c sz n l} hr hu=>by
     have:=hu.len;rw[w1 hr]at this;exact Ydr.1 this
    obtain⟨v1,rfl⟩:=one hf d1;obtain⟨v2,rfl⟩:=one hw d2;obtain⟨v3,rfl⟩:=one hs d3;obtain⟨v4,rfl⟩:=one hc d4;obtain⟨p1,k1,ds1,rfl,a1,b1,l1,m1,r1⟩:=Zfv hB d1 hf;obtain⟨p2,k2,ds2,rfl,a2,b2,l2,m2,r2⟩:=Zfv hB d2 hw;obtain⟨p3,k3,ds3,rfl,a3,b3,l3,m3,r3⟩:=Zfv hB d3 hs;obtain⟨p4,k4,ds4,rfl,a4,b4,l4,m4,r4⟩:=Zfv hB d4 hc;obtain rfl:=Zc2 eF l1;obtain rfl:=Zc2 eW l2;obtain⟨ps,hps,rfl⟩:=Zqx hB S.length (Yab _) eS l3;refine⟨rfl,⟨p1,k1,p2,k2,p3,k3,p4,k4,λi=>(ps.getD i (none,0)).1,λi=>(ps.getD i (none,0)).2,pi,ci,pI,cI⟩,rfl,rfl,rfl,rfl,rfl,?_,?_,?_,λi _=>?_⟩
    ·exact Zkh a1 b1 (by simpa using m1) r1
    ·exact Zkh a2 b2 (by simpa using m2) r2
    ·refine⟨a3,(show ns<=140737488351232 by omega),λhn=>?_⟩
     obtain⟨b,off,q1,q2,q3⟩:=r3 hn Zd;refine⟨b,off,q1,q2,λi j hi hj=>?_⟩;replace hi:i<ns:=hi;rw[Ybj];apply q3;have hlen:∀x∈S.zip ps,(x.1.cs x.2.1 x.2.2).toList.length=22:=λx _=>rfl;have hSl:S.length=ns:=by
      have h5:=Zna hlen;rw[h5,List.length_zip,hps,Nat.min_self]at m3;omega
     have hz:(S.zip ps)[i]? = some (S.getD i dS,ps.getD i (none,0)):=List.getElem?_zip_eq_some.2 ⟨by simp[hSl,hi],by simp[hps,hSl,hi]⟩;rw[Zm9 hlen i j hj,hz];rw[Yfq];exact Zvs hj
    ·have hnil:=Zm8 S.length (Yab _) eS
     have e:(S.getD i dS).co=[]:=by
      rw[Yac];cases hg:S[i]? with
      | none=>rfl
      | some s=>exact hnil s (Ych hg)
     show CoatAt w _ _ (S.getD i dS).co;rw[e];exact CoatAt.nil _ _ _
   ·cases h
  ·cases h
 ·cases h
def rowsU (bk:List (Nat×Blk)) (nw:Nat):List U->Option (List (List Int))
 | []=>some []
 | u :: l => match rdU bk 1 u with
   | some (n, us) => if Nat.beq n nw then (match intsU us, rowsU bk nw l with
     | some z,some r=>some (z::r)
     | _,_=>none) else none
   | none=>none
theorem Znb {ρ:Nm} {w:World} {bk:List (Nat×Blk)} (hB:BkOk (qDen K hK) ρ w w bk) {nw:Nat}:∀{us:List U} {R:List (List Int)} {ds:List Value},rowsU bk nw us=some R->denL (qDen K hK) ρ w us ds->
  ∃ps:List (Option Addr×Nat),ps.length=R.length∧ds=ps.map (λx=>Value.slice x.1 nw x.2)∧∀i,i<R.length->RdF w (ps.getD i (none,0)).1 nw (ps.getD i (none,0)).2 (λj=>(R.getD i []).getD j 0)
 | [],R,ds,h,hd=>by cases h;exact⟨[],rfl,hd,λi hi=>by simp at hi⟩
 | u :: l, R, ds, h, hd => by
   unfold rowsU at h;split at h
   ·rename_i n us hr
    split at h
    ·rename_i hn
     obtain rfl:=Ybe hn;split at h
     ·rename_i z r hz hrw
      cases h;obtain⟨c,d,rfl,hu,hd⟩:=hd;obtain⟨v,rfl⟩:∃v,c=[v]:=by
       have:=hu.len;have hw:u.w=1:=by
        unfold rdU at hr;split at hr<;>first|rfl|cases hr
       rw[hw]at this;exact Ydr.1 this
      obtain⟨p,c,ds,rfl,a1,b1,l1,m1,r1⟩:=Zfv hB hu hr;obtain rfl:=Zc2 hz l1;obtain⟨ps,h1,rfl,h3⟩:=Znb hB hrw hd;refine⟨(p,c)::ps,by simp[h1],rfl,λi hi=>?_⟩;cases i with
      | zero =>
        refine⟨a1,Zo,λhn=>?_⟩;obtain⟨b,off,q1,q2,q3⟩:=r1 hn Zd;refine⟨b,off,q1,q2,λj hj=>q3 j _ ?_⟩;have hlt:j<z.length:=by
         rw[Ybt,Yfk]at m1;omega
        simp[hlt]
      | succ i =>
        have:=h3 i (by simpa using hi);simpa using this
     ·cases h
    ·cases h
   ·cases h
def parseO (bk:List (Nat×Blk)) (x:List U):Option Lns:=
 match x with
 | [a0, a1, a2, a3, a4, a5, a6, a7, a8, ui] =>
   match rdU bk 1 ui,rdU bk 2 a6 with
   | some (ni, li), some (nw, _) => (match rowsU bk nw li with
     | some R => llforce R λR => (match parseL bk [a0, a1, a2, a3, a4, a5, a6, a7, a8] (λi j => (R.getD i []).getD j 0) with
       | some a=>if Nat.beq ni a.ns&&Nat.beq nw a.nw&&Nat.beq R.length a.ns then some a else none
       | none=>none)
     | none=>none)
   | _,_=>none
 | _=>none
theorem Zq0 {ρ:Nm} {w:World} {bk:List (Nat×Blk)} (hB:BkOk (qDen K hK) ρ w w bk) {x:List U} {a:Lns} (h:parseO bk x=some a) {cs:List Value} (hd:denL (qDen K hK) ρ w x cs) :
  ∃q:Plc,cs.toArray=a.ovals q∧OptAt w a q:=by
 unfold parseO at h;split at h
 ·rename_i a0 a1 a2 a3 a4 a5 a6 a7 a8 ui
  split at h
  ·rename_i ni li nw lw hi hw6
   split at h
   ·rename_i R hR
    rw[Zh4]at h;split at h
    ·rename_i a' ha
     split at h
     ·rename_i hc
      cases h;rw[Yam,Yam]at hc;obtain⟨⟨c1,c2⟩,c3⟩:=hc;have c1:=Ybe c1;have c2:=Ybe c2;have c3:=Ybe c3;subst c1;subst c2;obtain⟨cs1,cs2,rfl,h9,h1⟩:∃cs1 cs2,cs=cs1++cs2∧denL (qDen K hK) ρ w [a0,a1,a2,a3,a4,a5,a6,a7,a8] cs1∧denL (qDen K hK) ρ w [ui] cs2:=by
       obtain⟨b0,_,rfl,g0,b1,_,rfl,g1,b2,_,rfl,g2,b3,_,rfl,g3,b4,_,rfl,g4,b5,_,rfl,g5,b6,_,rfl,g6,b7,_,rfl,g7,b8,_,rfl,g8,b9,r9,rfl,g9,g10⟩:=hd;exact⟨b0++(b1++(b2++(b3++(b4++(b5++(b6++(b7++(b8++[])))))))),b9++r9,by simp[Ybx],⟨_,_,rfl,g0,_,_,rfl,g1,_,_,rfl,g2,_,_,rfl,g3,_,_,rfl,g4,_,_,rfl,g5,_,_,rfl,g6,_,_,rfl,g7,_,_,rfl,g8,rfl⟩,_,_,rfl,g9,g10⟩
      obtain⟨c,d,rfl,hu,hdd⟩:=h1;obtain rfl:d=[]:=hdd;obtain⟨v,rfl⟩:∃v,c=[v]:=by
       have:=hu.len;have hw:ui.w=1:=by
        unfold rdU at hi;split at hi<;>first|rfl|cases hi
       rw[hw]at this;exact Ydr.1 this
      obtain⟨p,c,ds,rfl,a1,b1,l1,m1,r1⟩:=Zfv hB hu hi;obtain⟨ps,g1,rfl,g3⟩:=Znb hB hR l1;obtain⟨hix,q,q1,q2,q3,q4,q5,q6⟩:=Zqz hB ha h9 p c (λi=>(ps.getD i (none,0)).1) (λi=>(ps.getD i (none,0)).2);refine⟨q,?_,?_⟩
      ·have:(cs1++([Value.slice p a.ns c]++[])).toArray=cs1.toArray.push (Value.slice p a.ns c):=by simp
       rw[this,q5];unfold Lns.lvals Lns.ovals;rw[q1,q2];rfl
      ·refine⟨q6,?_,?_⟩
       ·rw[q1,q2,q3,q4]
        refine⟨a1,Zo,λhn=>?_⟩;obtain⟨b,off,e1,e2,e3⟩:=r1 hn Zd;refine⟨b,off,e1,e2,λi j hi hj=>?_⟩;obtain rfl:j=0:=Zo;rw[Yfk,Yce];apply e3;have hlt:i<ps.length:=Zo;simp[hlt]
       ·intro i hi
        rw[q3,q4,hix];exact g3 i Zo
     ·cases h
    ·cases h
   ·cases h
  ·cases h
 ·cases h
def oCheckRun (args:List SA) (bk:List (Nat×Blk)) (orc:List (Option Bool)):Option (SV×List Prop×List (Option Bool)):=
 match args with
 | [.agg x] => match parseO bk x with
   | some a=>if a.optB then some (.a okV,[],orc) else none
   | none=>none
 | _=>none
def cOCheck (w0:World) (X:Nat->Prop):Ctr (qDen K hK) Tryz.prog w0 X:=.plain 91 oCheckRun<|by
    intro args bk orc v obl orc' hr hobl ρ w vals hfr hb hargs;unfold oCheckRun at hr;split at hr
    ·rename_i x
     split at hr
     ·rename_i a ha
      split at hr
      ·rename_i hok
       cases hr;obtain⟨v1,r1,rfl,⟨cs,rfl,h1⟩,h3⟩:=hargs;obtain rfl:r1=[]:=h3;obtain⟨q,q5,q6⟩:=Zq0 hb ha h1;rw[q5];refine(Zqy a (Lns.optB_ok hok) q w q6).mono ?_;rintro e w' ⟨rfl,hbl⟩;exact⟨_,rfl,⟨rfl,rfl⟩,hbl⟩
      ·cases hr
     ·cases hr
    ·cases hr
end
end Go.Proofs.W
namespace Go.Mono
open Go.RowKit
def Lns.vvals (a:Lns) (q:Plc) (k:Int):Array Value:=
 #[.string a.nm,.int .i64 a.di,.int .i64 a.pu,.int .i64 a.st,.int .i64 a.pr,.slice q.pf a.nf q.cf,.slice q.pw a.nw q.cw,.slice q.ps a.ns q.cs,.slice q.pc 0 q.cc,.slice q.pi a.ns q.ci,.int .i64 k]
def Lns.nI (a:Lns) (k s:Nat):Rat:=Rat.divInt (a.ix s k*a.sgn (s+1)) 10000000
def Lns.nB (a:Lns) (k s:Nat):Rat:=if s=0 then Rat.divInt 1 1 else a.nI k (s-1)
theorem Ztl {n g:Int} (h1:10000000<=n) (h2:n<=40000000) (hg:g=1∨g = -1) : -40000000<=n*g∧n*g<=40000000:=by
 rcases hg with rfl|rfl<;>omega
end Go.Mono
namespace Go.Proofs.W
open Go.RowKit Go.Mono
theorem Ziz (a:Lns) (ha:a.opt) (q:Plc) (hchk:Chk a q) (s k:Nat) (w:World) (h:OptAt w a q) (s1:s<a.ns) (k1:k<a.nw) :
  Calls Tryz.prog 66 #[.agg (a.vvals q k),.int .i64 (s:Int)] w λe w'=>∃C,e=.returned (.agg C)∧QV w' (.agg C) (a.nI k s)∧Below w.heap.size w w':=by
 have hbe:=λW (hW:Below w.heap.size w W)=>Zq1 a q hchk s k W (h.below hW) s1 k1;have hsi:=λW (hW:Below w.heap.size w W)=>Zvv a q hchk s W (h.below hW) s1 Zo ha.base.ns.2;obtain⟨i1,i2⟩:=ha.ir s k s1 k1;have hsg:=a.sgn_cases (s+1);obtain⟨g1,g2⟩:=Ztl i1 i2 hsg;have hwr:IntKind.i64.wrap (a.ix s k*a.sgn (s+1))=a.ix s k*a.sgn (s+1):=by rw[Ybi];omega
 have hpo:=λW=>Zez (a.ix s k*a.sgn (s+1)) 10000000 Zd W Zo Zo Zd Zd;rw[show Rat.divInt (a.ix s k*a.sgn (s+1)) 10000000=a.nI k s from rfl]at hpo;have s0:¬((s:Int)<0):=Zo;simp only[Lns.ovals]at hbe hsi;simp only[Lns.vvals];generalize a.nI k s=rr at *;generalize a.ix s k=n at *;generalize a.sgn (s+1)=g at *;clear hchk h ha hsg i1 i2;go_enter Tryz.func66,Tryz.ntmps66
 go_wp2_with fail
 refine Zbi λW hB hs bV bR=>?_;refine(hbe W hB).mono ?_;rintro e W1 ⟨rfl,hb⟩;replace hB:=Zaa hB hb;replace bV:=bV.below hb;replace bR:=bR.below hb;have cV:=bV.cell;have lV:=bV.lt;clear hb;go_wp2_with first|(go_at_call 108;refine(Znd _ _).mono ?_;rintro e w5 ⟨rfl,h5⟩;rw[h5];clear h5 w5)
 refine(hsi W1 hB).mono ?_;rintro e W2 ⟨rfl,hb⟩;replace hB:=Zaa hB hb;replace bR:=bR.below hb;clear hb cV lV bV;go_wp2_with first|(go_at_call 108;refine(Znd _ _).mono ?_;rintro e w5 ⟨rfl,h5⟩;rw[h5];clear h5 w5)
 refine(hpo W2).mono ?_;rintro e W3 ⟨C,rfl,hr,hb⟩;obtain⟨C',hC',hC,h1⟩:=hr.cells;cases hC';have hi:(Tryz.prog.info? 54).map (·.size)=some C.size:=by rw[hC];exact Zan
 replace hB:=Zaa hB hb;replace bR:=bR.below hb;have lR:=bR.lt;go_wp2_with (refine Zab rfl 54 (.tmp 4) (.tmp 27) rfl (w.heap.size+1) 0 54 _ C C rfl rfl bR hi (Ybl (by rw[hC];rfl)) h1 (Zah (by rw[hC];rfl)) ?_;intro W4 hk4 b4)
 refine bodyPost_ret (b4.results rfl _ _ rfl Tryz.underlying54 rfl hi) rfl ?_;exact⟨C,rfl,hr.ext (hk4.ext bR Zd),hk4.below hB Zo hB.size⟩
theorem Zq2 (V:Array Value) (hV:V.size=11) (w:World) :
  Calls Tryz.prog 66 #[.agg V,.int .i64 (-1)] w λe w'=>∃C,e=.returned (.agg C)∧QV w' (.agg C) (Rat.divInt 1 1)∧Below w.heap.size w w':=by
 have hpo:=λW=>Zez 1 1 Zd W Zd Zd Zd Zd;go_enter Tryz.func66,Tryz.ntmps66
 go_wp2_with fail
 refine Zbi λW hB hs bV bR=>?_;refine(hpo W).mono ?_;rintro e W3 ⟨C,rfl,hr,hb⟩;obtain⟨C',hC',hC,h1⟩:=hr.cells;cases hC';have hi:(Tryz.prog.info? 54).map (·.size)=some C.size:=by rw[hC];exact Zan
 replace hB:=Zaa hB hb;replace bR:=bR.below hb;have lR:=bR.lt;go_wp2_with (refine Zab rfl 54 (.tmp 4) (.tmp 8) rfl (w.heap.size+1) 0 54 _ C C rfl rfl bR hi (Ybl (by rw[hC];rfl)) h1 (Zah (by rw[hC];rfl)) ?_;intro W4 hk4 b4)
 refine bodyPost_ret (b4.results rfl _ _ rfl Tryz.underlying54 rfl hi) rfl ?_;exact⟨C,rfl,hr.ext (hk4.ext bR Zd),hk4.below hB Zo hB.size⟩
end Go.Proofs.W
namespace Go.Mono
open Go.RowKit
def QtV (m:Nat) (w:World) (v:Value) (q:Rat):Prop:=∃s p n c s' p' n' c',v=.agg #[.bool s,.slice p n c,.bool s',.slice p' n' c']∧LgV m w (.agg #[.bool s,.slice p n c]) q.num∧LgV m w (.agg #[.bool s',.slice p' n' c']) q.den
theorem QtV.ext {m:Nat} {w w':World} {v:Value} {q:Rat} (h:QtV m w v q) (hx:Ext w w'):QtV m w' v q:=by
 obtain⟨s,p,n,c,s',p',n',c',hv,h1,h2⟩:=h;exact⟨s,p,n,c,s',p',n',c',hv,h1.ext hx,h2.ext hx⟩
theorem QtV.below {m:Nat} {w w':World} {v:Value} {q:Rat} (h:QtV m w v q) (hb:Below w.heap.size w w'):QtV m w' v q:=h.ext (.of_below hb)
theorem QtV.mono {m m':Nat} {w:World} {v:Value} {q:Rat} (h:QtV m w v q) (hm:m<=m'):QtV m' w v q:=by
 obtain⟨s,p,n,c,s',p',n',c',hv,h1,h2⟩:=h;exact⟨s,p,n,c,s',p',n',c',hv,h1.mono hm,h2.mono hm⟩
theorem LgV.sz {m:Nat} {w:World} {s:Bool} {p:Option Addr} {n c:Nat} {z:Int} (h:LgV m w (.agg #[.bool s,.slice p n c]) z):s=decide (z<0)∧Sz m w (.slice p n c) z.natAbs:=by
 obtain⟨p',n',c',f,hv,h1,h2,h3,h4⟩:=h;simp only[Value.agg.injEq,Array.mk.injEq,List.cons.injEq,Value.bool.injEq,Ydm,and_true]at hv;obtain⟨rfl,rfl,rfl,rfl⟩:=hv;exact⟨rfl,n,f,h1,h2,h3,h4⟩
theorem LgV.of_sz {m:Nat} {w:World} {s:Bool} {p:Option Addr} {n c:Nat} {z:Int} (hs:s=decide (z<0)) (h:Sz m w (.slice p n c) z.natAbs):LgV m w (.agg #[.bool s,.slice p n c]) z:=by
 obtain⟨n',f,h1,h2,h3,h4,rfl⟩:=h.sl;exact⟨p,_,c,f,by rw[hs],h1,h2,h3,h4⟩
theorem QtV.qv {w:World} {v:Value} {q:Rat} (h:QtV 600 w v q):QV w v q:=by
 obtain⟨s,p,n,c,s',p',n',c',rfl,h1,h2⟩:=h;obtain⟨rfl,z1⟩:=h1.sz;obtain⟨rfl,z2⟩:=h2.sz;refine⟨p,n,c,p',n',c',?_,z1,by simpa using z2⟩;rw[decide_eq_false (by omega:¬(q.den:Int)<0)]
theorem QV.qt {w:World} {v:Value} {q:Rat} (h:QV w v q):QtV 600 w v q:=by
 obtain⟨p,n,c,p',n',c',rfl,z1,z2⟩:=h;exact⟨_,p,n,c,_,p',n',c',rfl,LgV.of_sz rfl z1,LgV.of_sz (by rw[decide_eq_false Zo]) (by simpa using z2)⟩
end Go.Mono
namespace Go.Proofs.W
open Go.RowKit Go.Mono
theorem Zbx (w:World):(Instr.alloc 52 true (.tuple #[])).run Tryz.prog w=.ok (.pointer (some ⟨w.heap.size,0,none⟩)) (w.alloc (.cells #[.bool false,.slice none 0 0] 52)):=by go_simp
theorem Zrc (a b:Bool) (p q:Option Addr) (n m c d:Nat):(#[.bool a,.slice p n c,.bool b,.slice q m d]:Array Value).all (·.oneCell')=true:=by simp[Value.oneCell']
theorem Zc3 {m:Nat} {v1 v2:Value} {n d:Int} (w:World) (h1:LgV m w v1 n) (h2:LgV m w v2 d) (hd:0<d) (hm:m<=100000) :
  Calls Tryz.prog 151 #[v1,v2] w λe w'=>∃v,e=.returned v∧QtV m w' v (Rat.divInt n d)∧Below w.heap.size w w':=by
 have hg0:0<Int.gcd n d:=Int.gcd_pos_of_ne_zero_right n Zo;have hnum:(Rat.divInt n d).num=n.tdiv (Int.gcd n d):=by
  rw[Rat.num_divInt,Yeg hd,Yga,Int.gcd_comm d n];exact(Int.tdiv_eq_ediv_of_dvd (Int.gcd_dvd_left ..)).symm
 have hden:((Rat.divInt n d).den:Int)=d.tdiv (Int.gcd n d):=by
  rw[Rat.den_divInt,if_neg Zo,Int.gcd_comm d n,Int.tdiv_eq_ediv_of_dvd (Int.gcd_dvd_right ..)];have:(d.natAbs:Int)=d:=Zo;rw[Int.natCast_ediv,this]
 have hcm:=λ(X:World) (hX:Ext w X)=>Zg0 X (h1.ext hX) (h2.ext hX) hm;have hp1:=λ(X:World) (g:Value) (hX:Ext w X) (h:LgV m X g (Int.gcd n d))=>Zcq X (h1.ext hX) h Zo hm hm;have hp2:=λ(X:World) (g:Value) (hX:Ext w X) (h:LgV m X g (Int.gcd n d))=>Zcq X (h2.ext hX) h Zo hm hm;obtain⟨s1,p1,n1,c1,rfl⟩:=h1.parts;have hs2:∃p2 n2 c2,v2=.agg #[.bool false,.slice p2 n2 c2]:=by
  obtain⟨p,k,c,f,rfl,_⟩:=h2;exact⟨p,k,c,by rw[decide_eq_false Zo]⟩
 obtain⟨p2,n2,c2,rfl⟩:=hs2;go_enter Tryz.func151,Tryz.ntmps151
 go_wp2_with fail
 refine Zby λW hB hs b0 b1 b2=>?_;refine(hcm W (.of_below hB)).mono ?_;rintro e W2 ⟨vg,rfl,hg,hbb⟩;obtain⟨sg,pg,ng,cg,rfl⟩:=hg.parts;replace b0:=b0.below hbb;replace b1:=b1.below hbb;replace b2:=b2.below hbb;have hB2:=Zaa hB hbb;clear hcm hbb hB;go_wp2_with first|(refine Zec 52 5 _ #[.bool sg,.slice pg ng cg] _ rfl rfl rfl rfl rfl rfl Zbx (by as_aux_lemma=>(intro _;kernel_rfl)) (by as_aux_lemma=>(intro _;kernel_rfl)) Zae rfl (Zas _ _ _ _) ?_;intro W3 B5 _ hB3 b5;replace b0:=b0.below hB3;replace b1:=b1.below hB3;replace b2:=b2.below hB3)|(refine Zac rfl 52 (.tmp 2) rfl w.heap.size Zx 52 #[.bool s1,.slice p1 n1 c1] b0 _ Tryz.underlying52 rfl Zae ?_)|(refine Zac rfl 52 (.tmp 5) rfl B5 Zx 52 #[.bool sg,.slice pg ng cg] b5 _ Tryz.underlying52 rfl Zae ?_)
 refine(hp1 W3 _ (.of_below (Zaa hB2 hB3)) (hg.below hB3)).mono ?_;rintro e W4 ⟨vx,vr,rfl,hx,hr,hb4⟩;obtain⟨sx,px,nx,cx,rfl⟩:=hx.parts;obtain⟨sr,pr,nr,cr,rfl⟩:=hr.parts;replace b1:=b1.below hb4;replace b2:=b2.below hb4;replace b5:=b5.below hb4;have hB4:=Zaa (Zaa hB2 hB3) hb4;have hg4:=(hg.below hB3).below hb4;clear hp1 hg hb4 hB3 b0 hB2;go_wp2_with first|(refine Zcb 52 6 7 _ _ #[.bool sx,.slice px nx cx] #[.bool sr,.slice pr nr cr] _ rfl rfl rfl rfl rfl rfl rfl rfl rfl rfl rfl rfl Zbx (by as_aux_lemma=>(intro _ _;kernel_rfl)) (by as_aux_lemma=>(intro _ _;kernel_rfl)) (by as_aux_lemma=>(intro _ _;kernel_rfl)) (by as_aux_lemma=>(intro _ _;kernel_rfl)) Zae rfl rfl (Zas _ _ _ _) (Zas _ _ _ _) ?_;intro W5 B6 B7 _ _ _ hB5 b6 b7;replace b1:=b1.below hB5;replace b2:=b2.below hB5;replace b5:=b5.below hB5)|(refine Zac rfl 52 (.tmp 3) rfl (w.heap.size+1) Zx 52 #[.bool false,.slice p2 n2 c2] b1 _ Tryz.underlying52 rfl Zae ?_)|(refine Zac rfl 52 (.tmp 5) rfl B5 Zx 52 #[.bool sg,.slice pg ng cg] b5 _ Tryz.underlying52 rfl Zae ?_)
 refine(hp2 W5 _ (.of_below (Zaa hB4 hB5)) (hg4.below hB5)).mono ?_;rintro e W6 ⟨vy,vr2,rfl,hy,hr2,hb6⟩;obtain⟨sy,py,ny,cy,rfl⟩:=hy.parts;obtain⟨sr2,pr2,nr2,cr2,rfl⟩:=hr2.parts;replace b2:=b2.below hb6;replace b6:=b6.below hb6;have hB6:=Zaa (Zaa hB4 hB5) hb6;have hx6:=(hx.below hB5).below hb6;clear hp2 hg4 hb6 hB5 hB4 b1 b5 b7 hx hr hr2;rw[<-hnum]at hx6;rw[<-hden]at hy;clear hnum hden h1 h2 hg0;go_wp2_with first|(refine Zac rfl 52 (.tmp 6) rfl B6 Zx 52 #[.bool sx,.slice px nx cx] b6 _ Tryz.underlying52 rfl Zae ?_)|(refine Zac rfl 52 (.tmp 8) rfl B8 Zx 52 #[.bool sy,.slice py ny cy] b8 _ Tryz.underlying52 rfl Zae ?_)|(refine Zak rfl 54 _ rfl #[.bool sx,.slice px nx cx,.bool sy,.slice py ny cy] Zx ?_)|(refine Zab rfl 54 (.tmp 4) _ rfl (w.heap.size+1+1) 0 54 _ #[.bool sx,.slice px nx cx,.bool sy,.slice py ny cy] #[.bool sx,.slice px nx cx,.bool sy,.slice py ny cy] rfl rfl b2 Zan (Yaa rfl) (Zrc _ _ _ _ _ _ _ _) (Zah rfl) ?_;intro W8 hk b4)|(refine Zcb 52 8 9 _ _ #[.bool sy,.slice py ny cy] #[.bool sr2,.slice pr2 nr2 cr2] _ rfl rfl rfl rfl rfl rfl rfl rfl rfl rfl rfl rfl Zbx (by as_aux_lemma=>(intro _ _;kernel_rfl)) (by as_aux_lemma=>(intro _ _;kernel_rfl)) (by as_aux_lemma=>(intro _ _;kernel_rfl)) (by as_aux_lemma=>(intro _ _;kernel_rfl)) Zae rfl rfl (Zas _ _ _ _) (Zas _ _ _ _) ?_;intro W7 B8 B9 _ _ _ hB7 b8 b9;replace b2:=b2.below hB7;replace b6:=b6.below hB7)
 have hB8:=Zaa hB6 hB7;have hb8:=hk.below hB8 Zo hB8.size;have he:=hk.ext b2 Zd;refine bodyPost_ret (b4.results rfl _ _ rfl Tryz.underlying54 rfl Zan) rfl ⟨_,rfl,⟨_,_,_,_,_,_,_,_,rfl,(hx6.below hB7).ext he,(hy.below hB7).ext he⟩,hb8⟩
end Go.Proofs.W
