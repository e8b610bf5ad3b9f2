/- The references of chapters 13 and 17 over any valid optics. Part 1 of 5. No condition beside the row. -/
import Derived.Test.YtpfpiecljfimjaaGreatDoorA16
import Derived.Test.YtpfpiecljfimjaaGreatDoorA17
import Derived.Test.YtpfpiecljfimjaaGreatDoorA21
import Derived.Test.YtpfpiecljfimjaaGreatDoorA23
import Derived.Test.YtpfpiecljfimjaaGreatDoorA24
import Derived.Test.YtpfpiecljfimjaaGreatDoorA26
import Derived.Test.YtpfpiecljfimjaaGreatDoorD02
import Derived.Test.YtpfpiecljfimjaaGreatDoorD06
import Derived.Test.YtpfpiecljfimjaaGreatDoorD07
set_option linter.unusedVariables false
set_option linter.unusedSimpArgs false
set_option maxRecDepth 100000
set_option maxHeartbeats 4000000
namespace Go.Proofs.W
open Go.RowKit Go.Mono
section
open Go.Ex
def refB (a:Lns) (k:Nat) (s:Int):Rat:=if s<0 then Rat.divInt 1 1 else a.nI k s.toNat
def rStp (a:Lns) (k:Nat):Nat->Rat×Rat->Rat×Rat
 | 0,r=>(r.1,r.2-r.1*a.pow k 0)
 | s+1,r=>(r.1+Rat.divInt (a.S s).thick 1000000*r.2/refB a k (s:Int),r.2-(r.1+Rat.divInt (a.S s).thick 1000000*r.2/refB a k (s:Int))*a.pow k (s+1))
def rTr (a:Lns) (k:Nat) (y u:Rat):Nat->Rat×Rat
 | 0=>(y,u)
 | s+1=>rStp a k s (rTr a k y u s)
theorem Zjw (a:Lns) (k s:Nat):refB a k (s:Int)=a.nI k s:=by
 unfold refB;rw[if_neg Zo,Ycb]
theorem Zmz (a:Lns) (k:Nat) (r:Rat×Rat):∀s,rStp a k s r=a.stp k s r
 | 0 => by
   show(r.1,r.2-r.1*a.pow k 0)=(r.1,r.2-Rat.divInt 1 1*(r.1*a.pow k 0));rw[show Rat.divInt 1 1=1 by decide +kernel,Rat.one_mul]
 | s + 1 => by
   show(r.1+Rat.divInt (a.S s).thick 1000000*r.2/refB a k (s:Int),r.2-(r.1+Rat.divInt (a.S s).thick 1000000*r.2/refB a k (s:Int))*a.pow k (s+1))=(r.1+(Rat.divInt (1*(a.S s).thick) 1000000*r.2)/a.nI k s,r.2-Rat.divInt 1 1*((r.1+(Rat.divInt (1*(a.S s).thick) 1000000*r.2)/a.nI k s)*a.pow k (s+1)));rw[show Rat.divInt 1 1=1 by decide +kernel,Rat.one_mul,Yga,Zjw]
theorem Ztc (a:Lns) (k:Nat) (y u:Rat):∀s,rTr a k y u s=a.tr k y u s
 | 0=>rfl
 | s + 1 => by
   unfold rTr;rw[Ztc a k y u s,Zmz];rfl
theorem TrFits.r0 {a:Lns} {k:Nat} {y u:Rat} (h:TrFits a k y u) (hn:0<a.ns):Fits (y*a.pow k 0)∧Fits (u-y*a.pow k 0):=by
 have e:a.tr k y u 1=rStp a k 0 (y,u):=(Zmz a k (y,u) 0).symm;have h1:=h.b1 0 hn;have h3:=h.b3 0 hn;rw[e]at h1 h3;exact⟨h1,h3⟩
theorem TrFits.rs {a:Lns} {k:Nat} {y u:Rat} (h:TrFits a k y u) {s:Nat} (hs:s+1<a.ns) :
  Fits (Rat.divInt (a.S s).thick 1000000*(rTr a k y u (s+1)).2)∧((refB a k (s:Int)).num≠0)∧Fits (Rat.divInt (a.S s).thick 1000000*(rTr a k y u (s+1)).2/refB a k (s:Int))∧Fits (rTr a k y u (s+2)).1∧Fits ((rTr a k y u (s+2)).1*a.pow k (s+1))∧Fits (rTr a k y u (s+2)).2:=by
 rw[Ztc,Ztc,Zjw];have m1:=h.m1 s hs;have m2:=h.m2 s hs;have m3:=h.m3 s hs;rw[Yga]at m1 m2 m3;refine⟨m1,h.num s Zo,m2,?_,h.b1 (s+1) hs,h.b3 (s+1) hs⟩;have e:a.tr k y u (s+2)=rStp a k (s+1) (a.tr k y u (s+1)):=(Zmz a k (a.tr k y u (s+1)) (s+1)).symm;rw[e];show Fits ((a.tr k y u (s+1)).1+Rat.divInt (a.S s).thick 1000000*(a.tr k y u (s+1)).2/refB a k (s:Int));rw[Zjw];exact m3
end
theorem Zln (n:Nat) (p p':Option Addr) (c c':Nat) (f g:Nat->Int) (hfg:∀i,i<n->f i=g i) (w:World) (h1:RdF w p n c f) (h2:RdF w p' n c' g) :
  Calls Tryz.prog 171 #[.slice p n c,.slice p' n c'] w λe w'=>e=.returned (.bool true)∧Below w.heap.size w w':=by
 obtain⟨hc,hn,hx⟩:=h1;obtain⟨hc',hn',hx'⟩:=h2;go_enter Tryz.func171,Tryz.ntmps171
 go_wp2
 go_loopw [5] (λx wr=>∃i:Nat,i<=n∧x=.int .i64 (i:Int)∧Below w.heap.size w wr) (λx _=>(n-intOf x).toNat)
 case atStart=>exact⟨0,Yat _,rfl,Yae _ _⟩
 case round=>
  obtain⟨i,hi,rfl,hB⟩:=hrel;by_cases hin:i<n
  ·have hi':(i:Int)<n:=by omega
   obtain⟨b,off,rfl,hb,hce⟩:=hx Zo;obtain⟨b',off',rfl,hb',hce'⟩:=hx' Zo;have k1:=(hB.cell (p:=⟨b,off+i,none⟩) hb).trans (hce i hin);have k2:=(hB.cell (p:=⟨b',off'+i,none⟩) hb').trans (hce' i hin);rw[<-hfg i hin]at k2;have l1:=Yaf hb hB.size;have l2:=Yaf hb' hB.size;clear hx hx' hce hce' hfg;generalize f i=z at *;have hz:(z != z)=false:=Zs;go_wp2
   go_quiet (fail)
   go_wp2
   go_roundw
   case rel=>exact⟨i+1,Zo,Zs,below_drewN hB _⟩
   case measure=>simp[intOf];omega
  ·obtain rfl:i=n:=by omega
   go_wp2
   go_ret
   exact⟨rfl,hB⟩
end Go.Proofs.W
namespace Go.Ex
open Go.RowKit Go.Mono
section
def closedU:U->Bool
 | .val _=>true
 | .quo _=>true
 | .sym _=>true
 | .sml _ _=>true
 | _=>false
def closedL:List U->Bool
 | []=>true
 | u::l=>closedU u&&closedL l
def closedA:SA->Bool
 | .one u=>closedU u
 | .agg l=>closedL l
def closedAs:List SA->Bool
 | []=>true
 | x::l=>closedA x&&closedAs l
def closedV:SV->Bool
 | .a x=>closedA x
 | .tup l=>closedAs l
 | .no=>true
section
variable {D:Den} {ρ ρ':Nm} {w:World}
theorem Zhr {u:U} {cs:List Value} (hc:closedU u=true) (h:denU D ρ w u cs):denU D ρ' w u cs:=by
 cases u<;>first|exact h|cases hc
theorem Zhs:∀{l:List U} {cs:List Value},closedL l=true->denL D ρ w l cs->denL D ρ' w l cs
 | [],_,_,h=>h
 | u :: l, _, hc, ⟨c, d, e, h1, h2⟩ => by
   have hc:=Bool.and_eq_true_iff.1 hc;exact⟨c,d,e,Zhr hc.1 h1,Zhs hc.2 h2⟩
theorem Zht:∀{x:SA} {v:Value},closedA x=true->denA D ρ w x v->denA D ρ' w x v
 | .one _,_,hc,h=>Zhr hc h
 | .agg _,_,hc,⟨cs,e,h⟩=>⟨cs,e,Zhs hc h⟩
theorem Zdu:∀{l:List SA} {vs:List Value},closedAs l=true->denAs D ρ w l vs->denAs D ρ' w l vs
 | [],_,_,h=>h
 | x :: l, _, hc, ⟨v, r, e, h1, h2⟩ => by
   have hc:=Bool.and_eq_true_iff.1 hc;exact⟨v,r,e,Zht hc.1 h1,Zdu hc.2 h2⟩
theorem Zcd:∀{x:SV} {v:Value},closedV x=true->denV D ρ w x v->denV D ρ' w x v
 | .a _,_,hc,h=>Zht hc h
 | .tup _,_,hc,⟨vs,e,h⟩=>⟨vs,e,Zdu hc h⟩
 | .no,_,_,_=>trivial
end
theorem AllP.of:∀{l:List Prop},(∀p∈l,p)->AllP l
 | [],_=>trivial
 | p::r,h=>⟨h p (Ycl ..),AllP.of λx hx=>h x (Ybs _ hx)⟩
end
end Go.Ex
namespace Go.Proofs.W
open Go.RowKit Go.Mono
section
open Go.Ex
abbrev DO:Den:=qDen kO kO1
def cChkN {a:Lns} (ha:a.opt) {q:Plc} {ns:Nat} (hns:a.ns=ns) {w0:World} (ho:OptAt w0 a q):Ctr DO Tryz.prog w0 (λ_=>False):=.plain 78 (λargs bk orc=>match args with
    | [.agg l]=>(seesO a q ns l bk).map λL=>(.a okV,L,orc)
    | _=>none)<|by
 intro args bk orc v obl orc' hr hobl ρ w vals hfr hb hargs;split at hr
 ·rename_i l
  obtain⟨L,hL,e⟩:=Yad.1 hr;cases e;obtain⟨v1,r1,rfl,⟨cs1,rfl,d1⟩,h3⟩:=hargs;obtain rfl:r1=[]:=h3;obtain⟨q',rfl,ho',_⟩:=Zb4 hns (by have:=ha.base.ns.1;omega) (ho.below hfr.below) hL hobl hb d1;refine(Zmc a ha q' w ho').mono ?_;rintro e w' ⟨rfl,hbl⟩;exact⟨_,rfl,⟨rfl,rfl⟩,hbl⟩
 ·cases hr
end
theorem Zp0 {m:Nat} {v1:Value} {a:Rat} (w:World) (h1:QtV m w v1 a) (hm:m<=100000) :
  Calls Tryz.prog 144 #[v1] w λe w'=>∃v,e=.returned v∧QtV m w' v (-a)∧Below w.heap.size w w':=by
 obtain⟨s1,p1,n1,c1,t1,q1,m1,d1,rfl,x1,x2⟩:=h1;go_enter Tryz.func144,Tryz.ntmps144
 go_wp2_with fail
 refine Zd3 λW hB hs b0 bO=>?_;replace x1:=x1.below hB;replace x2:=x2.below hB;refine wp_region_held_drew (S:=λw'=>(∀b o,b<W.heap.size->b≠(w.heap.size+1)->w'.cell? ⟨b,o,none⟩=W.cell? ⟨b,o,none⟩)∧KeepBut (w.heap.size+1) W.heap.size W w') Zx (KeepBut.S (KeepBut.refl _ _).drew) (λhHeld=>?_);have hBel:Below W.heap.size W W.drew:=(Yae _ _).drew;refine tk 0 (some 3) ?_;refine tl 1 (some 4) rfl (.agg #[.bool s1,.slice p1 n1 c1]) (Zai 49 _ rfl w.heap.size 0 rfl  #[.bool s1,.slice p1 n1 c1] (λw h=>(h.2.box b0 b0.lt Zo).part 0 #[.bool s1,.slice p1 n1 c1] rfl) _ Tryz.underlying49 rfl Zae) ?_;refine tk 3 (some 6) ?_;refine tl 4 (some 7) rfl (.agg #[.bool t1,.slice q1 m1 d1]) (Zai 49 _ rfl w.heap.size 2 rfl  #[.bool t1,.slice q1 m1 d1] (λw h=>(h.2.box b0 b0.lt Zo).part 2 #[.bool t1,.slice q1 m1 d1] rfl) _ Tryz.underlying49 rfl Zae) ?_;refine Mono.stc 2 (some 5) (Zfo _ (x1.ext (.of_below hBel)) hm) (λe Wn2 hR=>?_);obtain⟨V2,rfl,R2,hb2⟩:=hR;obtain⟨s3,p3,n3,c3,rfl⟩:=R2.parts;replace hBel:=Zaa hBel hb2;refine⟨(KeepBut.S (hHeld.2.call hb2)),λhHeld=>Mono.pt ?_⟩;refine tl 5 (some 8) rfl (.agg #[.bool s3,.slice p3 n3 c3,.bool t1,.slice q1 m1 d1]) (Zdz 51 _ rfl #[.bool s3,.slice p3 n3 c3,.bool t1,.slice q1 m1 d1] Zx) ?_;have RQ:QtV m Wn2 (.agg #[.bool s3,.slice p3 n3 c3,.bool t1,.slice q1 m1 d1]) (-a):=⟨_,_,_,_,_,_,_,_,rfl,R2,x2.ext (.of_below hBel)⟩
 have oC:=Zk3 s3 t1 p3 q1 n3 m1 c3 d1;refine Zb5 (w.heap.size+1) 51 6 rfl rfl rfl rfl 0 #[.bool s3,.slice p3 n3 c3,.bool t1,.slice q1 m1 d1] _ #[.bool s3,.slice p3 n3 c3,.bool t1,.slice q1 m1 d1] Zx (λw' i u hS=>KeepBut.S (hS.2.set i u)) rfl rfl (bO.below hBel) hHeld Zah (Yaa rfl) oC (Zaf rfl) (λWs hks bs hHeld=>?_);refine wpAnyH_done Zx ?_ _;have xS:=hks.ext (bO.below hBel) Zd;go_wp2
 refine bodyPost_ret (bs.results rfl _ _ rfl Tryz.underlying51 rfl Zah) rfl ?_;exact⟨_,rfl,RQ.ext xS,hHeld.2.below hB Zo hB.size⟩
end Go.Proofs.W
namespace Go.Ex
open Go.RowKit Go.Mono
def Ctr.or {D:Den} {P:Program} {w0:World} {X:Nat->Prop} (p q:Ctr D P w0 X) (h:p.f=q.f):Ctr D P w0 X where
 f:=p.f
 run:=λargs bk c orc=>match p.run args bk c orc with
  | some r=>some r
  | none=>q.run args bk c orc
 cc:=λargs bk c orc r hr=>by
  split at hr
  ·rename_i r' h'
   cases hr;exact p.cc _ _ _ _ _ h'
  ·exact q.cc _ _ _ _ _ hr
 sound:=λargs bk c orc r hr=>by
  split at hr
  ·rename_i r' h'
   cases hr;exact p.sound _ _ _ _ _ h'
  ·rw[h]
   exact q.sound _ _ _ _ _ hr
end Go.Ex
namespace Go.Mono
def Lns.lst (a:Lns):List Srf:=(List.range a.ns).map a.S
theorem Lns.lst_len (a:Lns):a.lst.length=a.ns:=by simp[Lns.lst]
end Go.Mono
namespace Go.Proofs.W
open Go.RowKit Go.Mono
theorem Zlo (a:Lns) (i:Nat) (hi:i<a.ns):sAt a.lst i=a.S i:=by
 unfold sAt Lns.lst;simp[Yac,hi]
def lenL (a:Lns):Len:={nm:=a.nm,di:=a.di,pu:=a.pu,st:=a.st.toNat,pr:=a.pr,nf:=a.nf,X:=a.X,Y:=a.Y,nw:=a.nw,L:=a.L,G:=a.W,l:=a.lst,nc:=0,nms:=λ_=>{data:=#[]},css:=λ_=>[]}
def lenQ (q:Plc):LenP:={pf:=q.pf,cf:=q.cf,pw:=q.pw,cw:=q.cw,p:=q.ps,c:=q.cs,cp:=q.cp,cl:=q.cl,pc:=q.pc,cc:=q.cc,pp:=λ_=>none,cq:=λ_=>0}
theorem Zxf {a:Lns} (h:a.ok):LenOk (lenL a):=by
 have h1:=h.ns;have h2:=h.st;have hl:=a.lst_len;refine⟨h.name,h.di,h.pu,h.nf,h.fr,h.fd,h.nw,h.pr,h.wl,h.ww,h.wm,?_,λs hs=>?_,?_,?_,?_,⟨Yat _,λi hi=>?_,λi k _ hi=>?_,λi hi=>?_,λi hi=>?_,λi hi=>?_⟩⟩
 ·show 2<=a.lst.length∧a.lst.length<=16
  omega
 ·obtain⟨i,hi,rfl⟩:=Ydl.1 (show s∈(List.range a.ns).map a.S from hs)
  exact h.sok i (Yeu.1 hi)
 ·show a.st.toNat+2<=a.lst.length
  omega
 ·show(sAt a.lst a.st.toNat).kind≠3
  rw[Zlo a _ Zo];exact h.stop
 ·show(sAt a.lst (a.lst.length-1)).kind=1∧(sAt a.lst (a.lst.length-1)).glass=_∧(sAt a.lst (a.lst.length-1)).thick=0∧(sAt a.lst (a.lst.length-1)).order=0∧(sAt a.lst (a.lst.length-1)).co=[]
  rw[hl,Zlo a (a.ns-1) Zo];exact h.image
 ·exact absurd hi (Nat.not_lt_zero _)
 ·exact absurd hi (Nat.not_lt_zero _)
 ·exact absurd hi (Nat.not_lt_zero _)
 ·exact absurd hi (Nat.not_lt_zero _)
 ·exact absurd hi (Nat.not_lt_zero _)
theorem Zhq {a:Lns} (h:a.ok) {q:Plc} {w:World} (hf:LnsAt w a q) (hs:SrfsAt w q.ps q.cs a.lst q.cp q.cl) :
  Calls Tryz.prog 72 #[.agg (lcs a.nm a.di a.pu a.st a.pr q.pf a.nf q.cf q.pw a.nw q.cw q.ps a.ns q.cs q.pc 0 q.cc)] w λe w'=>e=.returned (.bool true)∧Below w.heap.size w w':=by
 have h2:=h.st;have e:lenC (lenL a) (lenQ q)=lcs a.nm a.di a.pu a.st a.pr q.pf a.nf q.cf q.pw a.nw q.cw q.ps a.ns q.cs q.pc 0 q.cc:=by
  show lcs a.nm a.di a.pu ((a.st.toNat:Nat):Int) a.pr q.pf a.nf q.cf q.pw a.nw q.cw q.ps a.lst.length q.cs q.pc 0 q.cc=_;rw[a.lst_len,Int.toNat_of_nonneg h2.1]
 rw[<-e];exact Zec (lenL a) (Zxf h) (lenQ q) w ⟨hf.fields,hf.waves,hs,⟨⟨Yat _,Yat _,λh=>absurd h (Yfw 0)⟩,λi hi=>absurd hi (Nat.not_lt_zero _)⟩⟩
end Go.Proofs.W
