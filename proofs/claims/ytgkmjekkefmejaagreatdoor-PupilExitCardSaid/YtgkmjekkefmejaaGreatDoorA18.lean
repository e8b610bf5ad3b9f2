/- Contracts of package matrix,and a verified evaluator. Part 18 of 27. No condition beside the row. -/
import Derived.Test.YtgkmjekkefmejaaGreatDoorA13
import Derived.Test.YtgkmjekkefmejaaGreatDoorA14
import Derived.Test.YtgkmjekkefmejaaGreatDoorA15
import Derived.Test.YtgkmjekkefmejaaGreatDoorA16
import Derived.Test.YtgkmjekkefmejaaGreatDoorA17
set_option linter.unusedVariables false
set_option linter.unusedSimpArgs false
set_option maxRecDepth 100000
set_option maxHeartbeats 4000000
namespace Go.Proofs.W
open Go.RowKit Go.Mono
theorem Zld:(∀args w,(callFunc 211 args).run Tryz.prog w=.ok (.enter 211 args) w)∧(∀args w,(callFunc 213 args).run Tryz.prog w=.ok (.enter 213 args) w)∧(∀args w,(callFunc 215 args).run Tryz.prog w=.ok (.enter 215 args) w)∧(∀args w,(callFunc 216 args).run Tryz.prog w=.ok (.enter 216 args) w)∧(∀args w,(callFunc 217 args).run Tryz.prog w=.ok (.enter 217 args) w)∧(∀args w,(callFunc 218 args).run Tryz.prog w=.ok (.enter 218 args) w):=
 ⟨Go.Proofs.enters_of Tryz.func211 Zk rfl,Go.Proofs.enters_of Tryz.func213 Zk rfl,Go.Proofs.enters_of Tryz.func215 Zk rfl,Go.Proofs.enters_of Tryz.func216 Zk rfl,Go.Proofs.enters_of Tryz.func217 Zk rfl,Go.Proofs.enters_of Tryz.func218 Zk rfl⟩
def vG:Nat->Nat:=λi=>if i=0 then 211 else if i=1 then 213 else if i=2 then 215 else if i=3 then 216 else if i=4 then 217 else 218
def vF (B:Nat):Nat->Array Value:=λi=>if i<2 then #[] else #[.pointer (some ⟨B,0,none⟩)]
def vC (A:Nat):Nat->Array Value:=λi=>if i<2 then #[.pointer (some ⟨A,0,none⟩)] else #[]
theorem Zu6 (B:Nat) (w:World)
  (h1:∀A W,Below w.heap.size w W->Box W A 283 #[.pointer (some ⟨B,0,none⟩)]->Calls Tryz.prog 211 #[.pointer (some ⟨A,0,none⟩)] W λe w'=>e=.returned (.bool true)∧Below W.heap.size W w')
  (h2:∀A W,Below w.heap.size w W->Box W A 283 #[.pointer (some ⟨B,0,none⟩)]->Calls Tryz.prog 213 #[.pointer (some ⟨A,0,none⟩)] W λe w'=>e=.returned (.bool true)∧Below W.heap.size W w')
  (h3:∀W,Below w.heap.size w W->Calls Tryz.prog 215 #[.pointer (some ⟨B,0,none⟩)] W λe w'=>e=.returned (.bool true)∧Below W.heap.size W w')
  (h4:∀W,Below w.heap.size w W->Calls Tryz.prog 216 #[.pointer (some ⟨B,0,none⟩)] W λe w'=>e=.returned (.bool true)∧Below W.heap.size W w')
  (h5:∀W,Below w.heap.size w W->Calls Tryz.prog 217 #[.pointer (some ⟨B,0,none⟩)] W λe w'=>e=.returned (.bool true)∧Below W.heap.size W w')
  (h6:∀W,Below w.heap.size w W->Calls Tryz.prog 218 #[.pointer (some ⟨B,0,none⟩)] W λe w'=>e=.returned (.bool true)∧Below W.heap.size W w') :
  Calls Tryz.prog 183 #[.pointer (some ⟨B,0,none⟩)] w λe w'=>e=.returned (.bool true)∧Below w.heap.size w w':=by
 have hmf:∀(fn:Fn) (first cap:Array Value) (w:World),(Instr.makeFunc fn first cap).run Tryz.prog w=.ok (.func fn first cap) w:=λ_ _ _ _=>rfl;go_enter Tryz.func183,Tryz.ntmps183
 go_wp2_with fail
 refine Zbq λW hB hs b0 b1=>?_;obtain⟨e1,e2,e3,e4,e5,e6⟩:=Zld;refine(Zxh 6 6 _ vG (vF B) (vC w.heap.size) W ⟨Zo,Zo,λ_=>⟨_,_,rfl,b1.lt,λi j hi hj=>?_⟩⟩ (λi hi=>?_) (λi hi W' hW=>?_)).mono ?_
 ·obtain rfl:j=0:=by omega
  rw[b1.cell];rcases(by omega:i=0∨i=1∨i=2∨i=3∨i=4∨i=5) with rfl|rfl|rfl|rfl|rfl|rfl<;>rfl
 ·rcases(by omega:i=0∨i=1∨i=2∨i=3∨i=4∨i=5) with rfl|rfl|rfl|rfl|rfl|rfl
  ·exact e1
  ·exact e2
  ·exact e3
  ·exact e4
  ·exact e5
  ·exact e6
 ·have hBW:=Zaa hB hW
  rcases(by omega:i=0∨i=1∨i=2∨i=3∨i=4∨i=5) with rfl|rfl|rfl|rfl|rfl|rfl
  ·exact h1 _ W' hBW (b0.below hW)
  ·exact h2 _ W' hBW (b0.below hW)
  ·exact h3 W' hBW
  ·exact h4 W' hBW
  ·exact h5 W' hBW
  ·exact h6 W' hBW
 rintro e w' ⟨rfl,hb⟩;go_wp2
 go_ret
 exact⟨rfl,Zaa hB hb⟩
section
open Go.Ex
def kK (g:ByteArray) (p:Option Addr) (n c:Nat):Nat->Value
 | 0=>.string g
 | _=>.slice p n c
theorem kK1 (g:ByteArray) (p:Option Addr) (n c i:Nat):(kK g p n c i).oneCell'=true:=by
 cases i<;>rfl
theorem Zjo {g:ByteArray} (h:g≠mirror):(g.toList==[77,73,82,82,79,82])=false:=by
 rw[beq_eq_false_iff_ne];intro e;apply h;have:g.data.toList=[77,73,82,82,79,82]:=by rw[<-e];simp[Ycs]
 cases g with
 | mk d =>
   simp only[mirror,Ydw];apply Yfo;simpa using this
theorem Zxi (s:Srf) (hs:s.ok) (p:Option Addr) (c:Nat) (w:World) :
  Calls Tryz.prog 264 #[.agg (s.cs p c)] w λe w'=>(∃p' c',e=.returned (.agg (s.cs p' c'))∧(s.co=[]∨p'=p∧c'=c))∧Below w.heap.size w w':=by
 have hk:=hs.kept;have k1:=hs.k1;have k2:=hs.k2;clear hs;obtain⟨kind,curv,conic,curvx,conicx,a0,a1,a2,a3,p0,p1,order,thick,glass,semi,hole,dx,dy,ax,ay,az,co⟩:=s;rcases(by simp only at k1 k2;omega:kind=1∨kind=2∨kind=3∨kind=4) with rfl|rfl|rfl|rfl
 ·by_cases h0 : order = 0
  ·subst h0
   simp[Srf.kept]at hk;obtain⟨rfl,rfl,rfl,rfl,rfl,rfl,rfl,rfl,rfl⟩:=hk;refine(Zgd (D:=qDen (kK glass p co.length c) (kK1 _ _ _ _)) (d:=9) Zde [.val (.int .i64 1),.sym curv,.sym conic,.val (.int .i64 0),.val (.int .i64 0),.sym a0,.sym a1,.sym a2,.sym a3,.val (.int .i64 0),.val (.int .i64 0),.val (.int .i64 0),.sym thick,.tok 0,.sym semi,.sym hole,.val (.int .i64 0),.val (.int .i64 0),.val (.int .i64 0),.val (.int .i64 0),.val (.int .i64 0),.tok 1] [.val (.int .i64 1),.sym curv,.sym conic,.val (.int .i64 0),.val (.int .i64 0),.sym a0,.sym a1,.sym a2,.sym a3,.val (.int .i64 0),.val (.int .i64 0),.val (.int .i64 0),.sym thick,.tok 0,.sym semi,.sym hole,.val (.int .i64 0),.val (.int .i64 0),.val (.int .i64 0),.val (.int .i64 0),.val (.int .i64 0),.tok 1] _ _ (λw=>Zk) rfl rfl w).mono ?_;rintro e w' ⟨rfl,hb⟩;exact⟨⟨p,c,rfl,.inr ⟨rfl,rfl⟩⟩,hb⟩
  ·by_cases hg:glass=mirror
   ·subst hg
    simp[Srf.kept,h0]at hk;exact absurd hk.2.2.2.2.1.symm h0
   ·simp[Srf.kept,h0,hg]at hk
    obtain⟨rfl,rfl,rfl,rfl,rfl,rfl,rfl⟩:=hk;refine(Zy7 _ _ 0 0 _ _ _ _ _ _ _ _ _ _ 0 0 0 0 0 _ p _ c _ h0 (Zjo hg) rfl rfl rfl rfl rfl rfl rfl rfl rfl rfl rfl rfl rfl rfl rfl rfl rfl rfl rfl rfl rfl rfl w).mono ?_;rintro e w' ⟨rfl,hb⟩;exact⟨⟨_,_,rfl,.inr ⟨rfl,rfl⟩⟩,hb⟩
 ·simp[Srf.kept]at hk
  obtain⟨rfl,rfl,rfl,rfl,rfl,rfl,rfl,rfl,rfl,rfl,rfl,rfl⟩:=hk;refine(Zgd (D:=qDen (kK glass p co.length c) (kK1 _ _ _ _)) (d:=9) Zde [.val (.int .i64 2),.sym curv,.sym conic,.sym curvx,.sym conicx,.val (.int .i64 0),.val (.int .i64 0),.val (.int .i64 0),.val (.int .i64 0),.val (.int .i64 0),.val (.int .i64 0),.val (.int .i64 0),.sym thick,.tok 0,.sym semi,.sym hole,.val (.int .i64 0),.val (.int .i64 0),.val (.int .i64 0),.val (.int .i64 0),.val (.int .i64 0),.tok 1] [.val (.int .i64 2),.sym curv,.sym conic,.sym curvx,.sym conicx,.val (.int .i64 0),.val (.int .i64 0),.val (.int .i64 0),.val (.int .i64 0),.val (.int .i64 0),.val (.int .i64 0),.val (.int .i64 0),.sym thick,.tok 0,.sym semi,.sym hole,.val (.int .i64 0),.val (.int .i64 0),.val (.int .i64 0),.val (.int .i64 0),.val (.int .i64 0),.tok 1] _ _ (λw=>Zk) rfl rfl w).mono ?_;rintro e w' ⟨rfl,hb⟩;exact⟨⟨_,_,rfl,.inr ⟨rfl,rfl⟩⟩,hb⟩
 ·simp[Srf.kept]at hk
  obtain⟨rfl,rfl,rfl,rfl,rfl,rfl,rfl,rfl,rfl,rfl,rfl,rfl,rfl,rfl,rfl⟩:=hk;refine(Zgd (D:=qDen (kK {data:=#[]} p 0 c) (kK1 _ _ _ _)) (d:=9) Zde [.val (.int .i64 3),.val (.int .i64 0),.val (.int .i64 0),.val (.int .i64 0),.val (.int .i64 0),.val (.int .i64 0),.val (.int .i64 0),.val (.int .i64 0),.val (.int .i64 0),.val (.int .i64 0),.val (.int .i64 0),.val (.int .i64 0),.sym thick,.val (.string {data:=#[]}),.val (.int .i64 0),.val (.int .i64 0),.sym dx,.sym dy,.sym ax,.sym ay,.sym az,.tok 1] [.val (.int .i64 3),.val (.int .i64 0),.val (.int .i64 0),.val (.int .i64 0),.val (.int .i64 0),.val (.int .i64 0),.val (.int .i64 0),.val (.int .i64 0),.val (.int .i64 0),.val (.int .i64 0),.val (.int .i64 0),.val (.int .i64 0),.sym thick,.val (.string {data:=#[]}),.val (.int .i64 0),.val (.int .i64 0),.sym dx,.sym dy,.sym ax,.sym ay,.sym az,.val (.slice none 0 0)] _ _ (λw=>Zk) rfl rfl w).mono ?_;rintro e w' ⟨rfl,hb⟩;exact⟨⟨_,_,rfl,.inl rfl⟩,hb⟩
 ·simp[Srf.kept]at hk
  obtain⟨rfl,rfl,rfl,rfl,rfl,rfl,rfl,rfl,rfl,rfl,rfl,rfl,rfl,rfl,rfl,rfl,rfl⟩:=hk;refine(Zgd (D:=qDen (kK {data:=#[]} p 0 c) (kK1 _ _ _ _)) (d:=9) Zde [.val (.int .i64 4),.sym curv,.val (.int .i64 0),.val (.int .i64 0),.val (.int .i64 0),.val (.int .i64 0),.val (.int .i64 0),.val (.int .i64 0),.val (.int .i64 0),.val (.int .i64 0),.val (.int .i64 0),.val (.int .i64 0),.sym thick,.val (.string {data:=#[]}),.sym semi,.sym hole,.val (.int .i64 0),.val (.int .i64 0),.val (.int .i64 0),.val (.int .i64 0),.val (.int .i64 0),.tok 1] [.val (.int .i64 4),.sym curv,.val (.int .i64 0),.val (.int .i64 0),.val (.int .i64 0),.val (.int .i64 0),.val (.int .i64 0),.val (.int .i64 0),.val (.int .i64 0),.val (.int .i64 0),.val (.int .i64 0),.val (.int .i64 0),.sym thick,.val (.string {data:=#[]}),.sym semi,.sym hole,.val (.int .i64 0),.val (.int .i64 0),.val (.int .i64 0),.val (.int .i64 0),.val (.int .i64 0),.val (.slice none 0 0)] _ _ (λw=>Zk) rfl rfl w).mono ?_;rintro e w' ⟨rfl,hb⟩;exact⟨⟨_,_,rfl,.inl rfl⟩,hb⟩
theorem Zoc (s:Srf) (p:Option Addr) (c:Nat) (w:World):Calls Tryz.prog 288 #[.agg (s.cs p c)] w λe w'=>e=.returned (.agg s.flds)∧Below w.heap.size w w':=
 Zpp s.kind s.curv s.conic s.curvx s.conicx s.a0 s.a1 s.a2 s.a3 s.p0 s.p1 s.order s.thick s.semi s.hole s.dx s.dy s.ax s.ay s.az s.glass (s.cs p c) rfl rfl rfl rfl rfl rfl rfl rfl rfl rfl rfl rfl rfl rfl rfl rfl rfl rfl rfl rfl rfl w
end
theorem Zle (nm:ByteArray) (di pu st pr:Int) (pf pw' ps pc:Option Addr) (nf cf n cw ns cs nc cc:Nat) (w:World)
  (hv:∀B W,Below w.heap.size w W->Box W B 257 #[.string nm,.int .i64 di,.int .i64 pu,.int .i64 st,.int .i64 pr,.slice pf nf cf,.slice pw' n cw,.slice ps ns cs,.slice pc nc cc]->Calls Tryz.prog 183 #[.pointer (some ⟨B,0,none⟩)] W λe w'=>e=.returned (.bool true)∧Below W.heap.size W w') :
  Calls Tryz.prog 139 #[.agg #[.string nm,.int .i64 di,.int .i64 pu,.int .i64 st,.int .i64 pr,.slice pf nf cf,.slice pw' n cw,.slice ps ns cs,.slice pc nc cc]] w λe w'=>e=.returned (.int .i64 0)∧Below w.heap.size w w':=by
 have hmf:∀(fn:Fn) (first cap:Array Value) (w:World),(Instr.makeFunc fn first cap).run Tryz.prog w=.ok (.func fn first cap) w:=λ_ _ _ _=>rfl;go_enter Tryz.func139,Tryz.ntmps139
 go_wp2_with fail
 refine Zbq λW hB hs b0 b1=>?_;refine(hv _ W hB b1).mono ?_;rintro e w' ⟨rfl,hb⟩;go_wp2
 go_ret
 exact⟨rfl,Zaa hB hb⟩
theorem Zmy (p q:Option Addr) (n c1 c2:Nat) (F G:Nat->Flm) (w:World) (h1:FilmsAt w p n c1 F) (h2:FilmsAt w q n c2 G) (he:∀i,i<n->F i=G i) :
  Calls Tryz.prog 289 #[.slice p n c1,.slice q n c2] w λe w'=>e=.returned (.bool true)∧∃k,w'=w.drewN k:=by
 have hnn:=h1.2.1;replace he:=Yah he;go_enter Tryz.func289,Tryz.ntmps289
 go_wp2
 go_loopw [13] (λa wr=>∃j:Nat,j<=n∧a=.int .i64 (j:Int)∧∃k,wr=w.drewN k) (λa _=>(n-intOf a).toNat)
 case atStart=>exact⟨0,Yat _,rfl,0,rfl⟩
 case round=>
  obtain⟨j,hj,rfl,k,rfl⟩:=hrel;have hB:Below w.heap.size w (w.drewN k):=below_drewN (Yae _ _) k;by_cases hjn:j<n
  ·obtain⟨b,off,rfl,hb,g1⟩:=h1.2.2 Zo
   obtain⟨b',off',rfl,hb',g2⟩:=h2.2.2 Zo;have a0:=g1 j 0 hjn Zd;have a1:=g1 j 1 hjn Zd;have a2:=g1 j 2 hjn Zd;have b0:=g2 j 0 hjn Zd;have b1:=g2 j 1 hjn Zd;have b2:=g2 j 2 hjn Zd;dsimp only at a0 a1 a2 b0 b1 b2;rw[<-he.out j hjn]at b0 b1 b2;simp only[show ∀f:Flm,f.vals = #[.int .i64 f.ix,.int .i64 f.p,.int .i64 f.q] from λ_=>rfl,Yce]at a0 a1 a2 b0 b1 b2;have hj':(j:Int)<n:=Zo;generalize (F j).ix=v0 at *;generalize (F j).p=v1 at *;generalize (F j).q=v2 at *;clear g1 g2 hB h1 h2;go_wp2
   go_quiet (fail)
   go_wp2
   go_roundw
   case rel=>exact⟨j+1,Zo,Zs,_,rfl⟩
   case measure=>simp[intOf];omega
  ·obtain rfl:j=n:=by omega
   clear h1 h2;go_wp2
   go_ret
   exact⟨rfl,k,rfl⟩
theorem Zli:∀args w,(callFunc 288 args).run Tryz.prog w=.ok (.enter 288 args) w:=Go.Proofs.enters_of Tryz.func288 Zk rfl
theorem Zpr (A C FL:Array Value) (hA:A.size=22) (hC:C.size=22) (p p':Option Addr) (nf c c':Nat) (a21:A[21]? = some (.slice p nf c)) (c21:C[21]? = some (.slice p' nf c'))
  (hca:∀W,Calls Tryz.prog 288 #[.agg A] W λe w'=>e=.returned (.agg FL)∧Below W.heap.size W w') (hcc:∀W,Calls Tryz.prog 288 #[.agg C] W λe w'=>e=.returned (.agg FL)∧Below W.heap.size W w')
  (heq:∀w,(binOp .eql 330 (.agg FL) (.agg FL)).run Tryz.prog w=.ok (.bool true) w) (w:World)
  (heqf:∀W,Below w.heap.size w W->Calls Tryz.prog 289 #[.slice p nf c,.slice p' nf c'] W λe w'=>e=.returned (.bool true)∧Below W.heap.size W w') :
  Calls Tryz.prog 263 #[.agg A,.agg C] w λe w'=>e=.returned (.bool true)∧Below w.heap.size w w':=by
 have hsz:(Tryz.prog.info? 85).map (·.size)=some 22:=Zk;have eg:=Zli;go_enter Tryz.func263,Tryz.ntmps263
 go_wp2_with fail
 refine Zej λW hB hs b0 b1=>?_;have f0:W.cell? ⟨w.heap.size,21,none⟩=some (.slice p nf c):=(b0.cell 21).trans a21;have f1:W.cell? ⟨w.heap.size+1,21,none⟩=some (.slice p' nf c'):=(b1.cell 21).trans c21;have lb0:=b0.lt;have lb1:=b1.lt;have sA:(Tryz.prog.info? 85).map (·.size)=some A.size:=by rw[hsz,hA]
 have sC:(Tryz.prog.info? 85).map (·.size)=some C.size:=by rw[hsz,hC]
 clear hA hC hsz a21 c21;refine wp_region_held_drew (S:=λw'=>(∀b o,b<W.heap.size->w'.cell? ⟨b,o,none⟩=W.cell? ⟨b,o,none⟩)∧Below W.heap.size W w') Zk (Za2 (Yae _ _).drew) (λhHeld=>?_);refine tk 0 (some 6) ?_;refine tk 3 (some 9) ?_;refine tl 1 (some 7) rfl (.agg A) (Zaj 85 _ rfl w.heap.size 0 rfl A (λw h=>(b0.below h.2).range) _ Tryz.underlying85 rfl sA) ?_;refine tl 4 (some 10) rfl (.agg C) (Zaj 85 _ rfl (w.heap.size+1) 0 rfl C (λw h=>(b1.below h.2).range) _ Tryz.underlying85 rfl sC) ?_;refine Mono.st 2 ?_;intro K hK;go_simp
 (refine(hca _).mono ?_;rintro e W1 ⟨rfl,hb⟩)
 refine kp hK (Za2 (Zaa hHeld.2 hb)) (λhHeld=>?_);clear hK K;clear hb;refine Mono.st 5 ?_;intro K hK;go_simp
 (refine(hcc _).mono ?_;rintro e W2 ⟨rfl,hb⟩)
 refine kp hK (Za2 (Zaa hHeld.2 hb)) (λhHeld=>?_);clear hK K;clear hb;refine tk 6 (some 12) ?_;refine tk 7 (some 13) ?_;refine tk 8 (some 14) ?_;refine tk 9 (some 15) ?_;refine tk 10 (some 16) ?_;refine tk 11 (some 17) ?_;refine Mono.st 12 ?_;intro K hK;go_simp
 (refine(heqf _ (Zaa hB hHeld.2)).mono ?_;rintro e W3 ⟨rfl,hb⟩)
 refine kp hK (Za2 (Zaa hHeld.2 hb)) (λhHeld=>?_);clear hK K;refine tk 13 (some 19) ?_;refine tk 14 (some 4) ?_;refine wpAnyH_done Zk ?_ _;go_wp2
 go_ret
 exact⟨rfl,Zaa hB hHeld.2⟩
theorem Zxj (s:Srf) (hs:s.ok) (p p':Option Addr) (c c':Nat) (w:World) (h1:CoatAt w p c s.co) (h2:CoatAt w p' c' s.co) :
  Calls Tryz.prog 263 #[.agg (s.cs p c),.agg (s.cs p' c')] w λe w'=>e=.returned (.bool true)∧Below w.heap.size w w':=
 Zpr (s.cs p c) (s.cs p' c') s.flds rfl rfl p p' s.co.length c c' rfl rfl (λW=>Zoc s p c W) (λW=>Zoc s p' c' W) (Zu9 s hs) w λW hW=>by
  refine(Zmy p p' s.co.length c c' _ _ W (h1.below hW) (h2.below hW) λ_ _=>rfl).mono ?_;rintro e w' ⟨rfl,k,rfl⟩;exact⟨rfl,below_drewN (Yae _ _) k⟩
theorem Zmx (z:Int) (h1:10000000<=z) (h2:z<=40000000) (w:World) :
  Calls Tryz.prog 141 #[.int .i64 z] w λe w'=>e=.returned (.bool true)∧w'=w:=by
 go_enter Tryz.func141,Tryz.ntmps141
 go_wp2
 go_ret
 exact⟨rfl,rfl⟩
theorem Zu7 (n:Nat) (p:Option Addr) (c:Nat) (f:Nat->Int) (w:World) (h:RdF w p n c f) (hf:∀i,i<n->10000000<=f i∧f i<=40000000) :
  Calls Tryz.prog 143 #[.slice p n c,.func (.func 141) #[] #[]] w λe w'=>e=.returned (.bool true)∧w'=w:=by
 obtain⟨hc1,hn1,hx1⟩:=h;go_enter Tryz.func143,Tryz.ntmps143
 go_wp2
 go_loopw [9] (λa wr=>∃k:Nat,k<=n∧a=.int .i64 (k:Int)∧wr=w) (λa _=>(n-intOf a).toNat)
 case atStart=>exact⟨0,Yat _,rfl,rfl⟩
 case round=>
  obtain⟨k,hk,rfl,rfl⟩:=hrel;by_cases h0:k<n
  ·obtain⟨b,off,rfl,hb,hcell⟩:=hx1 Zo
   have a1:=hcell k Zo;obtain⟨f1,f2⟩:=hf k h0;clear hcell hx1 hf;have h0':(k:Int)<n:=Zo;go_wp2_with (go_at_call 141;refine(Zmx _ f1 f2 _).mono ?_;rintro e w' ⟨rfl,rfl⟩)
   go_roundw
   case rel=>refine⟨k+1,Zo,?_⟩;simp
   case measure=>simp[intOf];omega
  ·obtain rfl:k=n:=by omega
   go_wp2
   go_ret
   exact⟨rfl,rfl⟩
end Go.Proofs.W
namespace Go.Mono
open Go.RowKit
instance (m z:Int):Decidable (In m z):=inferInstanceAs (Decidable (_∧_))
instance (z:Int):Decidable (isLetter z):=inferInstanceAs (Decidable (_∨_))
instance (s:ByteArray):Decidable (NameOk s):=inferInstanceAs (Decidable (_∧_∧_))
structure Lns where
 nm:ByteArray
 di:Int
 pu:Int
 st:Int
 pr:Int
 nf:Nat
 X:Nat->Int
 Y:Nat->Int
 nw:Nat
 L:Nat->Int
 W:Nat->Int
 ns:Nat
 S:Nat->Srf
 ix:Nat->Nat->Int
structure Plc where
 pf:Option Addr
 cf:Nat
 pw:Option Addr
 cw:Nat
 ps:Option Addr
 cs:Nat
 pc:Option Addr
 cc:Nat
 cp:Nat->Option Addr
 cl:Nat->Nat
 pi:Option Addr
 ci:Nat
 pI:Nat->Option Addr
 cI:Nat->Nat
def Lns.lvals (a:Lns) (q:Plc):Array Value:=
 #[.string a.nm,.int .i64 a.di,.int .i64 a.pu,.int .i64 a.st,.int .i64 a.pr,.slice q.pf a.nf q.cf,.slice q.pw a.nw q.cw,.slice q.ps a.ns q.cs,.slice q.pc 0 q.cc]
def Lns.ovals (a:Lns) (q:Plc):Array Value:=
 #[.string a.nm,.int .i64 a.di,.int .i64 a.pu,.int .i64 a.st,.int .i64 a.pr,.slice q.pf a.nf q.cf,.slice q.pw a.nw q.cw,.slice q.ps a.ns q.cs,.slice q.pc 0 q.cc,.slice q.pi a.ns q.ci]
structure LnsAt (w:World) (a:Lns) (q:Plc):Prop where
 fields:RdC w q.pf a.nf q.cf 2 (λi j=>if j=0 then .int .i64 (a.X i) else .int .i64 (a.Y i))
 waves:RdC w q.pw a.nw q.cw 2 (λi j=>if j=0 then .int .i64 (a.L i) else .int .i64 (a.W i))
 surfs:RdC w q.ps a.ns q.cs 22 (λi j=>((a.S i).cs (q.cp i) (q.cl i)).getD j undef)
 coat:∀i,i<a.ns->CoatAt w (q.cp i) (q.cl i) (a.S i).co
theorem LnsAt.below {w w':World} {a:Lns} {q:Plc} (h:LnsAt w a q) (hB:Below w.heap.size w w'):LnsAt w' a q:=⟨h.fields.below hB,h.waves.below hB,h.surfs.below hB,λi hi=>(h.coat i hi).below hB⟩
structure OptAt (w:World) (a:Lns) (q:Plc):Prop extends LnsAt w a q where
 index:RdC w q.pi a.ns q.ci 1 (λi _=>.slice (q.pI i) a.nw (q.cI i))
 row:∀i,i<a.ns->RdF w (q.pI i) a.nw (q.cI i) (a.ix i)
theorem OptAt.below {w w':World} {a:Lns} {q:Plc} (h:OptAt w a q) (hB:Below w.heap.size w w'):OptAt w' a q:=⟨h.toLnsAt.below hB,h.index.below hB,λi hi=>(h.row i hi).below hB⟩
structure Lns.ok (a:Lns):Prop where
 name:NameOk a.nm
 di:0<=a.di∧a.di<=1000000000
 pu:1<=a.pu∧a.pu<=1000000000
 nf:1<=a.nf∧a.nf<=5
 fr:∀i,i<a.nf->In (if a.di=0 then 1000000 else 1000000000) (a.X i)∧In (if a.di=0 then 1000000 else 1000000000) (a.Y i)
 fd:∀i k,k<i->i<a.nf->¬(a.X i=a.X k∧a.Y i=a.Y k)
 nw:1<=a.nw∧a.nw<=5
 pr:0<=a.pr∧a.pr<=a.nw-1
 wl:∀i,i<a.nw->300000<=a.L i∧a.L i<=2500000
 wm:∀i,i+1<a.nw->a.L i<a.L (i+1)
 ww:∀i,i<a.nw->1<=a.W i∧a.W i<=100
 ns:2<=a.ns∧a.ns<=16
 st:0<=a.st∧a.st<=a.ns-2
 sok:∀i,i<a.ns->(a.S i).ok
 image:(a.S (a.ns-1)).kind=1∧(a.S (a.ns-1)).glass = {data:=#[]}∧(a.S (a.ns-1)).thick=0∧(a.S (a.ns-1)).order=0∧(a.S (a.ns-1)).co=[]
 stop:(a.S a.st.toNat).kind≠3
def Lns.through (a:Lns) (i:Nat):Prop:=(a.S i).glass=mirror∨(a.S i).kind=3∨(a.S i).kind=4∨i+1=a.ns
def Lns.ahead (a:Lns) (i j:Nat):Int:=if i=0 then 10000000 else a.ix (i-1) j
structure Lns.opt (a:Lns):Prop where
 base:Lns.ok a
 ir:∀i j,i<a.ns->j<a.nw->10000000<=a.ix i j∧a.ix i j<=40000000
 it:∀i j,i<a.ns->a.through i->j<a.nw->a.ix i j=a.ahead i j
 ia:∀i j,i<a.ns->¬a.through i->(a.S i).glass = {data:=#[]}->j<a.nw->a.ix i j=10000000
section
section
variable {P:Program} {ops:Array Oper} {rest:List Oper} {o:Oper} {a:Act} {Q:Exit->Act->World->Prop}
end
end
end Go.Mono
namespace Go.Proofs.W
open Go.RowKit Go.Mono

end Go.Proofs.W
