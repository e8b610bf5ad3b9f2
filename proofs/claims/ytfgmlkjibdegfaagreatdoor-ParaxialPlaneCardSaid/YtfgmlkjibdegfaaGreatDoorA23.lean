/- Contracts of package paraxial,and a verified evaluator. Part 23 of 28. No condition beside the row. -/
import Derived.Outline
import Derived.Test.YtfgmlkjibdegfaaGreatDoorA05
import Derived.Test.YtfgmlkjibdegfaaGreatDoorA06
import Derived.Test.YtfgmlkjibdegfaaGreatDoorA15
import Derived.Test.YtfgmlkjibdegfaaGreatDoorA16
import Derived.Test.YtfgmlkjibdegfaaGreatDoorA19
import Derived.Test.YtfgmlkjibdegfaaGreatDoorA22
set_option linter.unusedVariables false
set_option linter.unusedSimpArgs false
set_option maxRecDepth 100000
set_option maxHeartbeats 4000000
namespace Go.Proofs.W
open Go.RowKit Go.Mono
section
open Go.Ex
def kK (g:ByteArray) (p:Option Addr) (n c:Nat):Nat->Value
 | 0=>.string g
 | _=>.slice p n c
theorem kK1 (g:ByteArray) (p:Option Addr) (n c i:Nat):(kK g p n c i).oneCell'=true:=by
 cases i<;>rfl
theorem Zix {g:ByteArray} (h:g≠mirror):(g.toList==[77,73,82,82,79,82])=false:=by
 rw[beq_eq_false_iff_ne];intro e;apply h;have:g.data.toList=[77,73,82,82,79,82]:=by rw[<-e];simp[Ycs]
 cases g with
 | mk d =>
   simp only[mirror,Ydw];apply Yfo;simpa using this
theorem Zvn (s:Srf) (hs:s.ok) (p:Option Addr) (c:Nat) (w:World) :
  Calls Tryz.prog 232 #[.agg (s.cs p c)] w λe w'=>(∃p' c',e=.returned (.agg (s.cs p' c'))∧(s.co=[]∨p'=p∧c'=c))∧Below w.heap.size w w':=by
 have hk:=hs.kept;have k1:=hs.k1;have k2:=hs.k2;clear hs;obtain⟨kind,curv,conic,curvx,conicx,a0,a1,a2,a3,p0,p1,order,thick,glass,semi,hole,dx,dy,ax,ay,az,co⟩:=s;rcases(by simp only at k1 k2;omega:kind=1∨kind=2∨kind=3∨kind=4) with rfl|rfl|rfl|rfl
 ·by_cases h0 : order = 0
  ·subst h0
   simp[Srf.kept]at hk;obtain⟨rfl,rfl,rfl,rfl,rfl,rfl,rfl,rfl,rfl⟩:=hk;refine(Zf8 (D:=qDen (kK glass p co.length c) (kK1 _ _ _ _)) (d:=9) Ziu [.val (.int .i64 1),.sym curv,.sym conic,.val (.int .i64 0),.val (.int .i64 0),.sym a0,.sym a1,.sym a2,.sym a3,.val (.int .i64 0),.val (.int .i64 0),.val (.int .i64 0),.sym thick,.tok 0,.sym semi,.sym hole,.val (.int .i64 0),.val (.int .i64 0),.val (.int .i64 0),.val (.int .i64 0),.val (.int .i64 0),.tok 1] [.val (.int .i64 1),.sym curv,.sym conic,.val (.int .i64 0),.val (.int .i64 0),.sym a0,.sym a1,.sym a2,.sym a3,.val (.int .i64 0),.val (.int .i64 0),.val (.int .i64 0),.sym thick,.tok 0,.sym semi,.sym hole,.val (.int .i64 0),.val (.int .i64 0),.val (.int .i64 0),.val (.int .i64 0),.val (.int .i64 0),.tok 1] _ _ (λw=>Zk) rfl rfl w).mono ?_;rintro e w' ⟨rfl,hb⟩;exact⟨⟨p,c,rfl,.inr ⟨rfl,rfl⟩⟩,hb⟩
  ·by_cases hg:glass=mirror
   ·subst hg
    simp[Srf.kept,h0]at hk;exact absurd hk.2.2.2.2.1.symm h0
   ·simp[Srf.kept,h0,hg]at hk
    obtain⟨rfl,rfl,rfl,rfl,rfl,rfl,rfl⟩:=hk;refine(Zw6 _ _ 0 0 _ _ _ _ _ _ _ _ _ _ 0 0 0 0 0 _ p _ c _ h0 (Zix hg) rfl rfl rfl rfl rfl rfl rfl rfl rfl rfl rfl rfl rfl rfl rfl rfl rfl rfl rfl rfl rfl rfl w).mono ?_;rintro e w' ⟨rfl,hb⟩;exact⟨⟨_,_,rfl,.inr ⟨rfl,rfl⟩⟩,hb⟩
 ·simp[Srf.kept]at hk
  obtain⟨rfl,rfl,rfl,rfl,rfl,rfl,rfl,rfl,rfl,rfl,rfl,rfl⟩:=hk;refine(Zf8 (D:=qDen (kK glass p co.length c) (kK1 _ _ _ _)) (d:=9) Ziu [.val (.int .i64 2),.sym curv,.sym conic,.sym curvx,.sym conicx,.val (.int .i64 0),.val (.int .i64 0),.val (.int .i64 0),.val (.int .i64 0),.val (.int .i64 0),.val (.int .i64 0),.val (.int .i64 0),.sym thick,.tok 0,.sym semi,.sym hole,.val (.int .i64 0),.val (.int .i64 0),.val (.int .i64 0),.val (.int .i64 0),.val (.int .i64 0),.tok 1] [.val (.int .i64 2),.sym curv,.sym conic,.sym curvx,.sym conicx,.val (.int .i64 0),.val (.int .i64 0),.val (.int .i64 0),.val (.int .i64 0),.val (.int .i64 0),.val (.int .i64 0),.val (.int .i64 0),.sym thick,.tok 0,.sym semi,.sym hole,.val (.int .i64 0),.val (.int .i64 0),.val (.int .i64 0),.val (.int .i64 0),.val (.int .i64 0),.tok 1] _ _ (λw=>Zk) rfl rfl w).mono ?_;rintro e w' ⟨rfl,hb⟩;exact⟨⟨_,_,rfl,.inr ⟨rfl,rfl⟩⟩,hb⟩
 ·simp[Srf.kept]at hk
  obtain⟨rfl,rfl,rfl,rfl,rfl,rfl,rfl,rfl,rfl,rfl,rfl,rfl,rfl,rfl,rfl⟩:=hk;refine(Zf8 (D:=qDen (kK {data:=#[]} p 0 c) (kK1 _ _ _ _)) (d:=9) Ziu [.val (.int .i64 3),.val (.int .i64 0),.val (.int .i64 0),.val (.int .i64 0),.val (.int .i64 0),.val (.int .i64 0),.val (.int .i64 0),.val (.int .i64 0),.val (.int .i64 0),.val (.int .i64 0),.val (.int .i64 0),.val (.int .i64 0),.sym thick,.val (.string {data:=#[]}),.val (.int .i64 0),.val (.int .i64 0),.sym dx,.sym dy,.sym ax,.sym ay,.sym az,.tok 1] [.val (.int .i64 3),.val (.int .i64 0),.val (.int .i64 0),.val (.int .i64 0),.val (.int .i64 0),.val (.int .i64 0),.val (.int .i64 0),.val (.int .i64 0),.val (.int .i64 0),.val (.int .i64 0),.val (.int .i64 0),.val (.int .i64 0),.sym thick,.val (.string {data:=#[]}),.val (.int .i64 0),.val (.int .i64 0),.sym dx,.sym dy,.sym ax,.sym ay,.sym az,.val (.slice none 0 0)] _ _ (λw=>Zk) rfl rfl w).mono ?_;rintro e w' ⟨rfl,hb⟩;exact⟨⟨_,_,rfl,.inl rfl⟩,hb⟩
 ·simp[Srf.kept]at hk
  obtain⟨rfl,rfl,rfl,rfl,rfl,rfl,rfl,rfl,rfl,rfl,rfl,rfl,rfl,rfl,rfl,rfl,rfl⟩:=hk;refine(Zf8 (D:=qDen (kK {data:=#[]} p 0 c) (kK1 _ _ _ _)) (d:=9) Ziu [.val (.int .i64 4),.sym curv,.val (.int .i64 0),.val (.int .i64 0),.val (.int .i64 0),.val (.int .i64 0),.val (.int .i64 0),.val (.int .i64 0),.val (.int .i64 0),.val (.int .i64 0),.val (.int .i64 0),.val (.int .i64 0),.sym thick,.val (.string {data:=#[]}),.sym semi,.sym hole,.val (.int .i64 0),.val (.int .i64 0),.val (.int .i64 0),.val (.int .i64 0),.val (.int .i64 0),.tok 1] [.val (.int .i64 4),.sym curv,.val (.int .i64 0),.val (.int .i64 0),.val (.int .i64 0),.val (.int .i64 0),.val (.int .i64 0),.val (.int .i64 0),.val (.int .i64 0),.val (.int .i64 0),.val (.int .i64 0),.val (.int .i64 0),.sym thick,.val (.string {data:=#[]}),.sym semi,.sym hole,.val (.int .i64 0),.val (.int .i64 0),.val (.int .i64 0),.val (.int .i64 0),.val (.int .i64 0),.val (.slice none 0 0)] _ _ (λw=>Zk) rfl rfl w).mono ?_;rintro e w' ⟨rfl,hb⟩;exact⟨⟨_,_,rfl,.inl rfl⟩,hb⟩
theorem Zm7 (s:Srf) (p:Option Addr) (c:Nat) (w:World):Calls Tryz.prog 249 #[.agg (s.cs p c)] w λe w'=>e=.returned (.agg s.flds)∧Below w.heap.size w w':=
 Zod s.kind s.curv s.conic s.curvx s.conicx s.a0 s.a1 s.a2 s.a3 s.p0 s.p1 s.order s.thick s.semi s.hole s.dx s.dy s.ax s.ay s.az s.glass (s.cs p c) rfl rfl rfl rfl rfl rfl rfl rfl rfl rfl rfl rfl rfl rfl rfl rfl rfl rfl rfl rfl rfl w
end
section
attribute [local go_sem] Oper.semAt_some
def spaceKind (a:Lns) (i:Nat):Int:=if(a.S i).glass=mirror∨(a.S i).kind=3∨(a.S i).kind=4∨i+1=a.ns then 2 else if(a.S i).glass = {data:=#[]} then 0 else 1
theorem Zgw (a:Lns) (k:Nat):((a.S k).glass = {data:=#[77,73,82,82,79,82]}∧spaceKind a k=2)∨(((a.S k).glass.toList==[77,73,82,82,79,82])=false∧(a.S k).kind=3∧spaceKind a k=2)∨
  (((a.S k).glass.toList==[77,73,82,82,79,82])=false∧((a.S k).kind==3)=false∧(a.S k).kind=4∧spaceKind a k=2)∨(((a.S k).glass.toList==[77,73,82,82,79,82])=false∧((a.S k).kind==3)=false∧((a.S k).kind==4)=false∧((k:Int)==(a.ns:Int)-1)=true∧spaceKind a k=2)∨
  (((a.S k).glass.toList==[77,73,82,82,79,82])=false∧((a.S k).kind==3)=false∧((a.S k).kind==4)=false∧((k:Int)==(a.ns:Int)-1)=false∧(a.S k).glass.toList.isEmpty=true∧spaceKind a k=0)∨
  (((a.S k).glass.toList==[77,73,82,82,79,82])=false∧((a.S k).kind==3)=false∧((a.S k).kind==4)=false∧((k:Int)==(a.ns:Int)-1)=false∧(a.S k).glass.toList.isEmpty=false∧spaceKind a k=1):=by
 by_cases h1:(a.S k).glass=mirror
 ·exact .inl ⟨h1,by simp[spaceKind,h1]⟩
 ·have b1:=Zix h1
  by_cases h2:(a.S k).kind=3
  ·exact .inr (.inl ⟨b1,h2,by simp[spaceKind,h2]⟩)
  ·have b2:((a.S k).kind==3)=false:=by simpa using h2
   by_cases h3:(a.S k).kind=4
   ·exact .inr (.inr (.inl ⟨b1,b2,h3,by simp[spaceKind,h3]⟩))
   ·have b3:((a.S k).kind==4)=false:=by simpa using h3
    by_cases h4:k+1=a.ns
    ·exact .inr (.inr (.inr (.inl ⟨b1,b2,b3,by simp;omega,by simp[spaceKind,h4]⟩)))
    ·have b4:((k:Int)==(a.ns:Int)-1)=false:=by rw[beq_eq_false_iff_ne];omega
     by_cases h5:(a.S k).glass = {data:=#[]}
     ·exact .inr (.inr (.inr (.inr (.inl ⟨b1,b2,b3,b4,by rw[h5];simp[Ycs],by
       have:¬({data:=#[]}:ByteArray)=mirror:=by rw[<-h5];exact h1
       simp[spaceKind,h2,h3,h4,h5,this]⟩))))
     ·refine .inr (.inr (.inr (.inr (.inr ⟨b1,b2,b3,b4,?_,by simp[spaceKind,h1,h2,h3,h4,h5]⟩))))
      rw[Bool.eq_false_iff];intro e;apply h5;have e':(a.S k).glass.toList=[]:=by simpa using e
      have hd:(a.S k).glass.data.toList=[]:=by rw[<-e'];simp[Ycs]
      cases hg:(a.S k).glass with
      | mk d =>
        rw[hg]at hd;simp only[Ydw];exact Yfo (by simpa using hd)
theorem Zoe (F:Fence) (n:Nat) (hF:F.fn 142) (hro:F.round=none) (hn:2<=n) (a:Lns) (ha:1<=a.ns∧a.ns<=16) (q:Plc) (M:Nat) :
  IterAll F n Tryz.prog 142 #[.pointer (some ⟨M,0,none⟩)] #[] a.ns (λi=>#[.agg #[.int .i64 (i:Int),.int .i64 (spaceKind a i)]])
   (λV=>V.cell? ⟨M,7,none⟩=some (.slice q.ps a.ns q.cs)∧RdC V q.ps a.ns q.cs 22 (λi j=>((a.S i).cs (q.cp i) (q.cl i)).getD j undef)):=by
 intro l J W hK hJ hY h0;refine callsIn_of_wp Tryz.func142 rfl hF ?_ hro;simp only[Tryz.ntmps142,Yfl,Ybm,Ydf,Nat.reduceAdd,Nat.reduceSub,Yes,Yer,Yfm,Yey,Ydp,Ydi];obtain⟨hm,hr⟩:=hK _ _ h0;have hlt:M<W.heap.size:=block_lt_of_cell hm;obtain⟨b,off,hps,_⟩:=hr.2.2 Zo;rw[hps]at hm;gi_wp2
 gi_loopw [13] (λx wr=>∃k:Nat,k<=a.ns∧x=.int .i64 (k:Int)∧J k wr) (λx _=>(a.ns-intOf x).toNat)
 case atStart=>exact⟨0,Yat _,rfl,h0⟩
 case round=>
  obtain⟨k,hk,rfl,hj⟩:=hrel;obtain⟨hm,hr⟩:=hK _ _ hj;rw[hps]at hm;have hlt:M<wr.heap.size:=block_lt_of_cell hm;by_cases hkn:k<a.ns
  ·rw[hps]at hr
   obtain⟨b',off',hps',hbl,hcell⟩:=hr.2.2 Zo;obtain⟨rfl,rfl⟩:b=b'∧off=off':=by simpa using hps'
   clear hps';dsimp only at hcell;have hsz:(Tryz.prog.info? 117).map (·.size)=some ((a.S k).cs (q.cp k) (q.cl k)).size:=Zk;have hsl:(Tryz.prog.info? 117).map (·.size)=some ((a.S k).cs (q.cp k) (q.cl k)).toList.length:=Zk;have g0:((a.S k).cs (q.cp k) (q.cl k))[0]? = some (.int .i64 (a.S k).kind):=rfl;have g13:((a.S k).cs (q.cp k) (q.cl k))[13]? = some (.string (a.S k).glass):=rfl;have g1:((a.S k).cs (q.cp k) (q.cl k)).all (·.oneCell')=true:=by simp[Srf.cs,Value.oneCell']
   have gz:((a.S k).cs (q.cp k) (q.cl k)).size=22:=rfl;have hrange:wr.rangeAt b (off+k*22) ((a.S k).cs (q.cp k) (q.cl k)).toList:=λj v hv=>by
    have hj:j<22:=by
     have:=(Yan.1 hv).1;simpa[gz]using this
    refine(hcell k j hkn hj).trans ?_;rw[Yaq]at hv;rw[Yax,hv];rfl
   generalize (a.S k).cs (q.cp k) (q.cl k)=A at *;have hkn':(k:Int)<a.ns:=Zo;clear hcell hr;have hYk:=hY k;rcases Zgw a k with ⟨c1,c5⟩|⟨c1,c2,c5⟩|⟨c1,c2,c3,c5⟩|⟨c1,c2,c3,c4,c5⟩|⟨c1,c2,c3,c4,c6,c5⟩|⟨c1,c2,c3,c4,c6,c5⟩
   all_goals
    rw[c5]at hYk;clear c5 hY;generalize (a.S k).glass=G at *;generalize (a.S k).kind=kd at *
   all_goals try subst c1
   all_goals try subst c2
   all_goals try subst c3
   all_goals try subst c6
   all_goals
    gi_wp2_with first|(refine Zfj rfl 117 _ rfl b (off+k*22) rfl A.toList _ hrange Tryz.underlying117 rfl hsl ?_)|(refine Zka rfl 117 rfl _ Za0 ?_;intro W1 B1 hle hB1 b1)|(refine Zex rfl 117 (.tmp 5) (.tmp 17) rfl B1 0 117 _ A A rfl rfl b1 hsz (Ybl (by rw[gz];rfl)) g1 (Zah (by rw[gz];rfl)) ?_;intro W2 hk2 _ b2;have hBW2:Below wr.heap.size wr W2:=hk2.below hB1 hle hB1.size;have f0:=(b2.cell 0).trans g0;have f13:=(b2.cell 13).trans g13;have lb2:=b2.lt;have fm:=(hBW2.cell (p:=⟨M,7,none⟩) hlt).trans hm;have ltM:=Yaf hlt hBW2.size;obtain⟨fn,tmps,assign,body,hy,hR⟩:=hYk W2 (hJ k wr W2 hj hBW2) hkn)
    refine⟨λ_=>Zo,hR.mono ?_⟩;rintro e W3 ⟨rfl,hJ3⟩;gi_wp2
    go_roundw
    case rel=>exact⟨k+1,Zo,Zs,hJ3⟩
    case measure=>simp[intOf];omega
  ·obtain rfl:k=a.ns:=by omega
   gi_wp2
   go_end0
   exact⟨⟨_,rfl⟩,hj⟩
end
theorem Zlo (p q:Option Addr) (n c1 c2:Nat) (F G:Nat->Flm) (w:World) (h1:FilmsAt w p n c1 F) (h2:FilmsAt w q n c2 G) (he:∀i,i<n->F i=G i) :
  Calls Tryz.prog 250 #[.slice p n c1,.slice q n c2] w λe w'=>e=.returned (.bool true)∧∃k,w'=w.drewN k:=by
 have hnn:=h1.2.1;replace he:=Yah he;go_enter Tryz.func250,Tryz.ntmps250
 go_wp2
 go_loopw [13] (λa wr=>∃j:Nat,j<=n∧a=.int .i64 (j:Int)∧∃k,wr=w.drewN k) (λa _=>(n-intOf a).toNat)
 case atStart=>exact⟨0,Yat _,rfl,0,rfl⟩
 case round=>
  obtain⟨j,hj,rfl,k,rfl⟩:=hrel;have hB:Below w.heap.size w (w.drewN k):=below_drewN (Yae _ _) k;by_cases hjn:j<n
  ·obtain⟨b,off,rfl,hb,g1⟩:=h1.2.2 Zo
   obtain⟨b',off',rfl,hb',g2⟩:=h2.2.2 Zo;have a0:=g1 j 0 hjn Zd;have a1:=g1 j 1 hjn Zd;have a2:=g1 j 2 hjn Zd;have b0:=g2 j 0 hjn Zd;have b1:=g2 j 1 hjn Zd;have b2:=g2 j 2 hjn Zd;dsimp only at a0 a1 a2 b0 b1 b2;rw[<-he.out j hjn]at b0 b1 b2;simp only[show ∀f:Flm,f.vals = #[.int .i64 f.ix,.int .i64 f.p,.int .i64 f.q] from λ_=>rfl,Yce]at a0 a1 a2 b0 b1 b2;have hj':(j:Int)<n:=Zo;generalize (F j).ix=v0 at *;generalize (F j).p=v1 at *;generalize (F j).q=v2 at *;clear g1 g2 hB h1 h2;go_wp2
   go_quiet (fail)
   go_wp2
   go_roundw
   case rel=>exact⟨j+1,Zo,Zs,_,rfl⟩
   case measure=>simp[intOf];omega
  ·obtain rfl:j=n:=by omega
   clear h1 h2;go_wp2
   go_ret
   exact⟨rfl,k,rfl⟩
theorem Zkb:∀args w,(callFunc 249 args).run Tryz.prog w=.ok (.enter 249 args) w:=Go.Proofs.enters_of Tryz.func249 Zk rfl
theorem Zof (A C FL:Array Value) (hA:A.size=22) (hC:C.size=22) (p p':Option Addr) (nf c c':Nat) (a21:A[21]? = some (.slice p nf c)) (c21:C[21]? = some (.slice p' nf c'))
  (hca:∀W,Calls Tryz.prog 249 #[.agg A] W λe w'=>e=.returned (.agg FL)∧Below W.heap.size W w') (hcc:∀W,Calls Tryz.prog 249 #[.agg C] W λe w'=>e=.returned (.agg FL)∧Below W.heap.size W w')
  (heq:∀w,(binOp .eql 300 (.agg FL) (.agg FL)).run Tryz.prog w=.ok (.bool true) w) (w:World)
  (heqf:∀W,Below w.heap.size w W->Calls Tryz.prog 250 #[.slice p nf c,.slice p' nf c'] W λe w'=>e=.returned (.bool true)∧Below W.heap.size W w') :
  Calls Tryz.prog 231 #[.agg A,.agg C] w λe w'=>e=.returned (.bool true)∧Below w.heap.size w w':=by
 have hsz:(Tryz.prog.info? 117).map (·.size)=some 22:=Zk;have eg:=Zkb;go_enter Tryz.func231,Tryz.ntmps231
 go_wp2_with fail
 refine Zeh λW hB hs b0 b1=>?_;have f0:W.cell? ⟨w.heap.size,21,none⟩=some (.slice p nf c):=(b0.cell 21).trans a21;have f1:W.cell? ⟨w.heap.size+1,21,none⟩=some (.slice p' nf c'):=(b1.cell 21).trans c21;have lb0:=b0.lt;have lb1:=b1.lt;have sA:(Tryz.prog.info? 117).map (·.size)=some A.size:=by rw[hsz,hA]
 have sC:(Tryz.prog.info? 117).map (·.size)=some C.size:=by rw[hsz,hC]
 clear hA hC hsz a21 c21;refine wp_region_held_drew (S:=λw'=>(∀b o,b<W.heap.size->w'.cell? ⟨b,o,none⟩=W.cell? ⟨b,o,none⟩)∧Below W.heap.size W w') Zk (Za3 (Yae _ _).drew) (λhHeld=>?_);refine tk 0 (some 6) ?_;refine tk 3 (some 9) ?_;refine tl 1 (some 7) rfl (.agg A) (Zaj 117 _ rfl w.heap.size 0 rfl A (λw h=>(b0.below h.2).range) _ Tryz.underlying117 rfl sA) ?_;refine tl 4 (some 10) rfl (.agg C) (Zaj 117 _ rfl (w.heap.size+1) 0 rfl C (λw h=>(b1.below h.2).range) _ Tryz.underlying117 rfl sC) ?_;refine Mono.st 2 ?_;intro K hK;go_simp
 (refine(hca _).mono ?_;rintro e W1 ⟨rfl,hb⟩)
 refine kp hK (Za3 (Zaa hHeld.2 hb)) (λhHeld=>?_);clear hK K;clear hb;refine Mono.st 5 ?_;intro K hK;go_simp
 (refine(hcc _).mono ?_;rintro e W2 ⟨rfl,hb⟩)
 refine kp hK (Za3 (Zaa hHeld.2 hb)) (λhHeld=>?_);clear hK K;clear hb;refine tk 6 (some 12) ?_;refine tk 7 (some 13) ?_;refine tk 8 (some 14) ?_;refine tk 9 (some 15) ?_;refine tk 10 (some 16) ?_;refine tk 11 (some 17) ?_;refine Mono.st 12 ?_;intro K hK;go_simp
 (refine(heqf _ (Zaa hB hHeld.2)).mono ?_;rintro e W3 ⟨rfl,hb⟩)
 refine kp hK (Za3 (Zaa hHeld.2 hb)) (λhHeld=>?_);clear hK K;refine tk 13 (some 19) ?_;refine tk 14 (some 4) ?_;refine wpAnyH_done Zk ?_ _;go_wp2
 go_ret
 exact⟨rfl,Zaa hB hHeld.2⟩
theorem Zvo (s:Srf) (hs:s.ok) (p p':Option Addr) (c c':Nat) (w:World) (h1:CoatAt w p c s.co) (h2:CoatAt w p' c' s.co) :
  Calls Tryz.prog 231 #[.agg (s.cs p c),.agg (s.cs p' c')] w λe w'=>e=.returned (.bool true)∧Below w.heap.size w w':=
 Zof (s.cs p c) (s.cs p' c') s.flds rfl rfl p p' s.co.length c c' rfl rfl (λW=>Zm7 s p c W) (λW=>Zm7 s p' c' W) (Zti s hs) w λW hW=>by
  refine(Zlo p p' s.co.length c c' _ _ W (h1.below hW) (h2.below hW) λ_ _=>rfl).mono ?_;rintro e w' ⟨rfl,k,rfl⟩;exact⟨rfl,below_drewN (Yae _ _) k⟩
theorem Zog (s:Srf) (hs:s.ok) (p:Option Addr) (c B:Nat) (w:World) (b0:Box w B 117 (s.cs p c)) (hco:CoatAt w p c s.co) :
  Calls Tryz.prog 229 #[.pointer (some ⟨B,0,none⟩)] w λe w'=>e=.returned (.bool true)∧Below w.heap.size w w':=by
 have hsz:(Tryz.prog.info? 117).map (·.size)=some (s.cs p c).size:=Zk;have f0:w.cell? ⟨B,0,none⟩=some (.int .i64 s.kind):=b0.cell 0;have lb0:=b0.lt;have hkept:=λW=>Zvn s hs p c W;have hsame:=λp' c' W (hW:Below w.heap.size w W) (h:s.co=[]∨p'=p∧c'=c)=>Zvo s hs p p' c c' W (hco.below hW) ((hco.below hW).alt h);have k1:=hs.k1;have k2:=hs.k2;clear hs hco;generalize s.kind=kd at *;generalize s.cs p c=A at *;go_enter Tryz.func229,Tryz.ntmps229
 go_wp2_with fail
 refine wp_region_held_drew (S:=λw'=>(∀b o,b<w.heap.size->w'.cell? ⟨b,o,none⟩=w.cell? ⟨b,o,none⟩)∧Below w.heap.size w w') Zk (Za3 (Yae _ _).drew) (λhHeld=>?_);refine tk 0 (some 2) ?_;refine tk 1 (some 3) ?_;refine Mono.st 2 ?_;intro K hK;go_simp
 refine kp hK (Za3 (Zad hHeld.2 _)) (λhHeld=>?_);clear hK K;refine Mono.st 3 ?_;intro K hK;go_simp
 (refine(Zfh 1 4 1 _ _ (λ_=>kd) _ (.box (Box.new w 3 #[.int .i64 kd]).drew 0 1 _ (λi hi=>by obtain rfl:i=0:=(Zo);rfl) Zo) (λ_ _=>⟨k1,k2⟩)).mono ?_;rintro e W1 ⟨rfl,hb⟩)
 refine kp hK (Za3 (Zaa hHeld.2 hb)) (λhHeld=>?_);clear hK K;clear hb;refine tk 4 (some 6) ?_;refine tl 5 (some 7) rfl (.agg A) (Zaj 117 _ rfl B 0 rfl A (λw h=>(b0.below h.2).range) _ Tryz.underlying117 rfl hsz) ?_;refine tl 6 (some 8) rfl (.agg A) (Zaj 117 _ rfl B 0 rfl A (λw h=>(b0.below h.2).range) _ Tryz.underlying117 rfl hsz) ?_;refine Mono.st 7 ?_;intro K hK;go_simp
 (refine(hkept _).mono ?_;rintro e W2 ⟨⟨p',c',rfl,hpc⟩,hb⟩)
 refine kp hK (Za3 (Zaa hHeld.2 hb)) (λhHeld=>?_);clear hK K;clear hb;refine Mono.st 8 ?_;intro K hK;go_simp
 (refine(hsame p' c' _ hHeld.2 hpc).mono ?_;rintro e W3 ⟨rfl,hb⟩)
 refine kp hK (Za3 (Zaa hHeld.2 hb)) (λhHeld=>?_);clear hK K;clear hb;refine tk 9 (some 11) ?_;refine tk 10 (some 1) ?_;refine wpAnyH_done Zk ?_ _;go_wp2
 go_ret
 exact⟨rfl,hHeld.2⟩
theorem Zqs (w:World):(Instr.alloc 291 true (.tuple #[])).run Tryz.prog w=.ok (.pointer (some ⟨w.heap.size,0,none⟩)) (w.alloc (.cells #[.nilFunc,.nilFunc,.nilFunc,.nilFunc,.nilFunc,.nilFunc,.nilFunc] 291)):=by
 go_simp
def tests7 (B:Nat):Array Value:=#[.func (.func 229) #[] #[.pointer (some ⟨B,0,none⟩)],.func (.func 233) #[] #[.pointer (some ⟨B,0,none⟩)],.func (.func 235) #[] #[.pointer (some ⟨B,0,none⟩)],.func (.func 236) #[] #[.pointer (some ⟨B,0,none⟩)],.func (.func 237) #[] #[.pointer (some ⟨B,0,none⟩)],.func (.func 238) #[] #[.pointer (some ⟨B,0,none⟩)],.func (.func 239) #[] #[.pointer (some ⟨B,0,none⟩)]]
theorem Zke:(∀args w,(callFunc 229 args).run Tryz.prog w=.ok (.enter 229 args) w)∧(∀args w,(callFunc 233 args).run Tryz.prog w=.ok (.enter 233 args) w)∧(∀args w,(callFunc 235 args).run Tryz.prog w=.ok (.enter 235 args) w)∧(∀args w,(callFunc 236 args).run Tryz.prog w=.ok (.enter 236 args) w)∧(∀args w,(callFunc 237 args).run Tryz.prog w=.ok (.enter 237 args) w)∧(∀args w,(callFunc 238 args).run Tryz.prog w=.ok (.enter 238 args) w)∧(∀args w,(callFunc 239 args).run Tryz.prog w=.ok (.enter 239 args) w):=
 ⟨Go.Proofs.enters_of Tryz.func229 Zk rfl,Go.Proofs.enters_of Tryz.func233 Zk rfl,Go.Proofs.enters_of Tryz.func235 Zk rfl,Go.Proofs.enters_of Tryz.func236 Zk rfl,Go.Proofs.enters_of Tryz.func237 Zk rfl,Go.Proofs.enters_of Tryz.func238 Zk rfl,Go.Proofs.enters_of Tryz.func239 Zk rfl⟩
theorem Zkf (A:Array Value) (p:Option Addr) (c n:Nat) (F:Nat->Flm) (hF:∀i,i<n->(F i).ok) (hn8:n<=8) (a21:A[21]? = some (.slice p n c)) (w:World) (hfs:FilmsAt w p n c F)
  (h1:∀W B,Below w.heap.size w W->Box W B 117 A->Calls Tryz.prog 229 #[.pointer (some ⟨B,0,none⟩)] W λe w'=>e=.returned (.bool true)∧Below W.heap.size W w')
  (h2:∀W B,Below w.heap.size w W->Box W B 117 A->Calls Tryz.prog 233 #[.pointer (some ⟨B,0,none⟩)] W λe w'=>e=.returned (.bool true)∧Below W.heap.size W w')
  (h3:∀W B,Below w.heap.size w W->Box W B 117 A->Calls Tryz.prog 235 #[.pointer (some ⟨B,0,none⟩)] W λe w'=>e=.returned (.bool true)∧Below W.heap.size W w')
  (h4:∀W B,Below w.heap.size w W->Box W B 117 A->Calls Tryz.prog 236 #[.pointer (some ⟨B,0,none⟩)] W λe w'=>e=.returned (.bool true)∧Below W.heap.size W w')
  (h5:∀W B,Below w.heap.size w W->Box W B 117 A->Calls Tryz.prog 237 #[.pointer (some ⟨B,0,none⟩)] W λe w'=>e=.returned (.bool true)∧Below W.heap.size W w')
  (h6:∀W B,Below w.heap.size w W->Box W B 117 A->Calls Tryz.prog 238 #[.pointer (some ⟨B,0,none⟩)] W λe w'=>e=.returned (.bool true)∧Below W.heap.size W w')
  (h7:∀W B,Below w.heap.size w W->Box W B 117 A->Calls Tryz.prog 239 #[.pointer (some ⟨B,0,none⟩)] W λe w'=>e=.returned (.bool true)∧Below W.heap.size W w')
  : Calls Tryz.prog 222 #[.agg A] w λe w'=>e=.returned (.int .i64 0)∧Below w.heap.size w w':=by
 have hmf:∀(fn:Fn) (first cap:Array Value) (w:World),(Instr.makeFunc fn first cap).run Tryz.prog w=.ok (.func fn first cap) w:=λ_ _ _ _=>rfl;go_enter Tryz.func222,Tryz.ntmps222
 go_wp2
 refine Zbo λW hB hs b0=>?_;have hi7:(Tryz.prog.info? 291).map (·.size)=some 7:=Zk;go_step3
 go_wp2_with first|(refine Zaq rfl 291 rfl _ Zqs ?_;intro W1 B1 hle hB1 b1)|(refine Zab rfl 291 (.tmp 3) (.tmp 16) rfl B1 0 291 _ (tests7 w.heap.size) (tests7 w.heap.size) rfl rfl b1 hi7 (Yaa rfl) (by simp[tests7,Value.oneCell']) rfl ?_;intro W2 hk2 b2)|(refine Zac rfl 291 (.tmp 3) rfl B1 rfl 291 _ b2 _ Tryz.underlying291 rfl hi7 ?_)
 have lb0:=b0.lt;have hBW:Below w.heap.size w W2:=hk2.below (Zaa hB hB1) Zo (by have:=hB1.size;omega);have b02:Box W2 w.heap.size 117 A:=hk2.box (b0.below hB1) (by have:=hB1.size;omega) Zo;clear hk2;go_step3
 go_wp2_with first|(refine Zac rfl 291 (.tmp 3) rfl B1 rfl 291 _ b2 _ Tryz.underlying291 rfl hi7 ?_)
 clear b0 b1 b2 hB1 hle hB;obtain⟨g1,g2,g3,g4,g5,g6,g7⟩:=Zke;go_loopw [4,18] (λl a wr=>∃k:Nat,k<=7∧l=.int .i64 0∧a=.int .i64 (k:Int)∧Below W2.heap.size W2 wr) (λ_ a _=>(7-intOf a).toNat)
 case atStart=>exact⟨0,Yat _,rfl,rfl,Yae _ _⟩
 case round=>
  obtain⟨k,hk,rfl,rfl,hBr⟩:=hrel;have hb0:=b02.below hBr;by_cases h0:k<7
  ·rcases(by omega:k=0∨k=1∨k=2∨k=3∨k=4∨k=5∨k=6) with rfl|rfl|rfl|rfl|rfl|rfl|rfl
   ·have hx:∀w0,(Instr.index 291 (.agg (tests7 w.heap.size)) (.int .i64 0)).run Tryz.prog w0=.ok (.func (.func 229) #[] #[.pointer (some ⟨w.heap.size,0,none⟩)]) w0:=λ_=>by kernel_rfl
    go_wp2_with fail
    refine(h1 _ _ (Zaa hBW hBr) hb0).mono ?_;rintro e w' ⟨rfl,hb⟩;go_wp2
    go_roundw
    case rel=>exact⟨1,Zo,rfl,rfl,Zaa hBr hb⟩
    case measure=>simp[intOf]
   ·have hx:∀w0,(Instr.index 291 (.agg (tests7 w.heap.size)) (.int .i64 1)).run Tryz.prog w0=.ok (.func (.func 233) #[] #[.pointer (some ⟨w.heap.size,0,none⟩)]) w0:=λ_=>by kernel_rfl
    go_wp2_with fail
    refine(h2 _ _ (Zaa hBW hBr) hb0).mono ?_;rintro e w' ⟨rfl,hb⟩;go_wp2
    go_roundw
    case rel=>exact⟨2,Zo,rfl,rfl,Zaa hBr hb⟩
    case measure=>simp[intOf]
   ·have hx:∀w0,(Instr.index 291 (.agg (tests7 w.heap.size)) (.int .i64 2)).run Tryz.prog w0=.ok (.func (.func 235) #[] #[.pointer (some ⟨w.heap.size,0,none⟩)]) w0:=λ_=>by kernel_rfl
    go_wp2_with fail
    refine(h3 _ _ (Zaa hBW hBr) hb0).mono ?_;rintro e w' ⟨rfl,hb⟩;go_wp2
    go_roundw
    case rel=>exact⟨3,Zo,rfl,rfl,Zaa hBr hb⟩
    case measure=>simp[intOf]
   ·have hx:∀w0,(Instr.index 291 (.agg (tests7 w.heap.size)) (.int .i64 3)).run Tryz.prog w0=.ok (.func (.func 236) #[] #[.pointer (some ⟨w.heap.size,0,none⟩)]) w0:=λ_=>by kernel_rfl
    go_wp2_with fail
    refine(h4 _ _ (Zaa hBW hBr) hb0).mono ?_;rintro e w' ⟨rfl,hb⟩;go_wp2
    go_roundw
    case rel=>exact⟨4,Zo,rfl,rfl,Zaa hBr hb⟩
    case measure=>simp[intOf]
   ·have hx:∀w0,(Instr.index 291 (.agg (tests7 w.heap.size)) (.int .i64 4)).run Tryz.prog w0=.ok (.func (.func 237) #[] #[.pointer (some ⟨w.heap.size,0,none⟩)]) w0:=λ_=>by kernel_rfl
    go_wp2_with fail
    refine(h5 _ _ (Zaa hBW hBr) hb0).mono ?_;rintro e w' ⟨rfl,hb⟩;go_wp2
    go_roundw
    case rel=>exact⟨5,Zo,rfl,rfl,Zaa hBr hb⟩
    case measure=>simp[intOf]
   ·have hx:∀w0,(Instr.index 291 (.agg (tests7 w.heap.size)) (.int .i64 5)).run Tryz.prog w0=.ok (.func (.func 238) #[] #[.pointer (some ⟨w.heap.size,0,none⟩)]) w0:=λ_=>by kernel_rfl
    go_wp2_with fail
    refine(h6 _ _ (Zaa hBW hBr) hb0).mono ?_;rintro e w' ⟨rfl,hb⟩;go_wp2
    go_roundw
    case rel=>exact⟨6,Zo,rfl,rfl,Zaa hBr hb⟩
    case measure=>simp[intOf]
   ·have hx:∀w0,(Instr.index 291 (.agg (tests7 w.heap.size)) (.int .i64 6)).run Tryz.prog w0=.ok (.func (.func 239) #[] #[.pointer (some ⟨w.heap.size,0,none⟩)]) w0:=λ_=>by kernel_rfl
    go_wp2_with fail
    refine(h7 _ _ (Zaa hBW hBr) hb0).mono ?_;rintro e w' ⟨rfl,hb⟩;go_wp2
    go_roundw
    case rel=>exact⟨7,Zo,rfl,rfl,Zaa hBr hb⟩
    case measure=>simp[intOf]
  ·obtain rfl:k=7:=by omega
   rw[show((7:Nat):Int)=7 from rfl];have f21:wr.cell? ⟨w.heap.size,21,none⟩=some (.slice p n c):=(hb0.cell 21).trans a21;have lwr:=hb0.lt;obtain⟨w5,hw5⟩:∃w5,w5=wr:=⟨wr,rfl⟩
   rw[<-hw5]at hBr hb0 f21 lwr ⊢;clear hw5 h1 h2 h3 h4 h5 h6 h7;have hf5:=hfs.below (Zaa hBW hBr);clear hfs;have hsz:∀f:Flm,(Tryz.prog.info? 233).map (·.size)=some f.vals.size:=λ_=>Zk;have h1c:∀f:Flm,f.vals.all (·.oneCell')=true:=λf=>by simp[Flm.vals,Value.oneCell']
   have hcs:∀f:Flm,f.vals.size=3:=λ_=>rfl;have hfl:=λi (hi:i<n) W=>Ztj (F i) W;replace hF:=Yah hF;go_wp2
   go_loopw [4,28] (λl a w6=>∃j:Nat,j<=n∧l=.int .i64 0∧a=.int .i64 (j:Int)∧Below w5.heap.size w5 w6) (λ_ a _=>(n-intOf a).toNat)
   case atStart=>exact⟨0,Yat _,rfl,rfl,Yae _ _⟩
   case round=>
    obtain⟨j,hj,rfl,rfl,hB6⟩:=hrel;by_cases hjn:j<n
    ·obtain⟨b,off,rfl,lb,hrg⟩:=hf5.range Zo
     have hrgw:=hrg j hjn wr hB6;have lbw:=Yaf lb hB6.size;have hflj:=hfl j hjn;rw[decide_eq_true (hF.out j hjn)]at hflj;have hszj:=hsz (F j);have hslj:(Tryz.prog.info? 233).map (·.size)=some (F j).vals.toList.length:=hszj;have h1j:=h1c (F j);have hcj:=hcs (F j);have hj':(j:Int)<n:=Zo;generalize (F j).vals=A3 at *;clear hfl hsz h1c hcs hrg hf5 hF;go_wp2_with first|(refine wpList_load_mid rfl 233 _ rfl b (off+j*3) rfl A3.toList _ hrgw Tryz.underlying233 rfl hslj ?_)|(refine Zaq rfl 233 rfl _ Zoh ?_;intro W1 B1 hle hB1 b1)|(refine Zab rfl 233 _ _ rfl B1 0 233 _ A3 A3 rfl rfl b1 hszj (Ybl (by rw[hcj];rfl)) h1j (Zah (by rw[hcj];rfl)) ?_;intro W2 hk2 b2)|(refine Zbe (by rfl) 233 (.tmp 8) rfl B1 0 rfl A3.toList _ b2.range Tryz.underlying233 rfl hslj ?_)
     have hB2:Below w5.heap.size w5 W2:=Zaa hB6 (hk2.below hB1 hle hB1.size);refine(hflj W2).mono ?_;rintro e W3 ⟨rfl,hb3⟩;go_wp2
     go_roundw
     case rel=>exact⟨j+1,Zo,rfl,Zs,Zaa hB2 hb3⟩
     case measure=>simp[intOf];omega
    ·obtain rfl:j=n:=by omega
     clear hfl hsz h1c hcs hf5 hF;go_wp2
     try rw[Exit.noGoto_ret]
     go_ret
     exact⟨rfl,Zaa (Zaa hBW hBr) hB6⟩
theorem Zqt (s:Srf) (hs:s.ok) (p:Option Addr) (c:Nat) (w:World) (hco:CoatAt w p c s.co) :
  Calls Tryz.prog 222 #[.agg (s.cs p c)] w λe w'=>e=.returned (.int .i64 0)∧Below w.heap.size w w':=
 Zkf (s.cs p c) p c s.co.length _ (λi hi=>hs.films _ (by rw[Yac,Yao hi];exact Ybw hi)) hs.coats rfl w hco (λW B hW b=>Zog s hs p c B W b (hco.below hW)) (λW B _ b=>Zn6 s hs p c B W b) (λW B _ b=>Zn7 s hs p c B W b) (λW B _ b=>Zn8 s hs p c B W b) (λW B _ b=>Zn5 s hs p c B W b) (λW B _ b=>Zn4 s hs p c B W b) (λW B _ b=>Zn3 s hs p c B W b)
end Go.Proofs.W
