/- Contracts of package paraxial,and a verified evaluator. Part 19 of 26. No condition beside the row. -/
import Derived.Outline
import Derived.Test.YtpfpiecljfimjaaGreatDoorA04
import Derived.Test.YtpfpiecljfimjaaGreatDoorA13
import Derived.Test.YtpfpiecljfimjaaGreatDoorA16
import Derived.Test.YtpfpiecljfimjaaGreatDoorA18
set_option linter.unusedVariables false
set_option linter.unusedSimpArgs false
set_option maxRecDepth 100000
set_option maxHeartbeats 4000000
namespace Go.Proofs.W
open Go.RowKit Go.Mono
section
attribute [local go_sem] Oper.semAt_some
def spaceKind (a:Lns) (i:Nat):Int:=if(a.S i).glass=mirror∨(a.S i).kind=3∨(a.S i).kind=4∨i+1=a.ns then 2 else if(a.S i).glass = {data:=#[]} then 0 else 1
theorem Zgz (a:Lns) (k:Nat):((a.S k).glass = {data:=#[77,73,82,82,79,82]}∧spaceKind a k=2)∨(((a.S k).glass.toList==[77,73,82,82,79,82])=false∧(a.S k).kind=3∧spaceKind a k=2)∨
  (((a.S k).glass.toList==[77,73,82,82,79,82])=false∧((a.S k).kind==3)=false∧(a.S k).kind=4∧spaceKind a k=2)∨(((a.S k).glass.toList==[77,73,82,82,79,82])=false∧((a.S k).kind==3)=false∧((a.S k).kind==4)=false∧((k:Int)==(a.ns:Int)-1)=true∧spaceKind a k=2)∨
  (((a.S k).glass.toList==[77,73,82,82,79,82])=false∧((a.S k).kind==3)=false∧((a.S k).kind==4)=false∧((k:Int)==(a.ns:Int)-1)=false∧(a.S k).glass.toList.isEmpty=true∧spaceKind a k=0)∨
  (((a.S k).glass.toList==[77,73,82,82,79,82])=false∧((a.S k).kind==3)=false∧((a.S k).kind==4)=false∧((k:Int)==(a.ns:Int)-1)=false∧(a.S k).glass.toList.isEmpty=false∧spaceKind a k=1):=by
 by_cases h1:(a.S k).glass=mirror
 ·exact .inl ⟨h1,by simp[spaceKind,h1]⟩
 ·have b1:=Zge h1
  by_cases h2:(a.S k).kind=3
  ·exact .inr (.inl ⟨b1,h2,by simp[spaceKind,h2]⟩)
  ·have b2:((a.S k).kind==3)=false:=by simpa using h2
   by_cases h3:(a.S k).kind=4
   ·exact .inr (.inr (.inl ⟨b1,b2,h3,by simp[spaceKind,h3]⟩))
   ·have b3:((a.S k).kind==4)=false:=by simpa using h3
    by_cases h4:k+1=a.ns
    ·exact .inr (.inr (.inr (.inl ⟨b1,b2,b3,by simp;omega,by simp[spaceKind,h4]⟩)))
    ·have b4:((k:Int)==(a.ns:Int)-1)=false:=by rw[beq_eq_false_iff_ne];omega
     by_cases h5:(a.S k).glass = {data:=#[]}
     ·exact .inr (.inr (.inr (.inr (.inl ⟨b1,b2,b3,b4,by rw[h5];simp[Ycs],by
       have:¬({data:=#[]}:ByteArray)=mirror:=by rw[<-h5];exact h1
       simp[spaceKind,h2,h3,h4,h5,this]⟩))))
     ·refine .inr (.inr (.inr (.inr (.inr ⟨b1,b2,b3,b4,?_,by simp[spaceKind,h1,h2,h3,h4,h5]⟩))))
      rw[Bool.eq_false_iff];intro e;apply h5;have e':(a.S k).glass.toList=[]:=by simpa using e
      have hd:(a.S k).glass.data.toList=[]:=by rw[<-e'];simp[Ycs]
      cases hg:(a.S k).glass with
      | mk d =>
        rw[hg]at hd;simp only[Ydw];exact Yfo (by simpa using hd)
theorem Zo0 (F:Fence) (n:Nat) (hF:F.fn 123) (hro:F.round=none) (hn:2<=n) (a:Lns) (ha:1<=a.ns∧a.ns<=16) (q:Plc) (M:Nat) :
  IterAll F n Tryz.prog 123 #[.pointer (some ⟨M,0,none⟩)] #[] a.ns (λi=>#[.agg #[.int .i64 (i:Int),.int .i64 (spaceKind a i)]])
   (λV=>V.cell? ⟨M,7,none⟩=some (.slice q.ps a.ns q.cs)∧RdC V q.ps a.ns q.cs 22 (λi j=>((a.S i).cs (q.cp i) (q.cl i)).getD j undef)):=by
 intro l J W hK hJ hY h0;refine callsIn_of_wp Tryz.func123 rfl hF ?_ hro;simp only[Tryz.ntmps123,Yfl,Ybm,Ydf,Nat.reduceAdd,Nat.reduceSub,Yes,Yer,Yfm,Yey,Ydp,Ydi];obtain⟨hm,hr⟩:=hK _ _ h0;have hlt:M<W.heap.size:=block_lt_of_cell hm;obtain⟨b,off,hps,_⟩:=hr.2.2 Zo;rw[hps]at hm;gi_wp2
 gi_loopw [13] (λx wr=>∃k:Nat,k<=a.ns∧x=.int .i64 (k:Int)∧J k wr) (λx _=>(a.ns-intOf x).toNat)
 case atStart=>exact⟨0,Yat _,rfl,h0⟩
 case round=>
  obtain⟨k,hk,rfl,hj⟩:=hrel;obtain⟨hm,hr⟩:=hK _ _ hj;rw[hps]at hm;have hlt:M<wr.heap.size:=block_lt_of_cell hm;by_cases hkn:k<a.ns
  ·rw[hps]at hr
   obtain⟨b',off',hps',hbl,hcell⟩:=hr.2.2 Zo;obtain⟨rfl,rfl⟩:b=b'∧off=off':=by simpa using hps'
   clear hps';dsimp only at hcell;have hsz:(Tryz.prog.info? 115).map (·.size)=some ((a.S k).cs (q.cp k) (q.cl k)).size:=Zk;have hsl:(Tryz.prog.info? 115).map (·.size)=some ((a.S k).cs (q.cp k) (q.cl k)).toList.length:=Zk;have g0:((a.S k).cs (q.cp k) (q.cl k))[0]? = some (.int .i64 (a.S k).kind):=rfl;have g13:((a.S k).cs (q.cp k) (q.cl k))[13]? = some (.string (a.S k).glass):=rfl;have g1:((a.S k).cs (q.cp k) (q.cl k)).all (·.oneCell')=true:=by simp[Srf.cs,Value.oneCell']
   have gz:((a.S k).cs (q.cp k) (q.cl k)).size=22:=rfl;have hrange:wr.rangeAt b (off+k*22) ((a.S k).cs (q.cp k) (q.cl k)).toList:=λj v hv=>by
    have hj:j<22:=by
     have:=(Yan.1 hv).1;simpa[gz]using this
    refine(hcell k j hkn hj).trans ?_;rw[Yaq]at hv;rw[Yax,hv];rfl
   generalize (a.S k).cs (q.cp k) (q.cl k)=A at *;have hkn':(k:Int)<a.ns:=Zo;clear hcell hr;have hYk:=hY k;rcases Zgz a k with ⟨c1,c5⟩|⟨c1,c2,c5⟩|⟨c1,c2,c3,c5⟩|⟨c1,c2,c3,c4,c5⟩|⟨c1,c2,c3,c4,c6,c5⟩|⟨c1,c2,c3,c4,c6,c5⟩
   all_goals
    rw[c5]at hYk;clear c5 hY;generalize (a.S k).glass=G at *;generalize (a.S k).kind=kd at *
   all_goals try subst c1
   all_goals try subst c2
   all_goals try subst c3
   all_goals try subst c6
   all_goals
    gi_wp2_with first|(refine Zfm rfl 115 _ rfl b (off+k*22) rfl A.toList _ hrange Tryz.underlying115 rfl hsl ?_)|(refine Zks rfl 115 rfl _ Zav ?_;intro W1 B1 hle hB1 b1)|(refine Zev rfl 115 (.tmp 5) (.tmp 17) rfl B1 0 115 _ A A rfl rfl b1 hsz (Ybl (by rw[gz];rfl)) g1 (Zaf (by rw[gz];rfl)) ?_;intro W2 hk2 _ b2;have hBW2:Below wr.heap.size wr W2:=hk2.below hB1 hle hB1.size;have f0:=(b2.cell 0).trans g0;have f13:=(b2.cell 13).trans g13;have lb2:=b2.lt;have fm:=(hBW2.cell (p:=⟨M,7,none⟩) hlt).trans hm;have ltM:=Yaf hlt hBW2.size;obtain⟨fn,tmps,assign,body,hy,hR⟩:=hYk W2 (hJ k wr W2 hj hBW2) hkn)
    refine⟨λ_=>Zo,hR.mono ?_⟩;rintro e W3 ⟨rfl,hJ3⟩;gi_wp2
    go_roundw
    case rel=>exact⟨k+1,Zo,Zs,hJ3⟩
    case measure=>simp[intOf];omega
  ·obtain rfl:k=a.ns:=by omega
   gi_wp2
   go_end0
   exact⟨⟨_,rfl⟩,hj⟩
end
theorem Zl9 (p q:Option Addr) (n c1 c2:Nat) (F G:Nat->Flm) (w:World) (h1:FilmsAt w p n c1 F) (h2:FilmsAt w q n c2 G) (he:∀i,i<n->F i=G i) :
  Calls Tryz.prog 244 #[.slice p n c1,.slice q n c2] w λe w'=>e=.returned (.bool true)∧∃k,w'=w.drewN k:=by
 have hnn:=h1.2.1;replace he:=Yah he;go_enter Tryz.func244,Tryz.ntmps244
 go_wp2
 go_loopw [13] (λa wr=>∃j:Nat,j<=n∧a=.int .i64 (j:Int)∧∃k,wr=w.drewN k) (λa _=>(n-intOf a).toNat)
 case atStart=>exact⟨0,Yat _,rfl,0,rfl⟩
 case round=>
  obtain⟨j,hj,rfl,k,rfl⟩:=hrel;have hB:Below w.heap.size w (w.drewN k):=below_drewN (Yae _ _) k;by_cases hjn:j<n
  ·obtain⟨b,off,rfl,hb,g1⟩:=h1.2.2 Zo
   obtain⟨b',off',rfl,hb',g2⟩:=h2.2.2 Zo;have a0:=g1 j 0 hjn Zd;have a1:=g1 j 1 hjn Zd;have a2:=g1 j 2 hjn Zd;have b0:=g2 j 0 hjn Zd;have b1:=g2 j 1 hjn Zd;have b2:=g2 j 2 hjn Zd;dsimp only at a0 a1 a2 b0 b1 b2;rw[<-he.out j hjn]at b0 b1 b2;simp only[show ∀f:Flm,f.vals = #[.int .i64 f.ix,.int .i64 f.p,.int .i64 f.q] from λ_=>rfl,Yce]at a0 a1 a2 b0 b1 b2;have hj':(j:Int)<n:=Zo;generalize (F j).ix=v0 at *;generalize (F j).p=v1 at *;generalize (F j).q=v2 at *;clear g1 g2 hB h1 h2;go_wp2
   go_quiet (fail)
   go_wp2
   go_roundw
   case rel=>exact⟨j+1,Zo,Zs,_,rfl⟩
   case measure=>simp[intOf];omega
  ·obtain rfl:j=n:=by omega
   clear h1 h2;go_wp2
   go_ret
   exact⟨rfl,k,rfl⟩
theorem Zkt:∀args w,(callFunc 243 args).run Tryz.prog w=.ok (.enter 243 args) w:=Go.Proofs.enters_of Tryz.func243 Zk rfl
theorem Zo1 (A C FL:Array Value) (hA:A.size=22) (hC:C.size=22) (p p':Option Addr) (nf c c':Nat) (a21:A[21]? = some (.slice p nf c)) (c21:C[21]? = some (.slice p' nf c'))
  (hca:∀W,Calls Tryz.prog 243 #[.agg A] W λe w'=>e=.returned (.agg FL)∧Below W.heap.size W w') (hcc:∀W,Calls Tryz.prog 243 #[.agg C] W λe w'=>e=.returned (.agg FL)∧Below W.heap.size W w')
  (heq:∀w,(binOp .eql 295 (.agg FL) (.agg FL)).run Tryz.prog w=.ok (.bool true) w) (w:World)
  (heqf:∀W,Below w.heap.size w W->Calls Tryz.prog 244 #[.slice p nf c,.slice p' nf c'] W λe w'=>e=.returned (.bool true)∧Below W.heap.size W w') :
  Calls Tryz.prog 225 #[.agg A,.agg C] w λe w'=>e=.returned (.bool true)∧Below w.heap.size w w':=by
 have hsz:(Tryz.prog.info? 115).map (·.size)=some 22:=Zk;have eg:=Zkt;go_enter Tryz.func225,Tryz.ntmps225
 go_wp2_with fail
 refine Zd3 λW hB hs b0 b1=>?_;have f0:W.cell? ⟨w.heap.size,21,none⟩=some (.slice p nf c):=(b0.cell 21).trans a21;have f1:W.cell? ⟨w.heap.size+1,21,none⟩=some (.slice p' nf c'):=(b1.cell 21).trans c21;have lb0:=b0.lt;have lb1:=b1.lt;have sA:(Tryz.prog.info? 115).map (·.size)=some A.size:=by rw[hsz,hA]
 have sC:(Tryz.prog.info? 115).map (·.size)=some C.size:=by rw[hsz,hC]
 clear hA hC hsz a21 c21;refine wp_region_held_drew (S:=λw'=>(∀b o,b<W.heap.size->w'.cell? ⟨b,o,none⟩=W.cell? ⟨b,o,none⟩)∧Below W.heap.size W w') Zk (Za1 (Yae _ _).drew) (λhHeld=>?_);refine tk 0 (some 6) ?_;refine tk 3 (some 9) ?_;refine tl 1 (some 7) rfl (.agg A) (Zai 115 _ rfl w.heap.size 0 rfl A (λw h=>(b0.below h.2).range) _ Tryz.underlying115 rfl sA) ?_;refine tl 4 (some 10) rfl (.agg C) (Zai 115 _ rfl (w.heap.size+1) 0 rfl C (λw h=>(b1.below h.2).range) _ Tryz.underlying115 rfl sC) ?_;refine Mono.st 2 ?_;intro K hK;go_simp
 (refine(hca _).mono ?_;rintro e W1 ⟨rfl,hb⟩)
 refine kp hK (Za1 (Zaa hHeld.2 hb)) (λhHeld=>?_);clear hK K;clear hb;refine Mono.st 5 ?_;intro K hK;go_simp
 (refine(hcc _).mono ?_;rintro e W2 ⟨rfl,hb⟩)
 refine kp hK (Za1 (Zaa hHeld.2 hb)) (λhHeld=>?_);clear hK K;clear hb;refine tk 6 (some 12) ?_;refine tk 7 (some 13) ?_;refine tk 8 (some 14) ?_;refine tk 9 (some 15) ?_;refine tk 10 (some 16) ?_;refine tk 11 (some 17) ?_;refine Mono.st 12 ?_;intro K hK;go_simp
 (refine(heqf _ (Zaa hB hHeld.2)).mono ?_;rintro e W3 ⟨rfl,hb⟩)
 refine kp hK (Za1 (Zaa hHeld.2 hb)) (λhHeld=>?_);clear hK K;refine tk 13 (some 19) ?_;refine tk 14 (some 4) ?_;refine wpAnyH_done Zk ?_ _;go_wp2
 go_ret
 exact⟨rfl,Zaa hB hHeld.2⟩
theorem Zwi (s:Srf) (hs:s.ok) (p p':Option Addr) (c c':Nat) (w:World) (h1:CoatAt w p c s.co) (h2:CoatAt w p' c' s.co) :
  Calls Tryz.prog 225 #[.agg (s.cs p c),.agg (s.cs p' c')] w λe w'=>e=.returned (.bool true)∧Below w.heap.size w w':=
 Zo1 (s.cs p c) (s.cs p' c') s.flds rfl rfl p p' s.co.length c c' rfl rfl (λW=>Zns s p c W) (λW=>Zns s p' c' W) (Zue s hs) w λW hW=>by
  refine(Zl9 p p' s.co.length c c' _ _ W (h1.below hW) (h2.below hW) λ_ _=>rfl).mono ?_;rintro e w' ⟨rfl,k,rfl⟩;exact⟨rfl,below_drewN (Yae _ _) k⟩
end Go.Proofs.W
