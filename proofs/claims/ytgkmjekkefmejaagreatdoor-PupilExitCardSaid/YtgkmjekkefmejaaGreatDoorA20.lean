/- Contracts of package matrix,and a verified evaluator. Part 20 of 27. No condition beside the row. -/
import Derived.Outline
import Derived.Test.YtgkmjekkefmejaaGreatDoorA02
import Derived.Test.YtgkmjekkefmejaaGreatDoorA18
set_option linter.unusedVariables false
set_option linter.unusedSimpArgs false
set_option maxRecDepth 100000
set_option maxHeartbeats 4000000
namespace Go.Proofs.W
open Go.RowKit Go.Mono
section
attribute [local go_sem] Oper.semAt_some
def spaceKind (a:Lns) (i:Nat):Int:=if(a.S i).glass=mirror∨(a.S i).kind=3∨(a.S i).kind=4∨i+1=a.ns then 2 else if(a.S i).glass = {data:=#[]} then 0 else 1
theorem Zg1 (a:Lns) (k:Nat):((a.S k).glass = {data:=#[77,73,82,82,79,82]}∧spaceKind a k=2)∨(((a.S k).glass.toList==[77,73,82,82,79,82])=false∧(a.S k).kind=3∧spaceKind a k=2)∨
  (((a.S k).glass.toList==[77,73,82,82,79,82])=false∧((a.S k).kind==3)=false∧(a.S k).kind=4∧spaceKind a k=2)∨(((a.S k).glass.toList==[77,73,82,82,79,82])=false∧((a.S k).kind==3)=false∧((a.S k).kind==4)=false∧((k:Int)==(a.ns:Int)-1)=true∧spaceKind a k=2)∨
  (((a.S k).glass.toList==[77,73,82,82,79,82])=false∧((a.S k).kind==3)=false∧((a.S k).kind==4)=false∧((k:Int)==(a.ns:Int)-1)=false∧(a.S k).glass.toList.isEmpty=true∧spaceKind a k=0)∨
  (((a.S k).glass.toList==[77,73,82,82,79,82])=false∧((a.S k).kind==3)=false∧((a.S k).kind==4)=false∧((k:Int)==(a.ns:Int)-1)=false∧(a.S k).glass.toList.isEmpty=false∧spaceKind a k=1):=by
 by_cases h1:(a.S k).glass=mirror
 ·exact .inl ⟨h1,by simp[spaceKind,h1]⟩
 ·have b1:=Zjo h1
  by_cases h2:(a.S k).kind=3
  ·exact .inr (.inl ⟨b1,h2,by simp[spaceKind,h2]⟩)
  ·have b2:((a.S k).kind==3)=false:=by simpa using h2
   by_cases h3:(a.S k).kind=4
   ·exact .inr (.inr (.inl ⟨b1,b2,h3,by simp[spaceKind,h3]⟩))
   ·have b3:((a.S k).kind==4)=false:=by simpa using h3
    by_cases h4:k+1=a.ns
    ·exact .inr (.inr (.inr (.inl ⟨b1,b2,b3,by simp;omega,by simp[spaceKind,h4]⟩)))
    ·have b4:((k:Int)==(a.ns:Int)-1)=false:=by rw[beq_eq_false_iff_ne];omega
     by_cases h5:(a.S k).glass = {data:=#[]}
     ·exact .inr (.inr (.inr (.inr (.inl ⟨b1,b2,b3,b4,by rw[h5];simp[Ycs],by
       have:¬({data:=#[]}:ByteArray)=mirror:=by rw[<-h5];exact h1
       simp[spaceKind,h2,h3,h4,h5,this]⟩))))
     ·refine .inr (.inr (.inr (.inr (.inr ⟨b1,b2,b3,b4,?_,by simp[spaceKind,h1,h2,h3,h4,h5]⟩))))
      rw[Bool.eq_false_iff];intro e;apply h5;have e':(a.S k).glass.toList=[]:=by simpa using e
      have hd:(a.S k).glass.data.toList=[]:=by rw[<-e'];simp[Ycs]
      cases hg:(a.S k).glass with
      | mk d =>
        rw[hg]at hd;simp only[Ydw];exact Yfo (by simpa using hd)
theorem Zpq (F:Fence) (n:Nat) (hF:F.fn 142) (hro:F.round=none) (hn:2<=n) (a:Lns) (ha:1<=a.ns∧a.ns<=16) (q:Plc) (M:Nat) :
  IterAll F n Tryz.prog 142 #[.pointer (some ⟨M,0,none⟩)] #[] a.ns (λi=>#[.agg #[.int .i64 (i:Int),.int .i64 (spaceKind a i)]])
   (λV=>V.cell? ⟨M,7,none⟩=some (.slice q.ps a.ns q.cs)∧RdC V q.ps a.ns q.cs 22 (λi j=>((a.S i).cs (q.cp i) (q.cl i)).getD j undef)):=by
 intro l J W hK hJ hY h0;refine callsIn_of_wp Tryz.func142 rfl hF ?_ hro;simp only[Tryz.ntmps142,Yfl,Ybm,Ydf,Nat.reduceAdd,Nat.reduceSub,Yes,Yer,Yfm,Yey,Ydp,Ydi];obtain⟨hm,hr⟩:=hK _ _ h0;have hlt:M<W.heap.size:=block_lt_of_cell hm;obtain⟨b,off,hps,_⟩:=hr.2.2 Zo;rw[hps]at hm;gi_wp2
 gi_loopw [13] (λx wr=>∃k:Nat,k<=a.ns∧x=.int .i64 (k:Int)∧J k wr) (λx _=>(a.ns-intOf x).toNat)
 case atStart=>exact⟨0,Yat _,rfl,h0⟩
 case round=>
  obtain⟨k,hk,rfl,hj⟩:=hrel;obtain⟨hm,hr⟩:=hK _ _ hj;rw[hps]at hm;have hlt:M<wr.heap.size:=block_lt_of_cell hm;by_cases hkn:k<a.ns
  ·rw[hps]at hr
   obtain⟨b',off',hps',hbl,hcell⟩:=hr.2.2 Zo;obtain⟨rfl,rfl⟩:b=b'∧off=off':=by simpa using hps'
   clear hps';dsimp only at hcell;have hsz:(Tryz.prog.info? 85).map (·.size)=some ((a.S k).cs (q.cp k) (q.cl k)).size:=Zk;have hsl:(Tryz.prog.info? 85).map (·.size)=some ((a.S k).cs (q.cp k) (q.cl k)).toList.length:=Zk;have g0:((a.S k).cs (q.cp k) (q.cl k))[0]? = some (.int .i64 (a.S k).kind):=rfl;have g13:((a.S k).cs (q.cp k) (q.cl k))[13]? = some (.string (a.S k).glass):=rfl;have g1:((a.S k).cs (q.cp k) (q.cl k)).all (·.oneCell')=true:=by simp[Srf.cs,Value.oneCell']
   have gz:((a.S k).cs (q.cp k) (q.cl k)).size=22:=rfl;have hrange:wr.rangeAt b (off+k*22) ((a.S k).cs (q.cp k) (q.cl k)).toList:=λj v hv=>by
    have hj:j<22:=by
     have:=(Yan.1 hv).1;simpa[gz]using this
    refine(hcell k j hkn hj).trans ?_;rw[Yaq]at hv;rw[Yax,hv];rfl
   generalize (a.S k).cs (q.cp k) (q.cl k)=A at *;have hkn':(k:Int)<a.ns:=Zo;clear hcell hr;have hYk:=hY k;rcases Zg1 a k with ⟨c1,c5⟩|⟨c1,c2,c5⟩|⟨c1,c2,c3,c5⟩|⟨c1,c2,c3,c4,c5⟩|⟨c1,c2,c3,c4,c6,c5⟩|⟨c1,c2,c3,c4,c6,c5⟩
   all_goals
    rw[c5]at hYk;clear c5 hY;generalize (a.S k).glass=G at *;generalize (a.S k).kind=kd at *
   all_goals try subst c1
   all_goals try subst c2
   all_goals try subst c3
   all_goals try subst c6
   all_goals
    gi_wp2_with first|(refine Zfk rfl 85 _ rfl b (off+k*22) rfl A.toList _ hrange Tryz.underlying85 rfl hsl ?_)|(refine Zlh rfl 85 rfl _ Za6 ?_;intro W1 B1 hle hB1 b1)|(refine Zew rfl 85 (.tmp 5) (.tmp 17) rfl B1 0 85 _ A A rfl rfl b1 hsz (Ybl (by rw[gz];rfl)) g1 (Zag (by rw[gz];rfl)) ?_;intro W2 hk2 _ b2;have hBW2:Below wr.heap.size wr W2:=hk2.below hB1 hle hB1.size;have f0:=(b2.cell 0).trans g0;have f13:=(b2.cell 13).trans g13;have lb2:=b2.lt;have fm:=(hBW2.cell (p:=⟨M,7,none⟩) hlt).trans hm;have ltM:=Yaf hlt hBW2.size;obtain⟨fn,tmps,assign,body,hy,hR⟩:=hYk W2 (hJ k wr W2 hj hBW2) hkn)
    refine⟨λ_=>Zo,hR.mono ?_⟩;rintro e W3 ⟨rfl,hJ3⟩;gi_wp2
    go_roundw
    case rel=>exact⟨k+1,Zo,Zs,hJ3⟩
    case measure=>simp[intOf];omega
  ·obtain rfl:k=a.ns:=by omega
   gi_wp2
   go_end0
   exact⟨⟨_,rfl⟩,hj⟩
end
end Go.Proofs.W
