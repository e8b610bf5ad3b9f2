/- The drafted optics of chapter 13: what it is and that it is valid. Part 8 of 18. No condition beside the row. -/
import Derived.Test.YtdocaccajammkaaGreatDoorD07
set_option linter.unusedVariables false
set_option linter.unusedSimpArgs false
set_option maxRecDepth 100000
set_option maxHeartbeats 4000000
namespace Go.Proofs.W
open Go.RowKit Go.Mono
theorem Zlr (nm:ByteArray) (di pu st pr:Int) (pf:Option Addr) (n cf:Nat) (pw:Option Addr) (nw cw:Nat) (ps:Option Addr) (ns cs:Nat) (pc:Option Addr) (nc cc:Nat) (X Y:Nat->Int) (hn:1<=n∧n<=5) (M:Int) (hM:M=if di=0 then 1000000 else 1000000000)
  (hr:∀i,i<n->In M (X i)∧In M (Y i)) (hd:∀i k,k<i->i<n->¬(X i=X k∧Y i=Y k)) (w:World) (h:RdC w pf n cf 2 (λi j=>if j=0 then .int .i64 (X i) else .int .i64 (Y i))) :
  Calls Tryz.prog 192 #[.agg (lcs nm di pu st pr pf n cf pw nw cw ps ns cs pc nc cc)] w λe w'=>e=.returned (.bool true)∧Below w.heap.size w w':=by
 obtain⟨hcap,_,hx⟩:=h;obtain⟨b,off,rfl,hb,hcell⟩:=hx Zo;have hce:=λW (hW:Below w.heap.size w W) k (hk:k<n) j (hj:j<2)=>(hW.cell (p:=⟨b,off+k*2+j,none⟩) hb).trans (hcell k j hk hj);clear hcell hx;have hcs:di=0∧M=1000000∨(di==0)=false∧M=1000000000:=by
  rw[hM];by_cases h0:di=0
  ·exact .inl ⟨h0,by rw[if_pos h0]⟩
  ·exact .inr ⟨beq_eq_false_iff_ne.2 h0,by rw[if_neg h0]⟩
 clear hM;replace hd:=Yah hd;unfold lcs;rcases hcs with ⟨rfl,rfl⟩|⟨hdi,rfl⟩
 all_goals
  go_enter Tryz.func192,Tryz.ntmps192
  go_wp2_with fail
  refine Zbs λW hB hsz bS=>?_;have cS:=bS.cell;have lS:=bS.lt;have hbW:=Yaf hb hB.size;have ce0:∀k,k<n->W.cell? ⟨b,off+k*2,none⟩=some (.int .i64 (X k)):=λk hk=>by simpa using hce W hB k hk 0 Zd
  have ce1:∀k,k<n->W.cell? ⟨b,off+k*2+1,none⟩=some (.int .i64 (Y k)):=λk hk=>by simpa using hce W hB k hk 1 Zd
  clear hce;go_loopw [4] (λx wr=>∃i:Nat,i<=n∧x=.int .i64 (i:Int)∧∃q,wr=W.drewN q) (λx _=>(n-intOf x).toNat)
  case atStart=>exact⟨0,Zo,rfl,0,rfl⟩
  case round=>
   obtain⟨i,hi,rfl,q,rfl⟩:=hrel;by_cases hin:i<n
   ·have x0:=ce0 i hin
    have y0:=ce1 i hin;have hi':(i:Int)<n:=Zo;have q1:=λV=>Za8 (X i) _ _ (hr i hin).1.1 (hr i hin).1.2 V;have q2:=λV=>Za8 (Y i) _ _ (hr i hin).2.1 (hr i hin).2.2 V;clear hr;go_wp2_with (go_at_call 191;(first|with_reducible refine(q1 _).mono ?_|with_reducible refine(q2 _).mono ?_);rintro e w5 ⟨rfl,h5⟩;rw[h5];clear h5 w5)
    clear q1 q2;go_loopw [5] (λx w6=>∃j:Nat,j<=i∧x=.int .i64 (j:Int)∧∃q',w6=W.drewN q') (λx _=>(i-intOf x).toNat)
    case atStart=>exact⟨0,Zo,rfl,q,rfl⟩
    case round=>
     obtain⟨j,hj,rfl,q',rfl⟩:=hrel;by_cases hji:j<i
     ·have x1:=ce0 j Zo
      have y1:=ce1 j Zo;have hji':(j:Int)<i:=Zo;have hjn':(j:Int)<n:=Zo;have hne:=hd.out i j hji hin;clear ce0 ce1 hd;generalize X i=xi at *;generalize Y i=yi at *;generalize X j=xj at *;generalize Y j=yj at *;by_cases hx:xi=xj
      ·subst hx
       have hy:(yi==yj)=false:=beq_eq_false_iff_ne.2 λe=>hne ⟨rfl,e⟩;have hy':¬yi=yj:=λe=>hne ⟨rfl,e⟩;clear hne;go_wp2
       go_quiet (fail)
       go_wp2
       go_roundw
       case rel=>exact⟨j+1,Zo,Zs,_,rfl⟩
       case measure=>simp[intOf];omega
      ·have hx':(xi==xj)=false:=beq_eq_false_iff_ne.2 hx
       clear hne;go_wp2
       go_quiet (fail)
       go_wp2
       go_roundw
       case rel=>exact⟨j+1,Zo,Zs,_,rfl⟩
       case measure=>simp[intOf];omega
     ·obtain rfl:j=i:=by omega
      clear ce0 ce1 hd;go_wp2
      go_roundw
      case rel=>exact⟨j+1,Zo,Zs,_,rfl⟩
      case measure=>simp[intOf];omega
   ·obtain rfl:i=n:=by omega
    have w1:=λV=>Za8 (i:Int) 1 5 Zo Zo V;clear ce0 ce1 hd hr;go_wp2_with (go_at_call 191;with_reducible refine(w1 _).mono ?_;rintro e w5 ⟨rfl,h5⟩;rw[h5];clear h5 w5)
    go_ret
    exact⟨rfl,below_drewN hB _⟩
end Go.Proofs.W
