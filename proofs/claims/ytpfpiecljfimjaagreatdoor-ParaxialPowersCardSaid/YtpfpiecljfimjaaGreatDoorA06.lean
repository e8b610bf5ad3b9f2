/- Contracts of package paraxial,and a verified evaluator. Part 6 of 26. No condition beside the row. -/
import Derived.WalkMore
import Derived.Outline
import Derived.Laws.Pointers
import Derived.Deep.DeepCutAuto
import Derived.Test.YtpfpiecljfimjaaGreatDoorA02
import Derived.Test.YtpfpiecljfimjaaGreatDoorA03
import Derived.Test.YtpfpiecljfimjaaGreatDoorA04
import Derived.Test.YtpfpiecljfimjaaGreatDoorA05
set_option linter.unusedVariables false
set_option linter.unusedSimpArgs false
set_option maxRecDepth 100000
set_option maxHeartbeats 4000000
namespace Go.Mono
open Go.RowKit
theorem Zbd {P:Program} {ops:Array Oper} {rest:List Oper} {op:Oper} {a:Act} {w:World} {Q:Exit->Act->World->Prop} (hw:Region.wanted op (yielded ops a.tmps)=true) (ty:TypeId) (x:Operand) (ho:op.op=.load ty x)
  (b o:Nat) (hx:a.eval x=.pointer (some ⟨b,o,none⟩)) (cs:List Value) (d:TypeDesc) (hc:w.rangeAt b o cs)
  (hu:P.underlying ty=some d) (hd:d.isRow=true) (hi:(P.info? ty).map (·.size)=some cs.length)
  (h:wpList P ops Q rest (a.put op.dst (.agg cs.toArray)) w):wpList P ops Q (op::rest) a w:=
 wpList_step λK hK=>by
  simp only[hw,if_true];exact wp_load_mid ty x ho b o hx cs d hc hu hd hi (hK _ _ h)
theorem Box.resultsT {P:Program} {w:World} {B:Nat} {T:TypeId} {cs:Array Value} (b:Box w B T cs) {fn:Func} {p p1:Tmp} {ty:TypeId} (h:fn.results = #[.cell p ty,.tmp p1]) (tmps:Array Value) (d:TypeDesc)
  (ht:tmps.getD p undef=.pointer (some ⟨B,0,none⟩)) (hu:P.underlying ty=some d) (hd:d.isRow=true) (hi:(P.info? ty).map (·.size)=some cs.size):(Go.results fn tmps).run P w=.ok (.tuple #[.agg cs,tmps.getD p1 undef]) w:=by
 have hp':tmps[p]?.getD undef=.pointer (some ⟨B,0,none⟩):=by simpa using ht
 have hld:=run_loadVar_row (P:=P) w B T ty cs (0,0) d b.blk hu (by cases d<;>simp_all [TypeDesc.isRow]) hi;simp[Go.results,h,hp',asAddr,hld]
theorem Zr1 {f:Nat->Int} {k:Nat} (h0:∀i,i<k->0<=f i) (h1:∀i,i<k->f i<1000000000):(0<trimN f k)↔0<vf f k:=by
 obtain⟨a,b⟩:=Zb2 h0 h1;rw[<-b];exact a.pos.symm
theorem Zpb {f:Nat->Int} {k:Nat} (h:¬(0<k∧f (k-1)=0)):trimN f k=k:=by
 by_cases hk:0<k
 ·exact Zm4 f k hk (λe=>h ⟨hk,e⟩)
 ·obtain rfl:k=0:=by omega
  rfl
end Go.Mono
namespace Go.Proofs.W
open Go.RowKit Go.Mono
theorem Zae:(Tryz.prog.info? 49).map (·.size)=some 2:=Zk
theorem Zmh (neg nb:Bool) (p:Option Addr) (n c K:Nat) (f:Nat->Int) (w:World) (h:SlF w (.slice p n c) n f) (hn6:n<=1000000) (hK:Hid (trimN f n=K)) (hN:Hid ((neg&&decide (0<K))=nb)) :
  Calls Tryz.prog 165 #[.bool neg,.slice p n c] w λe w'=>∃v,e=.returned (.agg #[.bool nb,v])∧OwnF w' w.heap.size v K f∧Below w.heap.size w w':=by
 obtain⟨hc,hn,hx⟩:=h.opens;have hsl:=h;clear h;go_enter Tryz.func165,Tryz.ntmps165
 go_wp2_with fail
 refine Zb1 λW hB hs b0=>?_;go_loopw [5] (λa wr=>∃k:Nat,k<=n∧a=.int .i64 (k:Int)∧trimN f k=trimN f n∧wr=W) (λa _=>(intOf a).toNat)
 case atStart=>exact⟨n,Yab _,rfl,rfl,rfl⟩
 case round=>
  obtain⟨k,hk,rfl,ht,hWe⟩:=hrel;obtain rfl:W=wr:=hWe.symm;have HT:=Yah ht;clear ht;by_cases h0:0<k∧f (k-1)=0
  ·obtain⟨hk0,hz⟩:=h0
   obtain⟨b,off,rfl,hb,hcell⟩:=hx Zo;have hcl:=(hB.cell (p:=⟨b,off+(k-1),none⟩) hb).trans (hcell (k-1) Zo);rw[hz]at hcl;obtain⟨k,rfl⟩:∃j,k=j+1:=⟨k-1,Zo⟩
   have hz':=Zh0 f (k+1) hk0 hz;simp only[Ybf]at hcl hz';replace hz':=Yah hz';replace hz:=Yah hz;clear hcell hx;go_wp2
   go_roundw
   case rel=>exact⟨k,Zo,Zs,by rw[<-hz'.out];exact HT.out,trivial⟩
   case measure=>simp[intOf]
  ·have hk':=Zpb h0
   obtain rfl:k=K:=by rw[<-hK.out,<-HT.out,hk']
   clear hK hk' HT;have hw0:=hB.size;by_cases hk0:0<k
   ·have hz:¬f (k-1)=0:=λe=>h0 ⟨hk0,e⟩
    obtain⟨b,off,rfl,hb,hcell⟩:=hx Zo;have hcl:=(hB.cell (p:=⟨b,off+(k-1),none⟩) hb).trans (hcell (k-1) Zo);obtain⟨k,rfl⟩:∃j,k=j+1:=⟨k-1,Zo⟩
    simp only[Ybf]at hcl hz;have hz2:(f k==0)=false:=by simpa using hz
    replace hz:=Yah hz;clear h0;cases neg;all_goals
     go_wp2
     go_loopw [7] (λa W2=>∃(i:Nat) (v:Value),i<=k+1∧a=.int .i64 (i:Int)∧OwnF W2 (W.heap.size+1) v i f∧Box W2 W.heap.size 49 #[.bool nb,v]∧Box W2 w.heap.size 49 #[.bool false,.slice none 0 0]∧Below w.heap.size w W2∧W.heap.size+1<=W2.heap.size) (λa _=>(k+1-intOf a).toNat)
     case atStart=>exact⟨0,_,Yat _,rfl,OwnF.nil _ _ _,by rw[<-hN.out];exact Box.new _ _ _,b0.alloc _,Zad hB _,Zs⟩
     case round=>
      obtain⟨i,v,hi,rfl,ho,b1,b2,hB2,hs2⟩:=hrel;by_cases hik:i<k+1
      ·have hci:=(hB2.cell (p:=⟨b,off+i,none⟩) hb).trans (hcell i Zo)
       have hik':(i:Int)<k+1:=Zo;obtain⟨pv,cv,rfl⟩:=ho.shape;have hin:i<n:=Zo;have hin':(i:Int)<n:=Zo;have bX1:=b1.drew;have bX2:=b2.drew;have hoX:=ho.below (Yae wr.heap.size wr).drew;have hBX:=hB2.drew;have hX1:wr.drew.cell? ⟨W.heap.size,1,none⟩=some (.slice pv i cv):=bX1.cell 1;have hX2:wr.drew.cell? ⟨b,off+i,none⟩=some (.int .i64 (f i)):=hci;have hsX:W.heap.size+1<=wr.drew.heap.size:=hs2;clear hcell hx hcl b1 b2 ho hci;go_wp2_with fail
       refine wp_region_held_drew (S:=λw'=>Below w.heap.size w w') Zx hBX (λhHeld=>?_);generalize wr.drew=X0 at *;refine tk 0 (some 33) ?_;refine tk 2 (some 35) ?_;refine tk 3 (some 36) ?_;refine tk 4 (some 37) ?_;refine Mono.fork2 1 5 ?_ ?_
       ·intro K hK
        refine Mono.arma (some 34) hK (.slice pv i cv) X0 hHeld (λhHeld=>Mono.pt ?_) rfl Zx (by go_simp);clear hK K;refine Mono.sta 5 (some 38) (.int .i64 (f i)) X0 hHeld (λhHeld=>Mono.pt ?_) rfl rfl Zx Zx (by go_simp);refine Mono.sta 6 (some 39) (.slice (some ⟨X0.heap.size,0,none⟩) 1 1) (X0.alloc (.cells #[.int .i64 (f i)] 3)) (Zad hHeld _) (λhHeld=>Mono.pt ?_);refine Mono.st 7 ?_;intro K hK;rw[if_pos Zx];refine Zd9 (.tmp 34) (.tmp 39) 47 rfl Tryz.underlying47 Zby (W.heap.size+1) (.slice pv i cv) i f rfl (hoX.below (Zad (Yae _ _) _)) X0.heap.size (f i) rfl (Box.new _ _ _) Zo (by simp;omega) ?_;intro v' X1 ho' hg;have hz:Below (W.heap.size+1) X0 X1:=((Yae (W.heap.size+1) X0).alloc hsX _).grown hg (by simp;omega) (λk hk=>hoX.low k hk);obtain⟨p',c',rfl⟩:=ho'.shape;have b1':=bX1.low hz Zo;have b2':=bX2.low hz Zo;have hB1:=hBX.trans (hz.mono Zo);have hs1:=hz.size;refine hK.out _ _ hB1 (λhHeld=>Mono.pt ?_);clear hK K hg hz bX1 bX2 hoX hBX hX1 hX2;refine tk 8 (some 41) ?_;have cb1:=b1'.cell;have fb1:=b1'.frozen;have lb1:=b1'.lt;refine Mono.st 9 ?_;intro K hK;go_simp
        refine kp hK (Zag hB1 Zo _ _) (λhHeld=>?_);clear hK K;refine wpAnyH_done Zx ?_ _;go_wp2
        go_roundw
        case rel=>
         refine⟨i+1,_,Zo,Zs,?_,b1'.set 1 _,b2'.other _ _ (by show w.heap.size≠W.heap.size;omega),hHeld,by simp;omega⟩;refine OwnF.congr (ho'.set _ _ (by show W.heap.size<_;omega)) λj hj=>?_;by_cases hji:j<i
         ·rw[if_pos hji]
         ·rw[if_neg hji]
          congr 1;omega
        case measure=>simp[intOf];omega
       ·intro K hK
        refine Mono.arma (some 38) hK (.int .i64 (f i)) X0 hHeld (λhHeld=>Mono.pt ?_) rfl Zx (by go_simp);clear hK K;refine Mono.fork2 1 6 ?_ ?_
        ·intro K hK
         refine Mono.arma (some 34) hK (.slice pv i cv) X0 hHeld (λhHeld=>Mono.pt ?_) rfl Zx (by go_simp);clear hK K;refine Mono.sta 6 (some 39) (.slice (some ⟨X0.heap.size,0,none⟩) 1 1) (X0.alloc (.cells #[.int .i64 (f i)] 3)) (Zad hHeld _) (λhHeld=>Mono.pt ?_);refine Mono.st 7 ?_;intro K hK;rw[if_pos Zx];refine Zd9 (.tmp 34) (.tmp 39) 47 rfl Tryz.underlying47 Zby (W.heap.size+1) (.slice pv i cv) i f rfl (hoX.below (Zad (Yae _ _) _)) X0.heap.size (f i) rfl (Box.new _ _ _) Zo (by simp;omega) ?_;intro v' X1 ho' hg;have hz:Below (W.heap.size+1) X0 X1:=((Yae (W.heap.size+1) X0).alloc hsX _).grown hg (by simp;omega) (λk hk=>hoX.low k hk);obtain⟨p',c',rfl⟩:=ho'.shape;have b1':=bX1.low hz Zo;have b2':=bX2.low hz Zo;have hB1:=hBX.trans (hz.mono Zo);have hs1:=hz.size;refine hK.out _ _ hB1 (λhHeld=>Mono.pt ?_);clear hK K hg hz bX1 bX2 hoX hBX hX1 hX2;refine tk 8 (some 41) ?_;have cb1:=b1'.cell;have fb1:=b1'.frozen;have lb1:=b1'.lt;refine Mono.st 9 ?_;intro K hK;go_simp
         refine kp hK (Zag hB1 Zo _ _) (λhHeld=>?_);clear hK K;refine wpAnyH_done Zx ?_ _;go_wp2
         go_roundw
         case rel=>
          refine⟨i+1,_,Zo,Zs,?_,b1'.set 1 _,b2'.other _ _ (by show w.heap.size≠W.heap.size;omega),hHeld,by simp;omega⟩;refine OwnF.congr (ho'.set _ _ (by show W.heap.size<_;omega)) λj hj=>?_;by_cases hji:j<i
          ·rw[if_pos hji]
          ·rw[if_neg hji]
           congr 1;omega
         case measure=>simp[intOf];omega
        ·intro K hK
         have hX1':(X0.alloc (.cells #[.int .i64 (f i)] 3)).cell? ⟨W.heap.size,1,none⟩=some (.slice pv i cv):=(bX1.alloc _).cell 1;refine Mono.arma (some 39) hK (.slice (some ⟨X0.heap.size,0,none⟩) 1 1) (X0.alloc (.cells #[.int .i64 (f i)] 3)) (Zad hHeld _) (λhHeld=>Mono.pt ?_);clear hK K;refine Mono.sta 1 (some 34) (.slice pv i cv) (X0.alloc (.cells #[.int .i64 (f i)] 3)) hHeld (λhHeld=>Mono.pt ?_) rfl rfl Zx Zx (by go_simp);refine Mono.st 7 ?_;intro K hK;rw[if_pos Zx];refine Zd9 (.tmp 34) (.tmp 39) 47 rfl Tryz.underlying47 Zby (W.heap.size+1) (.slice pv i cv) i f rfl (hoX.below (Zad (Yae _ _) _)) X0.heap.size (f i) rfl (Box.new _ _ _) Zo (by simp;omega) ?_;intro v' X1 ho' hg;have hz:Below (W.heap.size+1) X0 X1:=((Yae (W.heap.size+1) X0).alloc hsX _).grown hg (by simp;omega) (λk hk=>hoX.low k hk);obtain⟨p',c',rfl⟩:=ho'.shape;have b1':=bX1.low hz Zo;have b2':=bX2.low hz Zo;have hB1:=hBX.trans (hz.mono Zo);have hs1:=hz.size;refine hK.out _ _ hB1 (λhHeld=>Mono.pt ?_);clear hK K hg hz bX1 bX2 hoX hBX hX1 hX2;refine tk 8 (some 41) ?_;have cb1:=b1'.cell;have fb1:=b1'.frozen;have lb1:=b1'.lt;refine Mono.st 9 ?_;intro K hK;go_simp
         refine kp hK (Zag hB1 Zo _ _) (λhHeld=>?_);clear hK K;refine wpAnyH_done Zx ?_ _;go_wp2
         go_roundw
         case rel=>
          refine⟨i+1,_,Zo,Zs,?_,b1'.set 1 _,b2'.other _ _ (by show w.heap.size≠W.heap.size;omega),hHeld,by simp;omega⟩;refine OwnF.congr (ho'.set _ _ (by show W.heap.size<_;omega)) λj hj=>?_;by_cases hji:j<i
          ·rw[if_pos hji]
          ·rw[if_neg hji]
           congr 1;omega
         case measure=>simp[intOf];omega
      ·obtain rfl:i=k+1:=by omega
       obtain⟨pv,cv,rfl⟩:=ho.shape;have hlong:=Zae;have cb1:=b1.cell;have lb1:=b1.lt;have fb1:=b1.frozen;have cb2:=b2.cell;have lb2:=b2.lt;have fb2:=b2.frozen;clear hcell hx hcl;go_wp2
       have b4:=(b2.set 0 (.bool nb)).set 1 (.slice pv (k+1) cv);refine bodyPost_ret (b4.results rfl _ _ rfl Tryz.underlying49 rfl Zae) rfl ⟨.slice pv (k+1) cv,rfl,?_,Zag (Zag hB2 (Yab _) _ _) (Yab _) _ _⟩;exact((ho.set _ _ (by show w.heap.size<_;omega)).set _ _ (by show w.heap.size<_;omega)).lower Zo
   ·obtain rfl:k=0:=by omega
    cases neg;all_goals
     go_wp2
     go_loopw [7] (λa W2=>a=.int .i64 0∧Box W2 W.heap.size 49 #[.bool nb,.slice none 0 0]∧Box W2 w.heap.size 49 #[.bool false,.slice none 0 0]∧Below w.heap.size w W2) (λa _=>0)
     case atStart=>exact⟨rfl,by rw[<-hN.out];exact Box.new _ _ _,b0.alloc _,Zad hB _⟩
     case round=>
      obtain⟨rfl,b1,b2,hB2⟩:=hrel;have cb1:=b1.cell;have lb1:=b1.lt;have fb1:=b1.frozen;have cb2:=b2.cell;have lb2:=b2.lt;have fb2:=b2.frozen;clear hx;go_wp2
      have b4:=(b2.set 0 (.bool nb)).set 1 (.slice none 0 0);refine bodyPost_ret (b4.results rfl _ _ rfl Tryz.underlying49 rfl Zae) rfl ⟨.slice none 0 0,rfl,OwnF.nil _ _ _,Zag (Zag hB2 (Yab _) _ _) (Yab _) _ _⟩
theorem Zbo (neg:Bool) (p:Option Addr) (n c:Nat) (f:Nat->Int) (w:World) (h:SlF w (.slice p n c) n f) (hn6:n<=1000000) (f0:∀i,i<n->0<=f i) (f1:∀i,i<n->f i<1000000000) :
  Calls Tryz.prog 165 #[.bool neg,.slice p n c] w λe w'=>∃v,e=.returned (.agg #[.bool (neg&&decide (0<vf f n)),v])∧OwnF w' w.heap.size v (trimN f n) f∧Digs f (trimN f n)∧vf f (trimN f n)=vf f n∧Below w.heap.size w w':=by
 obtain⟨d1,d2⟩:=Zb2 f0 f1;have hp:=Zr1 f0 f1;refine(Zmh neg (neg&&decide (0<vf f n)) p n c (trimN f n) f w h hn6 (Yah rfl) (Yah (by simp only[hp]))).mono ?_;rintro e w' ⟨v,rfl,ho,hb⟩;exact⟨v,rfl,ho,d1,d2,hb⟩
end Go.Proofs.W
namespace Go.Mono
open Go.RowKit
section
section
variable {P:Program} {ops:Array Oper} {rest:List Oper} {o1 o2 o3 o4:Oper} {a:Act} {w:World} {Q:Exit->Act->World->Prop}
theorem Zcb (T:TypeId) (d:Tmp) (y:Operand) (C zs:Array Value) (g1:o1.guard=none) (h1:o1.op=.alloc T) (e1:o1.dst=some d) (g2:o2.guard=none) (h2:o2.op=.store T (.tmp d) y) (e2:o2.dst=none)
  (hrun:∀w,(Instr.alloc T true (.tuple #[])).run P w=.ok (.pointer (some ⟨w.heap.size,0,none⟩)) (w.alloc (.cells zs T)))
  (hx:∀p,(a.put (some d) p).eval (.tmp d)=p) (hy:∀p,(a.put (some d) p).eval y=.agg C) (hi:(P.info? T).map (·.size)=some C.size) (hs:zs.size=C.size) (ho:C.all (·.oneCell')=true)
  (h:∀W B,w.heap.size<=B->Below w.heap.size w W->Box W B T C->wpList P ops Q rest (a.put (some d) (.pointer (some ⟨B,0,none⟩))) W):wpList P ops Q (o1::o2::rest) a w:=by
 refine Zan g1 T h1 zs hrun ?_;intro W1 B hle hb b1;rw[e1];refine Zab g2 T (.tmp d) y h2 B 0 T zs C C (hx _) (hy _) b1 hi (by rw[Yba];exact Ybl hs.symm) ho (Zaf hs) ?_;intro W2 hk b2;rw[e2];exact h W2 B hle (hk.below hb hle hb.size) b2
theorem Zcc (T:TypeId) (d d':Tmp) (y y':Operand) (C C' zs:Array Value) (g1:o1.guard=none) (h1:o1.op=.alloc T) (e1:o1.dst=some d) (g2:o2.guard=none) (h2:o2.op=.alloc T) (e2:o2.dst=some d')
  (g3:o3.guard=none) (h3:o3.op=.store T (.tmp d) y) (e3:o3.dst=none) (g4:o4.guard=none) (h4:o4.op=.store T (.tmp d') y') (e4:o4.dst=none)
  (hrun:∀w,(Instr.alloc T true (.tuple #[])).run P w=.ok (.pointer (some ⟨w.heap.size,0,none⟩)) (w.alloc (.cells zs T)))
  (hx:∀p p',((a.put (some d) p).put (some d') p').eval (.tmp d)=p) (hx':∀p p',((a.put (some d) p).put (some d') p').eval (.tmp d')=p') (hy:∀p p',((a.put (some d) p).put (some d') p').eval y=.agg C) (hy':∀p p',((a.put (some d) p).put (some d') p').eval y'=.agg C')
  (hi:(P.info? T).map (·.size)=some zs.size) (hs:zs.size=C.size) (hs':zs.size=C'.size) (ho:C.all (·.oneCell')=true) (ho':C'.all (·.oneCell')=true)
  (h:∀W B B',w.heap.size<=B->w.heap.size<=B'->B≠B'->Below w.heap.size w W->Box W B T C->Box W B' T C'->wpList P ops Q rest ((a.put (some d) (.pointer (some ⟨B,0,none⟩))).put (some d') (.pointer (some ⟨B',0,none⟩))) W):wpList P ops Q (o1::o2::o3::o4::rest) a w:=by
 refine Zan g1 T h1 zs hrun ?_;intro W1 B hle hb b1;rw[e1];have hB1:=b1.lt;refine Zan g2 T h2 zs hrun ?_;intro W2 B' hle' hb' b1';rw[e2];have hBB:B≠B':=Zo;have b12:=b1.below hb';refine Zab g3 T (.tmp d) y h3 B 0 T zs C C (hx _ _) (hy _ _) b12 (by rw[<-hs];exact hi) (by rw[Yba];exact Ybl hs.symm) ho (Zaf hs) ?_;intro W3 hk b2;rw[e3];have b13:=hk.box b1' b1'.lt (λh=>hBB h.symm);refine Zab g4 T (.tmp d') y' h4 B' 0 T zs C' C' (hx' _ _) (hy' _ _) b13 (by rw[<-hs'];exact hi) (by rw[Yba];exact Ybl hs'.symm) ho' (Zaf hs') ?_;intro W4 hk4 b4;rw[e4];have b5:=hk4.box b2 b2.lt hBB;have hw1:=Zaa hb hb';have hw3:=hk.below hw1 hle hw1.size;exact h W4 B B' hle (by have:=hb.size;omega) hBB (hk4.below hw3 (by have:=hb.size;omega) hw3.size) b5 b4
end
end
theorem SlF.unique {w:World} {v:Value} {n m:Nat} {f g:Nat->Int} (h:SlF w v n f) (k:SlF w v m g):n=m∧∀i,i<n->f i=g i:=by
 rcases h with ⟨rfl,rfl⟩|⟨b,off,cap,cs,fr,rfl,_,_,hh,hi⟩
 ·rcases k with ⟨_,rfl⟩|⟨b,off,cap,cs,fr,hv,_⟩
  ·exact⟨rfl,λi hi=>Zo⟩
  ·simp at hv
 ·rcases k with ⟨hv,_⟩|⟨b',off',cap',cs',fr',hv,_,_,hh',hi'⟩
  ·simp at hv
  ·simp only[Ydm,Ybp,Addr.mk.injEq]at hv
   obtain⟨⟨rfl,rfl,_⟩,rfl,_⟩:=hv;rw[hh]at hh';simp at hh';obtain⟨rfl,_⟩:=hh';refine⟨rfl,λi h=>?_⟩;have:=(hi i h).symm.trans (hi' i h);simpa using this
theorem Sz.unique {m m':Nat} {w:World} {v:Value} {N M:Int} (h:Sz m w v N) (k:Sz m' w v M):N=M:=by
 obtain⟨n,f,s1,_,rfl,_⟩:=h;obtain⟨n',g,s2,_,rfl,_⟩:=k;obtain⟨rfl,e⟩:=s1.unique s2;exact Zbi e
noncomputable def szVal (w:World) (v:Value):Int:=Classical.epsilon λN=>∃m,Sz m w v N
theorem Sz.szVal {m:Nat} {w:World} {v:Value} {N:Int} (h:Sz m w v N):Mono.szVal w v=N:=by
 obtain⟨m',h'⟩:=Classical.epsilon_spec (p:=λN=>∃m,Sz m w v N) ⟨N,m,h⟩;exact h'.unique h
theorem Sz.zero (m:Nat) (w:World):Sz m w (.slice none 0 0) 0:=⟨0,λ_=>0,.inl ⟨rfl,rfl⟩,⟨λi hi=>Zo,λi hi=>Zo,λh=>Zo⟩,rfl,Yat _⟩
theorem Sz.len_pos {m:Nat} {w:World} {p:Option Addr} {n c:Nat} {N:Int} (h:Sz m w (.slice p n c) N):0<N↔0<n:=by
 obtain⟨n,f,s1,d,rfl,l,rfl⟩:=h.sl;exact d.pos
def gcdZ (N M:Int):Int:=(Nat.gcd N.toNat M.toNat:Nat)
theorem Zqe {N:Int} (h:0<=N):gcdZ N 0=N:=by simp[gcdZ];omega
theorem Zqf {N M:Int} (h:0<=N) (hM:0<M):gcdZ M (N%M)=gcdZ N M:=by
 obtain⟨n,rfl⟩:=Int.eq_ofNat_of_zero_le h;obtain⟨m,rfl⟩:=Int.eq_ofNat_of_zero_le (Yap hM);unfold gcdZ;have e:((n:Int)%(m:Int)).toNat=n%m:=by rw[<-Int.natCast_emod,Ycb]
 rw[e,Ycb,Ycb,Nat.gcd_comm n m,Nat.gcd_rec m n,Nat.gcd_comm]
end Go.Mono
namespace Go.Proofs.W
open Go.RowKit Go.Mono
theorem Zqg (m0:Nat) (w wf:World) (hx:Ext wf w) (p q:Option Addr) (n m c1 c2:Nat) (N M:Int) (h1:Sz m0 wf (.slice p n c1) N) (h2:Sz m0 wf (.slice q m c2) M) (hM:0<M) (hm0:m0<=1000000) :
  Calls Tryz.prog 166 #[.slice p n c1,.slice q m c2] w λe w'=>∃p1 k1 c1 p2 k2 c2,e=.returned (.tuple #[.slice p1 k1 c1,.slice p2 k2 c2])∧Sz m0 w' (.slice p1 k1 c1) (N/M)∧Sz m0 w' (.slice p2 k2 c2) (N%M)∧Below w.heap.size w w':=by
 have hN:=h1.nonneg;rcases Ycz N M with hlt|hle
 ·refine(Zqc m0 m0 w wf hx p q n m c1 c2 N M h1 h2 hlt).mono ?_
  rintro e w' ⟨rfl,k,rfl⟩;refine⟨_,_,_,_,_,_,rfl,?_,?_,below_drewN (Yae _ _) k⟩
  ·rw[Int.ediv_eq_zero_of_lt hN hlt];exact Sz.zero _ _
  ·rw[Int.emod_eq_of_lt hN hlt];exact h1.ext (hx.below (below_drewN (Yae _ _) k))
 ·obtain⟨n',f,s1,d1,rfl,l1,rfl⟩:=(h1.ext hx).sl
  obtain⟨m',g,s2,d2,rfl,l2,rfl⟩:=(h2.ext hx).sl;have hml:=d2.len_le d1 hle;have hm0':=d2.pos.1 hM;by_cases hm1:m'=1
  ·subst hm1
   refine(Ztr m0 w w (Ext.refl _) p q n' c1 c2 _ _ ⟨n',f,s1,d1,rfl,l1⟩ ⟨1,g,s2,d2,rfl,Yab _⟩ hM hle hm0).mono ?_;rintro e w' ⟨p1,k1,c3,p2,k2,c4,rfl,z1,z2,hb⟩;exact⟨_,_,_,_,_,_,rfl,z1,z2.mono Zo,hb⟩
  ·obtain⟨m,rfl⟩:∃m,m'=m+2:=⟨m'-2,Zo⟩
   refine(Zqd p q n' m c1 c2 f g w s1 s2 d1 d2 Zo hle).mono ?_;rintro e w' ⟨p1,k1,c3,p2,k2,c4,rfl,z1,z2,hb⟩;exact⟨_,_,_,_,_,_,rfl,z1.mono l1,z2.mono l2,hb⟩
theorem Zei (m0:Nat) (w wf:World) (hx:Ext wf w) (p q:Option Addr) (n m c1 c2:Nat) (N M:Int) (h1:Sz m0 wf (.slice p n c1) N) (h2:Sz m0 wf (.slice q m c2) M) (hm0:m0<=1000000) :
  Calls Tryz.prog 131 #[.slice p n c1,.slice q m c2] w λe w'=>∃p k c,e=.returned (.slice p k c)∧Sz m0 w' (.slice p k c) (gcdZ N M)∧Below w.heap.size w w':=by
 replace h1:=h1.ext hx;replace h2:=h2.ext hx;go_enter Tryz.func131,Tryz.ntmps131
 go_wp2_with fail
 go_loopw [0,1] (λa b wr=>∃p n c q m d A B,a=.slice p n c∧b=.slice q m d∧Sz m0 wr (.slice p n c) A∧Sz m0 wr (.slice q m d) B∧gcdZ A B=gcdZ N M∧Below w.heap.size w wr) (λ_ b wr=>(szVal wr b).toNat)
 case atStart=>exact⟨_,_,_,_,_,_,_,_,rfl,rfl,h1,h2,rfl,Yae _ _⟩
 case round=>
  clear h1 h2 hx;obtain⟨p,n,c,q,m,d,A,B,rfl,rfl,h1,h2,hg,hb⟩:=hrel;have hA:=h1.nonneg;have hv:=h2.szVal;have hl:=h2.len_pos;replace hg:=Yah hg;replace hv:=Yah hv;by_cases h0:0<m
  ·have hB:=hl.2 h0
   clear hl;have ho:=Zqg m0 wr wr (Ext.refl _) p q n m c d A B h1 h2 hB hm0;go_wp2_with (go_at_call 166;refine ho.mono ?_;rintro e w' ⟨p1,k1,c3,p2,k2,c4,rfl,z1,z2,hb2⟩)
   go_roundw
   case rel=>exact⟨_,_,_,_,_,_,_,_,rfl,rfl,h2.ext (.of_below hb2),z2,(Zqf hA hB).trans hg.out,Zdw hb hb2⟩
   case measure=>
    rw[z2.szVal,hv.out];have:=Ybu A hB;have:=Ycc A (show B≠0 by omega);omega
  ·have hB:B=0:=by have:=h2.nonneg;omega
   obtain rfl:m=0:=Zo;replace hB:=Yah hB;clear hl;go_wp2
   go_ret
   refine⟨_,_,_,rfl,?_,hb⟩;rw[<-hg.out,hB.out,Zqe hA];exact h1
theorem Zc6 (m0:Nat) (w wf:World) (hx:Ext wf w) (p q:Option Addr) (n m c1 c2:Nat) (N M:Int) (h1:Sz m0 wf (.slice p n c1) N) (h2:Sz m0 wf (.slice q m c2) M) (hM:0<M) (hm0:m0<=1000000) :
  Calls Tryz.prog 168 #[.slice p n c1,.slice q m c2] w λe w'=>∃p1 k1 c1,e=.returned (.slice p1 k1 c1)∧Sz m0 w' (.slice p1 k1 c1) (N/M)∧Below w.heap.size w w':=by
 have ho:=Zqg m0 w wf hx p q n m c1 c2 N M h1 h2 hM hm0;go_enter Tryz.func168,Tryz.ntmps168
 go_wp2_with (go_at_call 166;refine ho.mono ?_;rintro e w' ⟨p1,k1,c3,p2,k2,c4,rfl,z1,z2,hb2⟩)
 go_ret
 exact⟨_,_,_,rfl,z1,hb2⟩
theorem Zj4 (neg:Bool) (p1 p2:Option Addr) (k1 c1 k2 c2 m1 m2:Nat) (n1 n2:Int) (w wf:World) (hx:Ext wf w) (h1:Sz m1 wf (.slice p1 k1 c1) n1) (h2:Sz m2 wf (.slice p2 k2 c2) n2) (hm1:m1<=1000000) (hm2:m2<=1000000) :
  Calls Tryz.prog 169 #[.agg #[.bool neg,.slice p1 k1 c1],.slice p2 k2 c2] w λe w'=>∃p n c,e=.returned (.agg #[.bool neg,.slice p n c])∧Sz (m1+m2) w' (.slice p n c) (n1*n2)∧Below w.heap.size w w':=by
 go_enter Tryz.func169,Tryz.ntmps169
 go_wp2
 refine Zd3 λW hB hs b0 b1=>?_;have z1:=h1.ext (hx.below hB);have z2:=h2.ext (hx.below hB);have c0:=b0.cell;have l0:=b0.lt;have K0:=KeepBut.refl (w.heap.size+1) W;clear h1 h2 hx;go_region_held3 (λw'=>(∀b o,b<W.heap.size->b≠w.heap.size+1->w'.cell? ⟨b,o,none⟩=W.cell? ⟨b,o,none⟩)∧KeepBut (w.heap.size+1) W.heap.size W w') ((refine KeepBut.S ?_;first|exact K0.drew|(repeat' (first|exact Yai ‹_› | exact KeepBut.call (Yai ‹_›) ‹_› | refine KeepBut.set ?_ _ _)))) (first|(go_at_call 167;refine(Zf2 m1 m2 _ W (KeepBut.ext (Yai ‹_›) b1 Zd) _ _ _ _ _ _ n1 n2 z1 z2 hm1 hm2).mono ?_;rintro e w' ⟨p,n,c,rfl,hv,hb⟩;have b1':=b1.drew.below hb;have k1:=b1'.cell;have f1:=b1'.frozen))
 go_wp2
 have b2:=((b1'.set 0 (.bool neg)).set 1 (.slice p n c)).cell;refine bodyPost_ret (v:=.agg #[.bool neg,.slice p n c]) (by simp[results,Tryz.results169,go_sem,b2]) rfl ⟨p,n,c,rfl,?_,?_⟩
 ·exact hv.ext (((Ext.refl _).set b1' Zd _ _).set (b1'.set _ _) Zd _ _)
 ·exact KeepBut.below (Yai ‹_›) hB Zo hB.size
end Go.Proofs.W
namespace Go.Mono
theorem Sg.add_same {s:Bool} {a b:Int} (h:Sg s a) (k:Sg s b):Sg s (a+b)∧(a+b).natAbs=a.natAbs+b.natAbs:=by
 cases s
 ·have:=h.2 rfl;have:=k.2 rfl
  exact⟨⟨λh=>by simp at h,λ_=>Zo⟩,Zo⟩
 ·have:=h.1 rfl;have:=k.1 rfl
  exact⟨⟨λ_=>Zo,λh=>by simp at h⟩,Zo⟩
theorem Sg.add_less {s:Bool} {a b:Int} (h:Sg s a) (k:Sg (!s) b) (hl:(a.natAbs:Int)<b.natAbs):Sg (!s) (a+b)∧((a+b).natAbs:Int)=b.natAbs-a.natAbs:=by
 cases s
 ·have:=h.2 rfl;have:=k.1 rfl
  exact⟨⟨λ_=>Zo,λh=>by simp at h⟩,Zo⟩
 ·have:=h.1 rfl;have:=k.2 rfl
  exact⟨⟨λh=>by simp at h,λ_=>Zo⟩,Zo⟩
theorem Sg.add_more {s:Bool} {a b:Int} (h:Sg s a) (k:Sg (!s) b) (hl:(b.natAbs:Int)<=a.natAbs):Sg s (a+b)∧((a+b).natAbs:Int)=a.natAbs-b.natAbs:=by
 cases s
 ·have:=h.2 rfl;have:=k.1 rfl
  exact⟨⟨λh=>by simp at h,λ_=>Zo⟩,Zo⟩
 ·have:=h.1 rfl;have:=k.2 rfl
  exact⟨⟨λ_=>Zo,λh=>by simp at h⟩,Zo⟩
end Go.Mono
namespace Go.Proofs.W
open Go.RowKit Go.Mono
theorem Zts (s1 s2:Bool) (p1 p2:Option Addr) (k1 c1 k2 c2 m:Nat) (n1 n2:Int) (w wf:World) (hx:Ext wf w) (h1:Sz m wf (.slice p1 k1 c1) n1.natAbs) (h2:Sz m wf (.slice p2 k2 c2) n2.natAbs) (g1:Sg s1 n1) (g2:Sg s2 n2) (hm:m<=1000000) :
  Calls Tryz.prog 170 #[.agg #[.bool s1,.slice p1 k1 c1],.agg #[.bool s2,.slice p2 k2 c2]] w λe w'=>∃s p n c,e=.returned (.agg #[.bool s,.slice p n c])∧Sg s (n1+n2)∧Sz (m+1) w' (.slice p n c) (n1+n2).natAbs∧Below w.heap.size w w':=by
 by_cases hs12:s1=s2
 ·subst hs12
  obtain⟨e1,e2⟩:=g1.add_same g2;replace e2:=Yah e2;clear g1 g2;go_enter Tryz.func170,Tryz.ntmps170
  go_wp2_with fail
  refine Zfv λW hB hs b0 b1 b2=>?_;have z1:=h1.ext (hx.below hB);have z2:=h2.ext (hx.below hB);have c0:=b0.cell;have c1':=b1.cell;have l0:=b0.lt;have l1:=b1.lt;have r0:w.heap.size≠w.heap.size+1+1:=Zo;have r1:w.heap.size+1≠w.heap.size+1+1:=Zo;have K0:=KeepBut.refl (w.heap.size+1+1) W;clear h1 h2 hx;go_region_held3 (λw'=>(∀b o,b<W.heap.size->b≠(w.heap.size+1+1)->w'.cell? ⟨b,o,none⟩=W.cell? ⟨b,o,none⟩)∧KeepBut (w.heap.size+1+1) W.heap.size W w') ((refine KeepBut.S ?_;first|exact K0.drew|(repeat' (first|exact Yai ‹_› | exact KeepBut.call (Yai ‹_›) ‹_› | refine KeepBut.set ?_ _ _|refine KeepBut.alloc ?_ _)))) (first|(go_at_call 204;refine(Zvy m m _ W (KeepBut.ext (Yai ‹_›) b2 Zd) _ _ _ _ _ _ _ _ z1 z2 hm hm).mono ?_;rintro e w' ⟨p,n,c,rfl,hv,hb⟩;have b2':=b2.drew.below hb;have k1:=b2'.cell;have f1:=b2'.frozen))
  go_wp2
  have b3:=((b2'.set 0 (.bool s1)).set 1 (.slice p n c)).cell;refine bodyPost_ret (v:=.agg #[.bool s1,.slice p n c]) (by simp[results,Tryz.results170,go_sem,b3]) rfl ⟨s1,p,n,c,rfl,e1,?_,?_⟩
  ·rw[e2.out]
   exact(hv.ext (((Ext.refl _).set b2' Zd _ _).set (b2'.set _ _) Zd _ _)).mono Zo
  ·exact KeepBut.below (Yai ‹_›) hB Zo hB.size
 ·obtain rfl:s2 = !s1:=by cases s1<;>cases s2<;>simp_all
  have hc:=Zj3 m m;rcases Ycz (n1.natAbs:Int) n2.natAbs with hl|hl
  ·obtain⟨e1,e2⟩:=g1.add_less g2 hl
   replace e2:=Yah e2;clear g1 g2 hs12;go_enter Tryz.func170,Tryz.ntmps170
   go_wp2_with fail
   refine Zbk λW hB hs b0 b1 b2=>?_;have z1:=h1.ext (hx.below hB);have z2:=h2.ext (hx.below hB);have HC:=hc W W (Ext.refl _) p1 p2 k1 k2 c1 c2 _ _ z1 z2;refine HC.mono ?_;rintro e w' ⟨x,⟨rfl,j,rfl⟩,hc1,hc2⟩;have hc0:x<0:=hc1.2 hl;clear h1 h2 hx hc HC hc1 hc2;have x1:Ext W (W.drewN j):=(Ext.refl _).below (below_drewN (Yae _ _) j);replace z1:=z1.ext x1;replace z2:=z2.ext x1;replace hB:=below_drewN hB j;have b0:Box (W.drewN j) _ _ _:=⟨b0.blk⟩
   have b1:Box (W.drewN j) _ _ _:=⟨b1.blk⟩
   have b2:Box (W.drewN j) _ _ _:=⟨b2.blk⟩
   generalize W.drewN j=W at z1 z2 hB b0 b1 b2 ⊢;have c0:=b0.cell;have c1':=b1.cell;have l0:=b0.lt;have l1:=b1.lt;have r0:w.heap.size≠w.heap.size+1+1:=Zo;have r1:w.heap.size+1≠w.heap.size+1+1:=Zo;have K0:=KeepBut.refl (w.heap.size+1+1) W;go_wp2_with fail
   go_region_held3 (λw'=>(∀b o,b<W.heap.size->b≠(w.heap.size+1+1)->w'.cell? ⟨b,o,none⟩=W.cell? ⟨b,o,none⟩)∧KeepBut (w.heap.size+1+1) W.heap.size W w') ((refine KeepBut.S ?_;first|exact K0.drew|(repeat' (first|exact Yai ‹_› | exact KeepBut.call (Yai ‹_›) ‹_› | refine KeepBut.set ?_ _ _|refine KeepBut.alloc ?_ _)))) (first|(go_at_call 205;refine(Zm5 m m _ W (KeepBut.ext (Yai ‹_›) b2 Zd) _ _ _ _ _ _ _ _ z2 z1 hm (Yap hl)).mono ?_;rintro e w' ⟨p,n,c,rfl,hv,hb⟩;have b2':=b2.drew.below hb;have k1:=b2'.cell;have f1:=b2'.frozen))
   go_wp2
   have b3:=((b2'.set 0 (.bool !s1)).set 1 (.slice p n c)).cell;refine bodyPost_ret (v:=.agg #[.bool !s1,.slice p n c]) (by simp[results,Tryz.results170,go_sem,b3]) rfl ⟨!s1,p,n,c,rfl,e1,?_,?_⟩
   ·rw[e2.out]
    exact(hv.ext (((Ext.refl _).set b2' Zd _ _).set (b2'.set _ _) Zd _ _)).mono Zo
   ·exact KeepBut.below (Yai ‹_›) hB Zo hB.size
  ·obtain⟨e1,e2⟩:=g1.add_more g2 hl
   replace e2:=Yah e2;clear g1 g2 hs12;go_enter Tryz.func170,Tryz.ntmps170
   go_wp2_with fail
   refine Zbk λW hB hs b0 b1 b2=>?_;have z1:=h1.ext (hx.below hB);have z2:=h2.ext (hx.below hB);have HC:=hc W W (Ext.refl _) p1 p2 k1 k2 c1 c2 _ _ z1 z2;refine HC.mono ?_;rintro e w' ⟨x,⟨rfl,j,rfl⟩,hc1,hc2⟩;have hc0:¬x<0:=λh=>by have:=hc1.1 h;omega
   clear h1 h2 hx hc HC hc1 hc2;have x1:Ext W (W.drewN j):=(Ext.refl _).below (below_drewN (Yae _ _) j);replace z1:=z1.ext x1;replace z2:=z2.ext x1;replace hB:=below_drewN hB j;have b0:Box (W.drewN j) _ _ _:=⟨b0.blk⟩
   have b1:Box (W.drewN j) _ _ _:=⟨b1.blk⟩
   have b2:Box (W.drewN j) _ _ _:=⟨b2.blk⟩
   generalize W.drewN j=W at z1 z2 hB b0 b1 b2 ⊢;have c0:=b0.cell;have c1':=b1.cell;have l0:=b0.lt;have l1:=b1.lt;have r0:w.heap.size≠w.heap.size+1+1:=Zo;have r1:w.heap.size+1≠w.heap.size+1+1:=Zo;have K0:=KeepBut.refl (w.heap.size+1+1) W;go_wp2_with fail
   go_region_held3 (λw'=>(∀b o,b<W.heap.size->b≠(w.heap.size+1+1)->w'.cell? ⟨b,o,none⟩=W.cell? ⟨b,o,none⟩)∧KeepBut (w.heap.size+1+1) W.heap.size W w') ((refine KeepBut.S ?_;first|exact K0.drew|(repeat' (first|exact Yai ‹_› | exact KeepBut.call (Yai ‹_›) ‹_› | refine KeepBut.set ?_ _ _|refine KeepBut.alloc ?_ _)))) (first|(go_at_call 205;refine(Zm5 m m _ W (KeepBut.ext (Yai ‹_›) b2 Zd) _ _ _ _ _ _ _ _ z1 z2 hm hl).mono ?_;rintro e w' ⟨p,n,c,rfl,hv,hb⟩;have b2':=b2.drew.below hb;have k1:=b2'.cell;have f1:=b2'.frozen))
   go_wp2
   have b3:=((b2'.set 0 (.bool s1)).set 1 (.slice p n c)).cell;refine bodyPost_ret (v:=.agg #[.bool s1,.slice p n c]) (by simp[results,Tryz.results170,go_sem,b3]) rfl ⟨s1,p,n,c,rfl,e1,?_,?_⟩
   ·rw[e2.out]
    exact(hv.ext (((Ext.refl _).set b2' Zd _ _).set (b2'.set _ _) Zd _ _)).mono Zo
   ·exact KeepBut.below (Yai ‹_›) hB Zo hB.size
end Go.Proofs.W
namespace Go.Mono
theorem Ztt (a b:Rat):gcdZ (a.den:Int) (b.den:Int)=((a.den.gcd b.den:Nat):Int):=by simp[gcdZ]
theorem Zlu (a b:Rat):0<((a.den.gcd b.den:Nat):Int):=by
 have:=Nat.gcd_pos_of_pos_left b.den (Yck a.den_nz);omega
end Go.Mono
namespace Go.Proofs.W
open Go.RowKit Go.Mono
theorem Zxu (s1 s2:Bool) (p1 q1 p2 q2:Option Addr) (k1 c1 l1 e1 k2 c2 l2 e2 m:Nat) (a b:Rat) (w wf:World) (hx:Ext wf w)
  (g1:Sg s1 a.num) (g2:Sg s2 b.num) (z1:Sz m wf (.slice p1 k1 c1) a.num.natAbs) (y1:Sz m wf (.slice q1 l1 e1) a.den) (z2:Sz m wf (.slice p2 k2 c2) b.num.natAbs) (y2:Sz m wf (.slice q2 l2 e2) b.den) (hm:m<=100000) :
  Calls Tryz.prog 135 #[.agg #[.bool s1,.slice p1 k1 c1,.slice q1 l1 e1],.agg #[.bool s2,.slice p2 k2 c2,.slice q2 l2 e2]] w λe w'=>∃s p n c q l d,e=.returned (.agg #[.bool s,.slice p n c,.slice q l d])∧Sg s (a+b).num∧Sz (3*m+1) w' (.slice p n c) (a+b).num.natAbs∧Sz (3*m+1) w' (.slice q l d) (a+b).den∧Below w.heap.size w w':=by
 replace z1:=z1.ext hx;replace z2:=z2.ext hx;replace y1:=y1.ext hx;replace y2:=y2.ext hx;have hG:=Zlu a b;have hGe:=Ztt a b;clear hx;go_enter Tryz.func135,Tryz.ntmps135
 go_wp2_with fail
 refine Zbk λW hB hs b0 b1 b2=>?_;have x0:=Ext.of_below hB;refine(Zei m W w x0 q1 q2 l1 l2 e1 e2 _ _ y1 y2 Zo).mono ?_;rintro e W1 ⟨pg,kg,cg,rfl,zg,hb⟩;rw[hGe]at zg;have x1:=x0.below hb;replace hB:=Zaa hB hb;replace z1:=z1.ext x0;replace z2:=z2.ext x0;replace y1:=y1.ext x0;replace y2:=y2.ext x0;replace z1:=z1.ext (.of_below hb);replace z2:=z2.ext (.of_below hb);replace y1:=y1.ext (.of_below hb);replace y2:=y2.ext (.of_below hb);replace b0:=b0.below hb;try clear cb0 lb0 fb0
 have cb0:=b0.cell;have lb0:=b0.lt;have fb0:=b0.frozen;replace b1:=b1.below hb;try clear cb1 lb1 fb1
 have cb1:=b1.cell;have lb1:=b1.lt;have fb1:=b1.frozen;replace b2:=b2.below hb;try clear cb2 lb2 fb2
 have cb2:=b2.cell;have lb2:=b2.lt;have fb2:=b2.frozen;clear x0 x1 hb hGe;go_wp2_with fail
 go_region_held3 (λw'=>(∀b o,b<W1.heap.size->w'.cell? ⟨b,o,none⟩=W1.cell? ⟨b,o,none⟩)∧Below W1.heap.size W1 w') ((refine Za1 ?_;first|exact(Yae _ _).drew|(repeat' (first|exact Yai ‹_› | exact Zaa (Yai ‹_›) ‹_› | exact Zad (Yai ‹_›) _|exact Zad ‹_› _|refine Zag ?_ Zo _ _)))) (first|(go_at_call 168;(with_reducible refine(Zc6 m _ W1 (.of_below (Yai ‹_›)) q1 pg l1 kg e1 cg _ _ y1 zg hG Zo).mono ?_);rintro e W2 ⟨px,kx,cx,rfl,zx,hb2⟩)|(go_at_call 168;(with_reducible refine(Zc6 m _ W1 (.of_below (Yai ‹_›)) q2 pg l2 kg e2 cg _ _ y2 zg hG Zo).mono ?_);rintro e W3 ⟨py,ky,cy,rfl,zy,hb3⟩;replace zx:=zx.ext (.of_below hb3)))
 have hb:Below W1.heap.size W1 W3:=Yai ‹_›;replace hB:=Zaa hB hb;replace z1:=z1.ext (.of_below hb);replace z2:=z2.ext (.of_below hb);replace y1:=y1.ext (.of_below hb);replace y2:=y2.ext (.of_below hb);replace zg:=zg.ext (.of_below hb);replace b0:=b0.below hb;try clear cb0 lb0 fb0
 have cb0:=b0.cell;have lb0:=b0.lt;have fb0:=b0.frozen;replace b1:=b1.below hb;try clear cb1 lb1 fb1
 have cb1:=b1.cell;have lb1:=b1.lt;have fb1:=b1.frozen;replace b2:=b2.below hb;try clear cb2 lb2 fb2
 have cb2:=b2.cell;have lb2:=b2.lt;have fb2:=b2.frozen;clear hb hb2 hb3;have Y0:0<=(b.den:Int)/((a.den.gcd b.den:Nat):Int):=Ydq Zo Zo;have X0:0<=(a.den:Int)/((a.den.gcd b.den:Nat):Int):=Ydq Zo Zo;have E4:=Zd4 (z:=a.num) Y0;have E5:=Zd4 (z:=b.num) X0;have G1:=g1.mul Y0;have G2:=g2.mul X0;replace E4:=Yah E4;replace E5:=Yah E5;go_wp2_with fail
 go_cut [8] (λs8 wx=>∃B3 s p n c,s8=.pointer (some ⟨B3,0,none⟩)∧Box wx B3 172 #[.bool s,.slice p n c]∧W3.heap.size<=B3∧Below W3.heap.size W3 wx∧Sg s (a.num*(((b.den:Int)/(a.den.gcd b.den:Nat)))+b.num*((a.den:Int)/(a.den.gcd b.den:Nat)))∧Sz (2*m+1) wx (.slice p n c) (a.num*(((b.den:Int)/(a.den.gcd b.den:Nat)))+b.num*((a.den:Int)/(a.den.gcd b.den:Nat))).natAbs)
 case first=>
  go_region_held3 (λw'=>(∀b o,b<W3.heap.size->w'.cell? ⟨b,o,none⟩=W3.cell? ⟨b,o,none⟩)∧Below W3.heap.size W3 w') ((refine Za1 ?_;first|exact(Yae _ _).drew|(repeat' (first|exact Yai ‹_› | exact Zaa (Yai ‹_›) ‹_› | exact Zad (Yai ‹_›) _|exact Zad ‹_› _|refine Zag ?_ Zo _ _)))) (first|(go_at_call 169;(with_reducible refine(Zj4 s1 p1 py k1 c1 ky cy m m _ _ _ W3 (.of_below (Yai ‹_›)) z1 zy Zo Zo).mono ?_);rintro e W4 ⟨p4,k4,c4,rfl,z4,hb4⟩;(have hzhb4:=Zaa (Yai ‹_›) hb4);(have hshb4:=hzhb4.size);(first|(replace bn:=bn.below hb4;clear cbn fbn lbn;have cbn:=bn.cell;have fbn:=bn.frozen;have lbn:=bn.lt)|(have bn:=(Box.new _ 172 _).below hb4;have cbn:=bn.cell;have fbn:=bn.frozen;have lbn:=bn.lt)|(have bn:=(Box.new _ 172 _).drew.below hb4;have cbn:=bn.cell;have fbn:=bn.frozen;have lbn:=bn.lt)|skip))|(go_at_call 169;(with_reducible refine(Zj4 s2 p2 px k2 c2 kx cx m m _ _ _ W3 (.of_below (Yai ‹_›)) z2 zx Zo Zo).mono ?_);rintro e W5 ⟨p5,k5,c5,rfl,z5,hb5⟩;(have hzhb5:=Zaa (Yai ‹_›) hb5);(have hshb5:=hzhb5.size);(first|(replace bn:=bn.below hb5;clear cbn fbn lbn;have cbn:=bn.cell;have fbn:=bn.frozen;have lbn:=bn.lt)|(have bn:=(Box.new _ 172 _).below hb5;have cbn:=bn.cell;have fbn:=bn.frozen;have lbn:=bn.lt)|(have bn:=(Box.new _ 172 _).drew.below hb5;have cbn:=bn.cell;have fbn:=bn.frozen;have lbn:=bn.lt)|skip);replace z4:=z4.ext (by first|exact .of_below hb5|exact((Ext.refl _).alloc _).below hb5|exact((Ext.refl _).alloc _).drew.below hb5);rw[<-E4.out]at z4;rw[<-E5.out]at z5)|(go_at_call 170;refine(Zts s1 s2 p4 p5 k4 c4 k5 c5 (m+m) _ _ _ W5 (by first|exact Ext.refl _|exact(Ext.refl _).alloc _) z4 z5 G1 G2 Zo).mono ?_;rintro e W6 ⟨s6,p6,k6,c6,rfl,g6,z6,hb6⟩;(have hzhb6:=Zaa (Yai ‹_›) hb6);(have hshb6:=hzhb6.size);(first|(replace bn:=bn.below hb6;clear cbn fbn lbn;have cbn:=bn.cell;have fbn:=bn.frozen;have lbn:=bn.lt)|(have bn:=(Box.new _ 172 _).below hb6;have cbn:=bn.cell;have fbn:=bn.frozen;have lbn:=bn.lt)|(have bn:=(Box.new _ 172 _).drew.below hb6;have cbn:=bn.cell;have fbn:=bn.frozen;have lbn:=bn.lt)|skip)))
  all_goals
   go_wp2_with fail
   go_meet
   exact⟨_,s6,p6,k6,c6,rfl,(by first|exact Box.new _ _ _|exact(bn.set 0 _).set 1 _),Zo,Yai ‹_›,g6,(by first|exact(z6.ext ((Ext.refl _).alloc _)).mono Zo|exact(z6.ext (((Ext.refl _).set bn Zd _ _).set (bn.set _ _) Zd _ _)).mono Zo)⟩
 case rest=>
  obtain⟨B3,s3,p3,k3,c3,rfl,b3,hB3,hb,gs,zn⟩:=hcut;have lr3:w.heap.size+1+1<W3.heap.size:=lb2;replace hB:=Zaa hB hb;replace zg:=zg.ext (.of_below hb);replace zx:=zx.ext (.of_below hb);replace y2:=y2.ext (.of_below hb);replace b0:=b0.below hb;try clear cb0 lb0 fb0
  have cb0:=b0.cell;have lb0:=b0.lt;have fb0:=b0.frozen;replace b1:=b1.below hb;try clear cb1 lb1 fb1
  have cb1:=b1.cell;have lb1:=b1.lt;have fb1:=b1.frozen;replace b2:=b2.below hb;try clear cb2 lb2 fb2
  have cb2:=b2.cell;have lb2:=b2.lt;have fb2:=b2.frozen;have cb3:=b3.cell;have lb3:=b3.lt;have fb3:=b3.frozen;generalize hn:a.num*(((b.den:Int)/(a.den.gcd b.den:Nat)))+b.num*((a.den:Int)/(a.den.gcd b.den:Nat))=n at gs zn;clear hb z1 z2 y1 zy E4 E5 G1 G2 X0 Y0;go_wp2_with fail
  obtain⟨N1,N2,N3,N4⟩:=Zvu a b n hn;have hge2:gcdZ (n.natAbs:Int) ((a.den.gcd b.den:Nat):Int)=((n.natAbs.gcd (a.den.gcd b.den):Nat):Int):=by simp[gcdZ]
  have gs':=gs.div N4;rw[<-N1]at gs';replace N2:=Yah N2;replace N3:=Yah N3;refine(Zei (2*m+1) _ _ (Ext.refl _) p3 pg k3 kg c3 cg _ _ zn (zg.mono Zo) Zo).mono ?_;rintro e W7 ⟨ph,kh,ch,rfl,zh,hb⟩;rw[hge2]at zh;replace hB:=Zaa hB hb;replace zx:=zx.ext (.of_below hb);replace y2:=y2.ext (.of_below hb);replace zn:=zn.ext (.of_below hb);replace b0:=b0.below hb;try clear cb0 lb0 fb0
  have cb0:=b0.cell;have lb0:=b0.lt;have fb0:=b0.frozen;replace b1:=b1.below hb;try clear cb1 lb1 fb1
  have cb1:=b1.cell;have lb1:=b1.lt;have fb1:=b1.frozen;replace b2:=b2.below hb;try clear cb2 lb2 fb2
  have cb2:=b2.cell;have lb2:=b2.lt;have fb2:=b2.frozen;replace b3:=b3.below hb;try clear cb3 lb3 fb3
  have cb3:=b3.cell;have lb3:=b3.lt;have fb3:=b3.frozen;have lR:w.heap.size<=w.heap.size+1+1:=Zo;have nR0:w.heap.size≠w.heap.size+1+1:=Zo;have nR1:w.heap.size+1≠w.heap.size+1+1:=Zo;have nR3:B3≠w.heap.size+1+1:=Zo;have K0:=KeepBut.refl (w.heap.size+1+1) W7;generalize ((n.natAbs.gcd (a.den.gcd b.den):Nat):Int)=H at *;generalize (a.den:Int)/((a.den.gcd b.den:Nat):Int)=X at *;clear hb hge2 hn N1 gs zg;go_wp2_with fail
  go_region_held3 (λw'=>(∀b o,b<W7.heap.size->b≠(w.heap.size+1+1)->w'.cell? ⟨b,o,none⟩=W7.cell? ⟨b,o,none⟩)∧KeepBut (w.heap.size+1+1) W7.heap.size W7 w') ((refine KeepBut.S ?_;first|exact K0.drew|(repeat' (first|exact Yai ‹_› | exact KeepBut.call (Yai ‹_›) ‹_› | refine KeepBut.set ?_ _ _|refine KeepBut.alloc ?_ _)))) (first|(go_at_call 168;(with_reducible refine(Zc6 (2*m+1) _ W7 (KeepBut.ext (Yai ‹_›) b2 Zd) p3 ph k3 kh c3 ch _ _ zn zh N4 Zo).mono ?_);rintro e W8 ⟨p8,k8,c8,rfl,z8,hb8⟩;have b28:=b2.drew.below hb8;have cb28:=b28.cell;have fb28:=b28.frozen)|(go_at_call 168;(with_reducible refine(Zc6 (2*m+1) _ W7 (KeepBut.ext (Yai ‹_›) b2 Zd) q2 ph l2 kh e2 ch _ _ (y2.mono Zo) zh N4 Zo).mono ?_);rintro e W9 ⟨p9,k9,c9,rfl,z9,hb9⟩;replace z8:=z8.ext (.of_below hb9);have b29:=b28.below hb9;have cb29:=b29.cell;have fb29:=b29.frozen)|(go_at_call 167;refine(Zf2 m (2*m+1) _ W9 (Ext.refl _) px p9 kx k9 cx c9 _ _ (zx.ext (KeepBut.ext (Yai ‹_›) b2 Zd)) z9 Zo Zo).mono ?_;rintro e W10 ⟨p10,k10,c10,rfl,z10,hb10⟩;replace z8:=z8.ext (.of_below hb10);have b20:=b29.below hb10;have cb20:=b20.cell;have fb20:=b20.frozen))
  go_wp2
  have b3':=(((b20.set 0 (.bool s3)).set 1 (.slice p8 k8 c8)).set 2 (.slice p10 k10 c10)).cell;have xE:Ext W10 _:=((((Ext.refl W10).set b20 Zd 0 (.bool s3)).set (b20.set 0 (.bool s3)) Zd 1 (.slice p8 k8 c8))).set ((b20.set 0 (.bool s3)).set 1 (.slice p8 k8 c8)) Zd 2 (.slice p10 k10 c10);refine bodyPost_ret (v:=.agg #[.bool s3,.slice p8 k8 c8,.slice p10 k10 c10]) (by simp[results,Tryz.results135,go_sem,b3']) rfl ⟨s3,_,_,_,_,_,_,rfl,gs',?_,?_,?_⟩
  ·rw[N2.out];exact(z8.ext xE).mono Zo
  ·rw[N3.out];exact(z10.ext xE).mono Zo
  ·exact KeepBut.below (Yai ‹_›) hB lR hB.size
theorem Zfw (m0:Nat) (w wf:World) (hx:Ext wf w) (p q:Option Addr) (n m c1 c2 B:Nat) (N M:Int) (h1:Sz m0 wf (.slice p n c1) N) (h2:Sz m0 wf (.slice q m c2) M) (hM:0<M) (hm0:m0<=1000000) (b0:Box w B 170 #[.slice q m c2]) :
  Calls Tryz.prog 178 #[.slice p n c1,.pointer (some ⟨B,0,none⟩)] w λe w'=>∃p1 k1 c1,e=.returned (.slice p1 k1 c1)∧Sz m0 w' (.slice p1 k1 c1) (N/M)∧Below w.heap.size w w':=by
 have ho:=Zc6 m0 w wf hx p q n m c1 c2 N M h1 h2 hM hm0;have cb:=b0.cell;go_enter Tryz.func178,Tryz.ntmps178
 go_wp2_with (go_at_call 168;refine ho.mono ?_;rintro e w' ⟨p1,k1,c3,rfl,z1,hb2⟩)
 go_ret
 exact⟨_,_,_,rfl,z1,hb2⟩
theorem Zfe (s:Bool) (p q:Option Addr) (k c l d m:Nat) (N D:Int) (w wf:World) (hx:Ext wf w) (z:Sz m wf (.slice p k c) N) (y:Sz m wf (.slice q l d) D) (hD:0<D) (hm:m<=1000000) :
  Calls Tryz.prog 147 #[.agg #[.bool s,.slice p k c,.slice q l d]] w λe w'=>∃p n c q l d,e=.returned (.agg #[.bool s,.slice p n c,.slice q l d])∧Sz m w' (.slice p n c) (N/gcdZ N D)∧Sz m w' (.slice q l d) (D/gcdZ N D)∧Below w.heap.size w w':=by
 replace z:=z.ext hx;replace y:=y.ext hx;have hG:0<gcdZ N D:=by
  have:0<Nat.gcd N.toNat D.toNat:=Yfa _ Zo;unfold gcdZ;omega
 clear hx;go_enter Tryz.func147,Tryz.ntmps147
 go_wp2_with fail
 refine Zbj λW hB hs b0 b1=>?_;have x0:=Ext.of_below hB;refine(Zei m W w x0 p q k l c d _ _ z y hm).mono ?_;rintro e W1 ⟨pg,kg,cg,rfl,zg,hb⟩;replace z:=z.ext x0;replace y:=y.ext x0;replace hB:=Zaa hB hb;replace z:=z.ext (.of_below hb);replace y:=y.ext (.of_below hb);replace b0:=b0.below hb;try clear cb0 lb0 fb0
 have cb0:=b0.cell;have lb0:=b0.lt;have fb0:=b0.frozen;replace b1:=b1.below hb;try clear cb1 lb1 fb1
 have cb1:=b1.cell;have lb1:=b1.lt;have fb1:=b1.frozen;generalize hGe:gcdZ N D=G at zg hG;replace hGe:=Yah hGe;clear x0 hb;have hmf:∀(fn:Fn) (first cap:Array Value) (w:World),(Instr.makeFunc fn first cap).run Tryz.prog w=.ok (.func fn first cap) w:=λ_ _ _ _=>rfl;go_wp2_with fail
 refine Zb1 λW2 hb2 hs2 bg=>?_;have ng:W1.heap.size≠w.heap.size+1:=Zo;replace hB:=Zaa hB hb2;replace z:=z.ext (.of_below hb2);replace y:=y.ext (.of_below hb2);replace zg:=zg.ext (.of_below hb2);replace b0:=b0.below hb2;try clear cb0 lb0 fb0
 have cb0:=b0.cell;have lb0:=b0.lt;have fb0:=b0.frozen;replace b1:=b1.below hb2;try clear cb1 lb1 fb1
 have cb1:=b1.cell;have lb1:=b1.lt;have fb1:=b1.frozen;have cbg:=bg.cell;have lbg:=bg.lt;have fbg:=bg.frozen;have K0:=KeepBut.refl (w.heap.size+1) W2;have n0:w.heap.size≠w.heap.size+1:=Zo;clear hb2;go_region_held3 (λw'=>(∀b o,b<W2.heap.size->b≠(w.heap.size+1)->w'.cell? ⟨b,o,none⟩=W2.cell? ⟨b,o,none⟩)∧KeepBut (w.heap.size+1) W2.heap.size W2 w') ((refine KeepBut.S ?_;first|exact K0.drew|(repeat' (first|exact Yai ‹_› | exact KeepBut.call (Yai ‹_›) ‹_› | refine KeepBut.set ?_ _ _|refine KeepBut.alloc ?_ _)))) (first|(go_at_call 178;(with_reducible refine(Zfw m _ W2 (KeepBut.ext (Yai ‹_›) b1 Zd) p pg k kg c cg W1.heap.size _ _ z zg hG hm (KeepBut.box (Yai ‹_›) bg (by assumption) (by assumption))).mono ?_);rintro e W3 ⟨p3,k3,c3,rfl,z3,hb3⟩;have b13:=b1.drew.below hb3;have cb13:=b13.cell;have fb13:=b13.frozen)|(go_at_call 178;(with_reducible refine(Zfw m _ W2 (KeepBut.ext (Yai ‹_›) b1 Zd) q pg l kg d cg W1.heap.size _ _ y zg hG hm (KeepBut.box (Yai ‹_›) bg (by assumption) (by assumption))).mono ?_);rintro e W4 ⟨p4,k4,c4,rfl,z4,hb4⟩;replace z3:=z3.ext (.of_below hb4);have b14:=b13.below hb4;have cb14:=b14.cell;have fb14:=b14.frozen))
 go_wp2
 have b3':=((((b14.set 0 (.bool s)).set 1 (.slice p3 k3 c3)).set 2 (.slice p4 k4 c4))).cell;have xE:Ext W4 _:=((((Ext.refl W4).set b14 Zd 0 (.bool s)).set (b14.set 0 (.bool s)) Zd 1 (.slice p3 k3 c3))).set ((b14.set 0 (.bool s)).set 1 (.slice p3 k3 c3)) Zd 2 (.slice p4 k4 c4);refine bodyPost_ret (v:=.agg #[.bool s,.slice p3 k3 c3,.slice p4 k4 c4]) (by simp[results,Tryz.results147,go_sem,b3']) rfl ⟨_,_,_,_,_,_,rfl,?_,?_,?_⟩
 ·rw[hGe.out];exact z3.ext xE
 ·rw[hGe.out];exact z4.ext xE
 ·exact KeepBut.below (Yai ‹_›) hB Zo hB.size
end Go.Proofs.W
