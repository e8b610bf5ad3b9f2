/- Contracts of package matrix,and a verified evaluator. Part 19 of 27. No condition beside the row. -/
import Derived.Test.YtgkmjekkefmejaaGreatDoorA02
import Derived.Test.YtgkmjekkefmejaaGreatDoorA17
import Derived.Test.YtgkmjekkefmejaaGreatDoorA18
set_option linter.unusedVariables false
set_option linter.unusedSimpArgs false
set_option maxRecDepth 100000
set_option maxHeartbeats 4000000
namespace Go.Proofs.W
open Go.RowKit Go.Mono
theorem Zg2 (B:Nat) (nm:ByteArray) (di pu pr:Int) (st:Nat) (pf pw' pc:Option Addr) (nf cf nw cw m cs cc b off:Nat) (A:Nat->Array Value) (hA:∀i,(A i).size=22) (w:World)
  (b0:Box w B 257 #[.string nm,.int .i64 di,.int .i64 pu,.int .i64 (st:Int),.int .i64 pr,.slice pf nf cf,.slice pw' nw cw,.slice (some ⟨b,off,none⟩) (m+1) cs,.slice pc 0 cc])
  (hr:RdC w (some ⟨b,off,none⟩) (m+1) cs 22 (λi j=>(A i).getD j undef)) (m1:1<=m) (m2:m+1<=16) (s1:st+1<=m)
  (hc:∀i,i<m+1->∀W,Below w.heap.size w W->Calls Tryz.prog 238 #[.agg (A i)] W λe w'=>e=.returned (.int .i64 0)∧Below W.heap.size W w')
  (him:∀W,Calls Tryz.prog 240 #[.agg (A m)] W λe w'=>e=.returned (.bool true)∧Below W.heap.size W w')
  (kd:Int) (hkd:(A st)[0]? = some (.int .i64 kd)) (hk3:(kd != 3)=true) :
  Calls Tryz.prog 217 #[.pointer (some ⟨B,0,none⟩)] w λe w'=>e=.returned (.bool true)∧Below w.heap.size w w':=by
 have cb0:=b0.cell;have lb0:=b0.lt;have hsz:(Tryz.prog.info? 85).map (·.size)=some 22:=Zk;have e1:(2:Int)<=(m:Int)+1:=Zo;have e2:(m:Int)+1<=16:=Zo;have e3:IntKind.i64.wrap ((m:Int)+1-2)=(m:Int)-1:=by rw[Ybi];omega
 have e4:(0:Int)<=(st:Int):=Zo;have e5:(st:Int)<=(m:Int)-1:=Zo;go_enter Tryz.func217,Tryz.ntmps217
 go_wp2_with first|(go_at_call 214;(with_reducible refine(Zbh _ _ _ e1 e2 _).mono ?_);rintro e w' ⟨rfl,rfl⟩)|(go_at_call 214;(with_reducible refine(Zbh _ _ _ e4 e5 _).mono ?_);rintro e w' ⟨rfl,rfl⟩)
 have h5:=hr;obtain⟨_,_,hx⟩:=h5;obtain⟨b',off',hp,hbl,hcell⟩:=hx Zo;obtain⟨rfl,rfl⟩:b=b'∧off=off':=by simpa using hp
 clear hx hp;dsimp only at hcell;have hcs:=Zpn (m+1) cs (some ⟨b,off,none⟩) A hA 237 Zf1;have hsA:∀i,(Tryz.prog.info? 85).map (·.size)=some (A i).size:=λi=>by rw[hsz,hA]
 have fk:w'.cell? ⟨b,off+st*22,none⟩=some (.int .i64 kd):=by
  have:=hcell st 0 Zo Zo;rw[Yax,hkd]at this;simpa using this
 have hrange:∀w2,Below w'.heap.size w' w2->w2.rangeAt b (off+m*22) (A m).toList:=λw2 hw2 j v hv=>by
  have hj:j<22:=by
   have:=(Yan.1 hv).1;simpa[hA]using this
  refine((hw2.cell (p:=⟨b,off+m*22+j,none⟩) hbl).trans (hcell m j Zo hj)).trans ?_;rw[Yaq]at hv;rw[Yax,hv];rfl
 have m3:(m:Int)<=15:=Zo;have m4:(0:Int)<=m:=Zo;have m6:(m:Int)<(m:Int)+1:=Zo;have m5:IntKind.i64.wrap (m:Int)=m:=by rw[Ybi];omega
 have s3:(st:Int)<(m:Int)+1:=Zo;clear hcell hsz hkd e1 e2 e3;refine wp_region_held_drew (S:=λw2=>(∀b o,b<w'.heap.size->w2.cell? ⟨b,o,none⟩=w'.cell? ⟨b,o,none⟩)∧Below w'.heap.size w' w2) Zk (Za2 (Yae _ _).drew) (λhHeld=>?_);refine tk 0 (some 25) ?_;refine tk 1 (some 26) ?_;refine tk 2 (some 27) ?_;refine tk 3 (some 28) ?_;refine tk 4 (some 29) ?_;refine tk 5 (some 30) ?_;refine Mono.st 6 ?_;intro K hK;go_simp
 (refine(hcs _ (hr.below hHeld.2) (λi hi W hW=>Zlc (A i) (hA i) W (λW2 h2=>hc i hi W2 (Zaa (Zaa hHeld.2 hW) h2)))).mono ?_;rintro e W1 ⟨rfl,hb⟩)
 refine kp hK (Za2 (Zaa hHeld.2 hb)) (λhHeld=>?_);clear hK K;clear hb;refine tk 7 (some 32) ?_;refine tk 8 (some 33) ?_;refine tk 9 (some 34) ?_;refine tk 10 (some 35) ?_;refine tk 11 (some 36) ?_;refine tk 12 (some 37) ?_;refine tk 13 (some 38) ?_;refine tk 14 (some 39) ?_;refine tk 15 (some 40) ?_;refine tk 16 (some 41) ?_;refine tl 17 (some 42) rfl (.agg (A m)) (Zaj 85 _ rfl b (off+m*22) rfl (A m) (λw h=>hrange w h.2) _ Tryz.underlying85 rfl (hsA m)) ?_;refine Mono.st 18 ?_;intro K hK;go_simp
 (refine(him _).mono ?_;rintro e W2 ⟨rfl,hb⟩)
 refine kp hK (Za2 (Zaa hHeld.2 hb)) (λhHeld=>?_);clear hK K;clear hb;refine tk 19 (some 44) ?_;refine tk 20 (some 45) ?_;refine tk 21 (some 46) ?_;refine tk 22 (some 47) ?_;refine tk 23 (some 48) ?_;refine tk 24 (some 49) ?_;refine tk 25 (some 50) ?_;refine tk 26 (some 51) ?_;refine tk 27 (some 52) ?_;refine tk 28 (some 53) ?_;refine tk 29 (some 54) ?_;refine tk 30 (some 55) ?_;refine tk 31 (some 56) ?_;refine tk 32 (some 57) ?_;refine tk 33 (some 58) ?_;refine tk 34 (some 59) ?_;refine tk 35 (some 60) ?_;refine tk 36 (some 2) ?_;refine wpAnyH_done Zk ?_ _;go_wp2
 go_ret
 exact⟨rfl,hHeld.2⟩
theorem Zps (s:Srf) (hs:s.ok) (p:Option Addr) (c B:Nat) (w:World) (b0:Box w B 85 (s.cs p c)) (hco:CoatAt w p c s.co) :
  Calls Tryz.prog 261 #[.pointer (some ⟨B,0,none⟩)] w λe w'=>e=.returned (.bool true)∧Below w.heap.size w w':=by
 have hsz:(Tryz.prog.info? 85).map (·.size)=some (s.cs p c).size:=Zk;have f0:w.cell? ⟨B,0,none⟩=some (.int .i64 s.kind):=b0.cell 0;have lb0:=b0.lt;have hkept:=λW=>Zxi s hs p c W;have hsame:=λp' c' W (hW:Below w.heap.size w W) (h:s.co=[]∨p'=p∧c'=c)=>Zxj s hs p p' c c' W (hco.below hW) ((hco.below hW).alt h);have k1:=hs.k1;have k2:=hs.k2;clear hs hco;generalize s.kind=kd at *;generalize s.cs p c=A at *;go_enter Tryz.func261,Tryz.ntmps261
 go_wp2_with fail
 refine wp_region_held_drew (S:=λw'=>(∀b o,b<w.heap.size->w'.cell? ⟨b,o,none⟩=w.cell? ⟨b,o,none⟩)∧Below w.heap.size w w') Zk (Za2 (Yae _ _).drew) (λhHeld=>?_);refine tk 0 (some 2) ?_;refine tk 1 (some 3) ?_;refine Mono.st 2 ?_;intro K hK;go_simp
 refine kp hK (Za2 (Zad hHeld.2 _)) (λhHeld=>?_);clear hK K;refine Mono.st 3 ?_;intro K hK;go_simp
 (refine(Zfi 1 4 1 _ _ (λ_=>kd) _ (.box (Box.new w 3 #[.int .i64 kd]).drew 0 1 _ (λi hi=>by obtain rfl:i=0:=(Zo);rfl) Zo) (λ_ _=>⟨k1,k2⟩)).mono ?_;rintro e W1 ⟨rfl,hb⟩)
 refine kp hK (Za2 (Zaa hHeld.2 hb)) (λhHeld=>?_);clear hK K;clear hb;refine tk 4 (some 6) ?_;refine tl 5 (some 7) rfl (.agg A) (Zaj 85 _ rfl B 0 rfl A (λw h=>(b0.below h.2).range) _ Tryz.underlying85 rfl hsz) ?_;refine tl 6 (some 8) rfl (.agg A) (Zaj 85 _ rfl B 0 rfl A (λw h=>(b0.below h.2).range) _ Tryz.underlying85 rfl hsz) ?_;refine Mono.st 7 ?_;intro K hK;go_simp
 (refine(hkept _).mono ?_;rintro e W2 ⟨⟨p',c',rfl,hpc⟩,hb⟩)
 refine kp hK (Za2 (Zaa hHeld.2 hb)) (λhHeld=>?_);clear hK K;clear hb;refine Mono.st 8 ?_;intro K hK;go_simp
 (refine(hsame p' c' _ hHeld.2 hpc).mono ?_;rintro e W3 ⟨rfl,hb⟩)
 refine kp hK (Za2 (Zaa hHeld.2 hb)) (λhHeld=>?_);clear hK K;clear hb;refine tk 9 (some 11) ?_;refine tk 10 (some 1) ?_;refine wpAnyH_done Zk ?_ _;go_wp2
 go_ret
 exact⟨rfl,hHeld.2⟩
end Go.Proofs.W
