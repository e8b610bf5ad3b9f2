/- The drafted optics of chapter 13: what it is and that it is valid. Part 12 of 16. No condition beside the row. -/
import Derived.Test.YtgkmjekkefmejaaGreatDoorD10
set_option linter.unusedVariables false
set_option linter.unusedSimpArgs false
set_option maxRecDepth 100000
set_option maxHeartbeats 4000000
namespace Go.Proofs.W
open Go.RowKit Go.Mono
theorem Zos:(Tryz.prog.info? 3).map (λi=>(i.zero,i.size,i.bytes))=some (some (.int .i64 0),1,8):=Zk
def IntsOwn (w:World) (base:Nat) (p:Option Addr) (c n:Nat) (f:Nat->Int):Prop:=
 w.ownsRow base 3 1 (.slice p n c) n (crow (λi=>[.int .i64 (f i)]) n)∧(p=none->n=0∧c=0)
theorem Zno (z:Int):∀u∈[Value.int .i64 z],u.oneCell'=true:=λu hu=>by
 obtain rfl:=Ycd.1 hu;rfl
theorem IntsOwn.at {w:World} {base:Nat} {p:Option Addr} {c n:Nat} {f:Nat->Int} (h:IntsOwn w base p c n f) (hn:n<=1000):RdC w p n c 1 (λi _=>.int .i64 (f i)):=
 Zaz (sz:=1) (C:=λi=>[.int .i64 (f i)]) (λ_=>rfl) (λi j hi hj=>by match j,hj with|0,_=>rfl) h.1 hn
theorem IntsOwn.low {w:World} {base base':Nat} {p:Option Addr} {c n:Nat} {f:Nat->Int} (h:IntsOwn w base p c n f) (hb:base'<=base):IntsOwn w base' p c n f:=⟨Zav h.1 hb,h.2⟩
theorem IntsOwn.below {w w':World} {base:Nat} {p:Option Addr} {c n:Nat} {f:Nat->Int} (h:IntsOwn w base p c n f) (hB:Below w.heap.size w w'):IntsOwn w' base p c n f:=⟨Zai h.1 hB,h.2⟩
theorem Zot (n:Nat) (hn:n<=5) (w:World) :
  Calls Tryz.prog 137 #[.int .i64 (n:Int)] w λe w'=>∃p' c',e=.returned (.slice p' n c')∧IntsOwn w' w.heap.size p' c' n (λ_=>10000000)∧Below w.heap.size w w':=by
 obtain⟨fi,hfi,hfz,hfs,hfb⟩:=Zbb Zos;have htf:Tryz.prog.underlying 43=some (.slice 3):=Tryz.underlying43;go_enter Tryz.func137,Tryz.ntmps137
 go_wp2
 go_loopw [3,4] (λv x wr=>∃i:Nat,i<=n∧x=.int .i64 (i:Int)∧Below w.heap.size w wr∧∃p' c',v=.slice p' i c'∧IntsOwn wr w.heap.size p' c' i (λ_=>10000000)) (λ_ x _=>(n-intOf x).toNat)
 case atStart=>exact⟨0,Yat _,rfl,Yae _ _,none,0,rfl,Yaj _ _ _ _,λ_=>⟨rfl,rfl⟩⟩
 case round=>
  obtain⟨i,hi,rfl,hB,p',c',rfl,hown,hnil⟩:=hrel;by_cases hin:i<n
  ·have hi':(i:Int)<n:=by omega
   have b7:Box (wr.alloc (.cells #[.int .i64 10000000] 3)) wr.heap.size 3 #[.int .i64 10000000]:=Box.new _ _ _;have hB7:Below wr.heap.size wr (wr.alloc (.cells #[.int .i64 10000000] 3)):=(Yae _ _).alloc (Yab _) _;have hown7:=Zai hown hB7;have hB7':=Zaa hB hB7;have hle7:=hB7'.size;go_wp2_with (refine Zan rfl (.tmp 10) (.tmp 11) (ts:=43) (te:=3) rfl htf hfi hfz hfs hfb rfl Zd rfl rfl hown7 (H:=λ_=>[.int .i64 10000000]) (λ_=>rfl) (λ_ _=>Zno _) (Zb2 b7 rfl) (λh=>by cases h) hle7 Zo Zo ?_;intro p8 c8 W8 hown8 hg8 hn8)
   have hB8:=Below.appended hown7 hg8 hB7' (Yab _);go_roundw
   case rel=>
    refine⟨i+1,Zo,Zs,hB8,p8,c8,rfl,?_,hn8⟩;rw[<-Zas (C:=ccat (λ_=>[.int .i64 10000000]) i (λ_=>[.int .i64 10000000]))]
    ·exact hown8
    ·intro k hk
     unfold ccat;by_cases hki:k<i
     ·rw[if_pos hki]
     ·rw[if_neg hki]
   case measure=>simp[intOf];omega
  ·obtain rfl:i=n:=by omega
   go_wp2
   go_ret
   exact⟨p',c',rfl,⟨hown,hnil⟩,hB⟩
def glC (nm:ByteArray) (fo c0 c1 c2 c3 c4 c5 lo hi:Int):Array Value:=
 #[.string nm,.int .i64 fo,.int .i64 c0,.int .i64 c1,.int .i64 c2,.int .i64 c3,.int .i64 c4,.int .i64 c5,.int .i64 lo,.int .i64 hi]
def catC:Array Value:=glC nmBK7 2 1504600000 4200000 0 0 0 0 300000 2500000++glC nmSF1 1 1559000000 12000000 285000000 56000000 0 0 300000 2500000++glC nmF2 3 2600000000 (-9000000) 22000000 0 0 0 300000 2500000
theorem Zmb (w:World):Calls Tryz.prog 84 #[] w λe w'=>∃B,e=.returned (.slice (some ⟨B,0,none⟩) 3 3)∧Box w' B 206 catC∧Below w.heap.size w w':=by
 go_enter Tryz.func84,Tryz.ntmps84
 go_wp2
 go_ret
 exact⟨w.heap.size,rfl,Box.new _ _ _,(Yae _ _).alloc (Yab _) _⟩
theorem Zqd:(Tryz.prog.info? 69).map (λi=>(i.zero,i.size,i.bytes))=some (some (.agg #[.int .i64 0,.int .i64 0]),2,16):=Zk
theorem Zho (w:World):(Instr.alloc 69 true (.tuple #[])).run Tryz.prog w=.ok (.pointer (some ⟨w.heap.size,0,none⟩)) (w.alloc (.cells #[.int .i64 0,.int .i64 0] 69)):=by
 go_simp
def fdC (L:List (Int×Int)) (k:Nat):List Value:=(wvA (L.getD k (0,0)).1 (L.getD k (0,0)).2).toList
theorem Zee (d:LD):∀i,1<=(d.fieldsM i).length∧(d.fieldsM i).length<=i+1
 | 0=>by simp[LD.fieldsM]
 | i + 1 => by
   have h:=Zee d i;simp only[LD.fieldsM];split
   ·omega
   ·simp only[Yay,Ybm,Ydf];omega
theorem Zyb (L:List (Int×Int)) (f:Int×Int):∀k,k<L.length+1->ccat (fdC L) L.length (λ_=>(wvA f.1 f.2).toList) k=fdC (L++[f]) k:=λk hk=>by
 unfold ccat;by_cases h:k<L.length
 ·rw[if_pos h]
  unfold fdC;rw[Yac,Yac,Ybb h]
 ·obtain rfl:k=L.length:=by omega
  rw[if_neg h];unfold fdC;rw[Yac,Ybc (Yab _),Ydt];rfl
theorem Zl4 (A:Array Value) (hA:(Tryz.prog.info? 28).map (·.size)=some A.size) (d:LD) (hu:∀z∈d.fields,U8 z) (hf:U16 d.far) (q:Option Addr) (c:Nat) (g2:A[2]? = some (.int .u16 d.far)) (g:A[4]? = some (.slice q d.fields.length c)) (w:World) (h:BytesAt w q c d.fields) :
  Calls Tryz.prog 132 #[.agg A] w λe w'=>∃p' c',e=.returned (.slice p' (d.fieldsM (min d.fields.length 4)).length c')∧RdC w' p' (d.fieldsM (min d.fields.length 4)).length c' 2 (λi j=>if j=0 then .int .i64 ((d.fieldsM (min d.fields.length 4)).getD i (0,0)).1 else .int .i64 ((d.fieldsM (min d.fields.length 4)).getD i (0,0)).2)∧(∀b off,p'=some ⟨b,off,none⟩->w.heap.size<=b)∧Below w.heap.size w w':=by
 have qf:=λW=>Zl3 A hA d.far hf g2 W;have huu:=λi (hi:i<d.fields.length)=>Ztb hu hi;have hlen:=Zee d;have hstep:∀i,d.fieldsM (i+1)=if d.fieldM (d.fields.getD i 0)∈d.fieldsM i then d.fieldsM i else d.fieldsM i++[d.fieldM (d.fields.getD i 0)]:=λi=>rfl
 obtain⟨hcap,hbig,hx⟩:=h;obtain⟨fi,hfi,hfz,hfs,hfb⟩:=Zbb Zqd;have hz2:∀x y,(Tryz.prog.info? 69).map (·.size)=some (wvA x y).size:=λ_ _=>Zk;have htf:Tryz.prog.underlying 32=some (.slice 69):=Tryz.underlying32;have hfar0:0<=d.farM:=by unfold LD.farM;omega
 have hfarE:100000*(d.far%10001)=d.farM:=rfl;rw[hfarE]at qf;generalize hn:d.fields.length=n at *;replace hstep:=Yah hstep;go_enter Tryz.func132,Tryz.ntmps132
 go_wp2_with fail
 refine Zej λW hB hsz bS b0=>?_;have hown0:W.ownsRow w.heap.size 69 2 (.slice (some ⟨w.heap.size+1,0,none⟩) 1 1) 1 (crow (fdC [(0,0)]) 1):=Zcu b0 (Nat.le_succ _) Zd (λ_=>rfl) rfl;go_loopw [3,4] (λv x wr=>∃i:Nat,i<=min n 4∧x=.int .i64 (i:Int)∧Below w.heap.size w wr∧Box wr w.heap.size 28 A∧∃p' c',v=.slice p' (d.fieldsM i).length c'∧wr.ownsRow w.heap.size 69 2 (.slice p' (d.fieldsM i).length c') (d.fieldsM i).length (crow (fdC (d.fieldsM i)) (d.fieldsM i).length)) (λ_ x _=>(min n 4-intOf x).toNat)
 case atStart=>exact⟨0,Yat _,rfl,hB,bS,_,_,rfl,hown0⟩
 case round=>
  obtain⟨i,hi,rfl,hBr,bSr,p',c',rfl,hown⟩:=hrel;have cS:=(bSr.cell 4).trans g;have lS:=bSr.lt;obtain⟨hl1,hl2⟩:=hlen i;by_cases hin:i<n
  ·have hi':(i:Int)<n:=by omega
   by_cases hi5:i<4
   ·have hi5':(i:Int)<4:=by omega
    obtain⟨b,off,rfl,hb,hcell⟩:=hx Zo;have hBw:=hBr;have x0:wr.cell? ⟨b,off+i,none⟩=some (.int .u8 (d.fields.getD i 0)):=by simpa using(hBw.cell (p:=⟨b,off+i*1+0,none⟩) hb).trans (hcell i 0 hin Zd)
    obtain⟨u0,u1⟩:=huu i hin;have hbr:=Yaf hb hBw.size;have hfm:d.fieldM (d.fields.getD i 0)=if 0<d.farM then(500000*(d.fields.getD i 0/16),-500000*(d.fields.getD i 0%16)) else(10000*(d.fields.getD i 0/16),10000*(d.fields.getD i 0%16)):=rfl
    have hst:=hstep.out i;clear hcell hx huu hlen;generalize hz:d.fields.getD i 0=z at *;generalize hL:d.fieldsM i=L at *;replace hst:=Yah hst;by_cases hfp:0<d.farM
    focus
     rw[if_pos hfp]at hfm;generalize hff:d.fieldM z=f at *;replace hfm:=Yah hfm;go_wp2_with first|(go_at_call 131;refine(qf _).mono ?_;rintro e W5 ⟨rfl,hb5⟩;have b25:=b2.below hb5;have hB5:=Zaa hB2 hb5)|(refine Zak rfl 69 rfl _ Zho ?_;intro W1 B1 hle1 hB1 b1;have bS1:=bSr.below hB1;have lS1:=bS1.lt)|(refine Zab rfl 69 (.tmp 6) (.tmp 34) rfl B1 0 69 _ (wvA (10000*(z/16)) (10000*(z%16))) (wvA (10000*(z/16)) (10000*(z%16))) rfl rfl b1 (hz2 _ _) (Yaa rfl) (by simp[wvA,Value.oneCell']) rfl ?_;intro W2 hk2 b2;have bS2:=hk2.box bS1 bS1.lt (Zo);have hB2:=hk2.below hB1 hle1 hB1.size)|(refine Zac rfl 28 (.tmp 1) rfl w.heap.size rfl 28 A bS2 _ Tryz.underlying28 rfl hA ?_)|(refine Zab rfl 69 (.tmp 6) (.tmp 44) rfl B1 0 69 _ (wvA (500000*(z/16)) (-500000*(z%16))) (wvA (500000*(z/16)) (-500000*(z%16))) rfl rfl b25 (hz2 _ _) (Yaa rfl) (by simp[wvA,Value.oneCell']) rfl ?_;intro W6 hk6 b6;have hB6:=hk6.below hB5 hle1 hB5.size)
    rotate_left
    focus
     rw[if_neg hfp]at hfm;generalize hff:d.fieldM z=f at *;replace hfm:=Yah hfm;go_wp2_with first|(go_at_call 131;refine(qf _).mono ?_;rintro e W6 ⟨rfl,hb5⟩;have b25:=b2.below hb5;have hB5:=Zaa hB2 hb5)|(refine Zak rfl 69 rfl _ Zho ?_;intro W1 B1 hle1 hB1 b1;have bS1:=bSr.below hB1;have lS1:=bS1.lt)|(refine Zab rfl 69 (.tmp 6) (.tmp 34) rfl B1 0 69 _ (wvA (10000*(z/16)) (10000*(z%16))) (wvA (10000*(z/16)) (10000*(z%16))) rfl rfl b1 (hz2 _ _) (Yaa rfl) (by simp[wvA,Value.oneCell']) rfl ?_;intro W2 hk2 b2;have bS2:=hk2.box bS1 bS1.lt (Zo);have hB2:=hk2.below hB1 hle1 hB1.size)|(refine Zac rfl 28 (.tmp 1) rfl w.heap.size rfl 28 A bS2 _ Tryz.underlying28 rfl hA ?_)
     have hB6:=hB5;have b6:=b25
    all_goals
     have hown6:=Zai hown hB6;have hBw6:=Zaa hBr hB6;replace b6:Box W6 B1 69 (wvA f.1 f.2):=by rw[hfm.out];exact b6
     have k0:W6.cell? ⟨B1,0,none⟩=some (.int .i64 f.1):=b6.cell 0;have k1:W6.cell? ⟨B1,1,none⟩=some (.int .i64 f.2):=b6.cell 1;have lB:=b6.lt;obtain⟨_,_,hxr⟩:=Zed (C:=fdC L) (λ_=>rfl) hown6 (show L.length<=1000 by omega);obtain⟨br,offr,rfl,hbr',hcr⟩:=hxr Zo;have cr0:∀k,k<L.length->W6.cell? ⟨br,offr+k*2,none⟩=some (.int .i64 (L.getD k (0,0)).1):=λk hk=>hcr k 0 hk Zd;have cr1:∀k,k<L.length->W6.cell? ⟨br,offr+k*2+1,none⟩=some (.int .i64 (L.getD k (0,0)).2):=λk hk=>hcr k 1 hk Zd;clear hcr hxr;go_loopw [7,8] (λv y w7=>∃j:Nat,j<=L.length∧y=.int .i64 (j:Int)∧v=.bool (decide (f∈L.take j))∧∃q',w7=W6.drewN q') (λ_ y _=>(L.length-intOf y).toNat)
     case atStart=>exact⟨0,Yat _,rfl,Zs,0,rfl⟩
     case round=>
      obtain⟨j,hj,rfl,rfl,q',rfl⟩:=hrel;by_cases hjl:j<L.length
      ·have x1:=cr0 j hjl
       have y1:=cr1 j hjl;have hjl':(j:Int)<L.length:=Zo;have htk:L.take (j+1)=L.take j++[L.getD j (0,0)]:=by
        rw[Yac,Yao hjl];exact Yfh hjl
       have hdec:decide (f∈L.take (j+1))=(decide (f∈L.take j) || decide (f=L.getD j (0,0))):=by
        rw[htk];simp[Ycn]
       have hfe:f=L.getD j (0,0)↔(L.getD j (0,0)).1=f.1∧(L.getD j (0,0)).2=f.2:=⟨λe=>by rw[<-e];exact⟨rfl,rfl⟩,λe=>Prod.ext e.1.symm e.2.symm⟩
       replace hdec:=Yah hdec;clear cr0 cr1 htk hst hfm;generalize hkb:decide (f∈L.take j)=kb at *;generalize hge:L.getD j (0,0)=g' at *;replace hfe:=Yah hfe;generalize hf1:f.1=f1 at *;generalize hf2:f.2=f2 at *;generalize hg1:g'.1=g1 at *;generalize hg2:g'.2=g2 at *;cases kb
       ·by_cases e1 : g1 = f1
        ·by_cases e2:g2=f2
         ·rw[e1]at x1
          rw[e2]at y1;go_wp2
          go_quiet (fail)
          go_wp2
          go_roundw
          case rel=>exact⟨j+1,Zo,Zs,by rw[hdec.out,decide_eq_true (hfe.out.2 ⟨e1,e2⟩)];rfl,_,rfl⟩
          case measure=>simp[intOf];omega
         ·rw[e1]at x1
          have e3:(g2==f2)=false:=beq_eq_false_iff_ne.2 e2;go_wp2
          go_quiet (fail)
          go_wp2
          go_roundw
          case rel=>exact⟨j+1,Zo,Zs,by rw[hdec.out,decide_eq_false λh=>e2 (hfe.out.1 h).2];rfl,_,rfl⟩
          case measure=>simp[intOf];omega
        ·have e3:(g1==f1)=false:=beq_eq_false_iff_ne.2 e1
         go_wp2
         go_quiet (fail)
         go_wp2
         go_roundw
         case rel=>exact⟨j+1,Zo,Zs,by rw[hdec.out,decide_eq_false λh=>e1 (hfe.out.1 h).1];rfl,_,rfl⟩
         case measure=>simp[intOf];omega
       ·clear x1 y1
        go_wp2
        go_quiet (fail)
        go_wp2
        go_roundw
        case rel=>exact⟨j+1,Zo,Zs,by rw[hdec.out];rfl,_,rfl⟩
        case measure=>simp[intOf];omega
      ·obtain rfl:j=L.length:=by omega
       rw[List.take_length]at *;clear cr0 cr1 k0 k1 hjl;have hB7:Below wr.heap.size wr (W6.drewN q'):=below_drewN hB6 q';have hown7:=Zai hown hB7;have b7:Box (W6.drewN q') B1 69 (wvA f.1 f.2):=b6.below (below_drewN (Yae _ _) q');have hBw7:=Zaa hBr hB7;have k0:=b7.cell 0;have lB7:=b7.lt;clear k0;by_cases hm:f∈L
       ·have hE:d.fieldsM (i+1)=L:=by rw[hst.out,if_pos hm]
        replace hE:=Yah hE;have hdm:decide (f∈L)=true:=decide_eq_true hm;rw[hdm];clear hst hfm;go_wp2
        go_roundw
        case rel=>exact⟨i+1,Zo,Zs,hBw7,bSr.below hB7,_,c',by rw[hE.out],by rw[hE.out];exact hown7⟩
        case measure=>simp[intOf];omega
       ·have hE:d.fieldsM (i+1)=L++[f]:=by rw[hst.out,if_neg hm]
        have hlE:(L++[f]).length=L.length+1:=Zs;replace hE:=Yah hE;have hdm:decide (f∈L)=false:=decide_eq_false hm;rw[hdm];clear hst hfm hdm hm;have happ:=Zyb L f;generalize W6.drewN q'=V at *;go_wp2_with first|(refine Zac rfl 69 (.tmp 6) rfl B1 rfl 69 _ b7 _ Tryz.underlying69 rfl (hz2 _ _) ?_)|(refine Za0 (ps:=#[(0,.agg (wvA f.1 f.2))]) 32 1 #[(0,.tmp 63)] rfl rfl (by simp;rfl) (Zdt htf hfi hfz hfs Zd Zd _ rfl) ?_;intro W8 B8 hle8 hB8 b8;have hBw8:=Zaa hBw7 hB8;have hown8:=Zai hown7 (hBw7.size |> λ_=>hB8))|(refine Zan rfl (.tmp 62) (.tmp 64) (ts:=32) (te:=69) rfl htf hfi hfz hfs hfb rfl Zd rfl rfl hown8 (H:=λ_=>(wvA f.1 f.2).toList) (λ_=>rfl) (λ_ _=>Ztd _ _) (Zb2 b8 rfl) (λh=>by cases h) hBw8.size Zo Zo ?_;intro p9 c9 W9 hown9 hg9 hn9)
        have hB9:=Below.appended hown8 hg9 hBw8 (Yab _);have bS9:=((bSr.below hB7).below hB8).appended hown8 hg9 Zd;go_roundw
        case rel=>
         refine⟨i+1,Zo,Zs,hB9,bS9,p9,c9,by rw[hE.out,hlE],?_⟩;rw[hE.out,hlE,<-Zas happ];exact hown9
        case measure=>simp[intOf];omega
   ·have hmn:min n 4=i:=by omega
    have hR:RdC wr p' (d.fieldsM i).length c' 2 (λi' j=>if j=0 then .int .i64 ((d.fieldsM i).getD i' (0,0)).1 else .int .i64 ((d.fieldsM i).getD i' (0,0)).2):=Zaz (C:=fdC (d.fieldsM i)) (λ_=>rfl) (λk j hk hj=>(by rcases(by omega:j=0∨j=1) with rfl|rfl<;>rfl)) hown Zo;clear hx huu;go_wp2
    go_ret
    exact⟨p',c',by first|rfl|(rw[hmn];rfl),by first|(rw[hmn];exact hR)|exact hR,λb off e=>Zb9 hown b off e,hBr⟩
  ·have hmn:min n 4=i:=by omega
   have hR:RdC wr p' (d.fieldsM i).length c' 2 (λi' j=>if j=0 then .int .i64 ((d.fieldsM i).getD i' (0,0)).1 else .int .i64 ((d.fieldsM i).getD i' (0,0)).2):=Zaz (C:=fdC (d.fieldsM i)) (λ_=>rfl) (λk j hk hj=>(by rcases(by omega:j=0∨j=1) with rfl|rfl<;>rfl)) hown Zo;clear hx huu;go_wp2
   go_ret
   exact⟨p',c',by first|rfl|(rw[hmn];rfl),by first|(rw[hmn];exact hR)|exact hR,λb off e=>Zb9 hown b off e,hBr⟩
end Go.Proofs.W
