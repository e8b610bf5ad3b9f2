/- The drafted optics of chapter 13: what it is and that it is valid. Part 9 of 14. No condition beside the row. -/
import Derived.Test.YtpfpiecljfimjaaGreatDoorA17
import Derived.Test.YtpfpiecljfimjaaGreatDoorD07
set_option linter.unusedVariables false
set_option linter.unusedSimpArgs false
set_option maxRecDepth 100000
set_option maxHeartbeats 4000000
namespace Go.Proofs.W
open Go.RowKit Go.Mono
def glC (nm:ByteArray) (fo c0 c1 c2 c3 c4 c5 lo hi:Int):Array Value:=
 #[.string nm,.int .i64 fo,.int .i64 c0,.int .i64 c1,.int .i64 c2,.int .i64 c3,.int .i64 c4,.int .i64 c5,.int .i64 lo,.int .i64 hi]
def catC:Array Value:=glC nmBK7 2 1504600000 4200000 0 0 0 0 300000 2500000++glC nmSF1 1 1559000000 12000000 285000000 56000000 0 0 300000 2500000++glC nmF2 3 2600000000 (-9000000) 22000000 0 0 0 300000 2500000
theorem Zlj (w:World):Calls Tryz.prog 33 #[] w λe w'=>∃B,e=.returned (.slice (some ⟨B,0,none⟩) 3 3)∧Box w' B 153 catC∧Below w.heap.size w w':=by
 go_enter Tryz.func33,Tryz.ntmps33
 go_wp2
 go_ret
 exact⟨w.heap.size,rfl,Box.new _ _ _,(Yae _ _).alloc (Yab _) _⟩
theorem Zpm:(Tryz.prog.info? 127).map (λi=>(i.zero,i.size,i.bytes))=some (some (.agg #[.int .i64 0,.int .i64 0]),2,16):=Zk
theorem Zhd (w:World):(Instr.alloc 127 true (.tuple #[])).run Tryz.prog w=.ok (.pointer (some ⟨w.heap.size,0,none⟩)) (w.alloc (.cells #[.int .i64 0,.int .i64 0] 127)):=by
 go_simp
def fdC (L:List (Int×Int)) (k:Nat):List Value:=(wvA (L.getD k (0,0)).1 (L.getD k (0,0)).2).toList
theorem Zed (d:LD):∀i,1<=(d.fieldsM i).length∧(d.fieldsM i).length<=i+1
 | 0=>by simp[LD.fieldsM]
 | i + 1 => by
   have h:=Zed d i;simp only[LD.fieldsM];split
   ·omega
   ·simp only[Yay,Ybm,Ydf];omega
theorem Zw3 (L:List (Int×Int)) (f:Int×Int):∀k,k<L.length+1->ccat (fdC L) L.length (λ_=>(wvA f.1 f.2).toList) k=fdC (L++[f]) k:=λk hk=>by
 unfold ccat;by_cases h:k<L.length
 ·rw[if_pos h]
  unfold fdC;rw[Yac,Yac,Ybb h]
 ·obtain rfl:k=L.length:=by omega
  rw[if_neg h];unfold fdC;rw[Yac,Ybc (Yab _),Ydt];rfl
theorem Zld (A:Array Value) (hA:(Tryz.prog.info? 28).map (·.size)=some A.size) (d:LD) (hu:∀z∈d.fields,U8 z) (hf:U16 d.far) (q:Option Addr) (c:Nat) (g2:A[2]? = some (.int .u16 d.far)) (g:A[4]? = some (.slice q d.fields.length c)) (w:World) (h:BytesAt w q c d.fields) :
  Calls Tryz.prog 70 #[.agg A] w λe w'=>∃p' c',e=.returned (.slice p' (d.fieldsM (min d.fields.length 4)).length c')∧RdC w' p' (d.fieldsM (min d.fields.length 4)).length c' 2 (λi j=>if j=0 then .int .i64 ((d.fieldsM (min d.fields.length 4)).getD i (0,0)).1 else .int .i64 ((d.fieldsM (min d.fields.length 4)).getD i (0,0)).2)∧(∀b off,p'=some ⟨b,off,none⟩->w.heap.size<=b)∧Below w.heap.size w w':=by
 have qf:=λW=>Zlc A hA d.far hf g2 W;have huu:=λi (hi:i<d.fields.length)=>Zsf hu hi;have hlen:=Zed d;have hstep:∀i,d.fieldsM (i+1)=if d.fieldM (d.fields.getD i 0)∈d.fieldsM i then d.fieldsM i else d.fieldsM i++[d.fieldM (d.fields.getD i 0)]:=λi=>rfl
 obtain⟨hcap,hbig,hx⟩:=h;obtain⟨fi,hfi,hfz,hfs,hfb⟩:=Zbb Zpm;have hz2:∀x y,(Tryz.prog.info? 127).map (·.size)=some (wvA x y).size:=λ_ _=>Zk;have htf:Tryz.prog.underlying 33=some (.slice 127):=Tryz.underlying33;have hfar0:0<=d.farM:=by unfold LD.farM;omega
 have hfarE:100000*(d.far%10001)=d.farM:=rfl;rw[hfarE]at qf;generalize hn:d.fields.length=n at *;replace hstep:=Yah hstep;go_enter Tryz.func70,Tryz.ntmps70
 go_wp2_with fail
 refine Zd3 λW hB hsz bS b0=>?_;have hown0:W.ownsRow w.heap.size 127 2 (.slice (some ⟨w.heap.size+1,0,none⟩) 1 1) 1 (crow (fdC [(0,0)]) 1):=Zcw b0 (Nat.le_succ _) Zd (λ_=>rfl) rfl;go_loopw [3,4] (λv x wr=>∃i:Nat,i<=min n 4∧x=.int .i64 (i:Int)∧Below w.heap.size w wr∧Box wr w.heap.size 28 A∧∃p' c',v=.slice p' (d.fieldsM i).length c'∧wr.ownsRow w.heap.size 127 2 (.slice p' (d.fieldsM i).length c') (d.fieldsM i).length (crow (fdC (d.fieldsM i)) (d.fieldsM i).length)) (λ_ x _=>(min n 4-intOf x).toNat)
 case atStart=>exact⟨0,Yat _,rfl,hB,bS,_,_,rfl,hown0⟩
 case round=>
  obtain⟨i,hi,rfl,hBr,bSr,p',c',rfl,hown⟩:=hrel;have cS:=(bSr.cell 4).trans g;have lS:=bSr.lt;obtain⟨hl1,hl2⟩:=hlen i;by_cases hin:i<n
  ·have hi':(i:Int)<n:=by omega
   by_cases hi5:i<4
   ·have hi5':(i:Int)<4:=by omega
    obtain⟨b,off,rfl,hb,hcell⟩:=hx Zo;have hBw:=hBr;have x0:wr.cell? ⟨b,off+i,none⟩=some (.int .u8 (d.fields.getD i 0)):=by simpa using(hBw.cell (p:=⟨b,off+i*1+0,none⟩) hb).trans (hcell i 0 hin Zd)
    obtain⟨u0,u1⟩:=huu i hin;have hbr:=Yaf hb hBw.size;have hfm:d.fieldM (d.fields.getD i 0)=if 0<d.farM then(500000*(d.fields.getD i 0/16),-500000*(d.fields.getD i 0%16)) else(10000*(d.fields.getD i 0/16),10000*(d.fields.getD i 0%16)):=rfl
    have hst:=hstep.out i;clear hcell hx huu hlen;generalize hz:d.fields.getD i 0=z at *;generalize hL:d.fieldsM i=L at *;replace hst:=Yah hst;by_cases hfp:0<d.farM
    focus
     rw[if_pos hfp]at hfm;generalize hff:d.fieldM z=f at *;replace hfm:=Yah hfm;go_wp2_with first|(go_at_call 69;refine(qf _).mono ?_;rintro e W5 ⟨rfl,hb5⟩;have b25:=b2.below hb5;have hB5:=Zaa hB2 hb5)|(refine Zan rfl 127 rfl _ Zhd ?_;intro W1 B1 hle1 hB1 b1;have bS1:=bSr.below hB1;have lS1:=bS1.lt)|(refine Zab rfl 127 (.tmp 6) (.tmp 34) rfl B1 0 127 _ (wvA (10000*(z/16)) (10000*(z%16))) (wvA (10000*(z/16)) (10000*(z%16))) rfl rfl b1 (hz2 _ _) (Yaa rfl) (by simp[wvA,Value.oneCell']) rfl ?_;intro W2 hk2 b2;have bS2:=hk2.box bS1 bS1.lt (Zo);have hB2:=hk2.below hB1 hle1 hB1.size)|(refine Zac rfl 28 (.tmp 1) rfl w.heap.size rfl 28 A bS2 _ Tryz.underlying28 rfl hA ?_)|(refine Zab rfl 127 (.tmp 6) (.tmp 44) rfl B1 0 127 _ (wvA (500000*(z/16)) (-500000*(z%16))) (wvA (500000*(z/16)) (-500000*(z%16))) rfl rfl b25 (hz2 _ _) (Yaa rfl) (by simp[wvA,Value.oneCell']) rfl ?_;intro W6 hk6 b6;have hB6:=hk6.below hB5 hle1 hB5.size)
    rotate_left
    focus
     rw[if_neg hfp]at hfm;generalize hff:d.fieldM z=f at *;replace hfm:=Yah hfm;go_wp2_with first|(go_at_call 69;refine(qf _).mono ?_;rintro e W6 ⟨rfl,hb5⟩;have b25:=b2.below hb5;have hB5:=Zaa hB2 hb5)|(refine Zan rfl 127 rfl _ Zhd ?_;intro W1 B1 hle1 hB1 b1;have bS1:=bSr.below hB1;have lS1:=bS1.lt)|(refine Zab rfl 127 (.tmp 6) (.tmp 34) rfl B1 0 127 _ (wvA (10000*(z/16)) (10000*(z%16))) (wvA (10000*(z/16)) (10000*(z%16))) rfl rfl b1 (hz2 _ _) (Yaa rfl) (by simp[wvA,Value.oneCell']) rfl ?_;intro W2 hk2 b2;have bS2:=hk2.box bS1 bS1.lt (Zo);have hB2:=hk2.below hB1 hle1 hB1.size)|(refine Zac rfl 28 (.tmp 1) rfl w.heap.size rfl 28 A bS2 _ Tryz.underlying28 rfl hA ?_)
     have hB6:=hB5;have b6:=b25
    all_goals
     have hown6:=Zak hown hB6;have hBw6:=Zaa hBr hB6;replace b6:Box W6 B1 127 (wvA f.1 f.2):=by rw[hfm.out];exact b6
     have k0:W6.cell? ⟨B1,0,none⟩=some (.int .i64 f.1):=b6.cell 0;have k1:W6.cell? ⟨B1,1,none⟩=some (.int .i64 f.2):=b6.cell 1;have lB:=b6.lt;obtain⟨_,_,hxr⟩:=Zeb (C:=fdC L) (λ_=>rfl) hown6 (show L.length<=1000 by omega);obtain⟨br,offr,rfl,hbr',hcr⟩:=hxr Zo;have cr0:∀k,k<L.length->W6.cell? ⟨br,offr+k*2,none⟩=some (.int .i64 (L.getD k (0,0)).1):=λk hk=>hcr k 0 hk Zd;have cr1:∀k,k<L.length->W6.cell? ⟨br,offr+k*2+1,none⟩=some (.int .i64 (L.getD k (0,0)).2):=λk hk=>hcr k 1 hk Zd;clear hcr hxr;go_loopw [7,8] (λv y w7=>∃j:Nat,j<=L.length∧y=.int .i64 (j:Int)∧v=.bool (decide (f∈L.take j))∧∃q',w7=W6.drewN q') (λ_ y _=>(L.length-intOf y).toNat)
     case atStart=>exact⟨0,Yat _,rfl,Zs,0,rfl⟩
     case round=>
      obtain⟨j,hj,rfl,rfl,q',rfl⟩:=hrel;by_cases hjl:j<L.length
      ·have x1:=cr0 j hjl
       have y1:=cr1 j hjl;have hjl':(j:Int)<L.length:=Zo;have htk:L.take (j+1)=L.take j++[L.getD j (0,0)]:=by
        rw[Yac,Yao hjl];exact Yfh hjl
       have hdec:decide (f∈L.take (j+1))=(decide (f∈L.take j) || decide (f=L.getD j (0,0))):=by
        rw[htk];simp[Ycn]
       have hfe:f=L.getD j (0,0)↔(L.getD j (0,0)).1=f.1∧(L.getD j (0,0)).2=f.2:=⟨λe=>by rw[<-e];exact⟨rfl,rfl⟩,λe=>Prod.ext e.1.symm e.2.symm⟩
       replace hdec:=Yah hdec;clear cr0 cr1 htk hst hfm;generalize hkb:decide (f∈L.take j)=kb at *;generalize hge:L.getD j (0,0)=g' at *;replace hfe:=Yah hfe;generalize hf1:f.1=f1 at *;generalize hf2:f.2=f2 at *;generalize hg1:g'.1=g1 at *;generalize hg2:g'.2=g2 at *;cases kb
       ·by_cases e1 : g1 = f1
        ·by_cases e2:g2=f2
         ·rw[e1]at x1
          rw[e2]at y1;go_wp2
          go_quiet (fail)
          go_wp2
          go_roundw
          case rel=>exact⟨j+1,Zo,Zs,by rw[hdec.out,decide_eq_true (hfe.out.2 ⟨e1,e2⟩)];rfl,_,rfl⟩
          case measure=>simp[intOf];omega
         ·rw[e1]at x1
          have e3:(g2==f2)=false:=beq_eq_false_iff_ne.2 e2;go_wp2
          go_quiet (fail)
          go_wp2
          go_roundw
          case rel=>exact⟨j+1,Zo,Zs,by rw[hdec.out,decide_eq_false λh=>e2 (hfe.out.1 h).2];rfl,_,rfl⟩
          case measure=>simp[intOf];omega
        ·have e3:(g1==f1)=false:=beq_eq_false_iff_ne.2 e1
         go_wp2
         go_quiet (fail)
         go_wp2
         go_roundw
         case rel=>exact⟨j+1,Zo,Zs,by rw[hdec.out,decide_eq_false λh=>e1 (hfe.out.1 h).1];rfl,_,rfl⟩
         case measure=>simp[intOf];omega
       ·clear x1 y1
        go_wp2
        go_quiet (fail)
        go_wp2
        go_roundw
        case rel=>exact⟨j+1,Zo,Zs,by rw[hdec.out];rfl,_,rfl⟩
        case measure=>simp[intOf];omega
      ·obtain rfl:j=L.length:=by omega
       rw[List.take_length]at *;clear cr0 cr1 k0 k1 hjl;have hB7:Below wr.heap.size wr (W6.drewN q'):=below_drewN hB6 q';have hown7:=Zak hown hB7;have b7:Box (W6.drewN q') B1 127 (wvA f.1 f.2):=b6.below (below_drewN (Yae _ _) q');have hBw7:=Zaa hBr hB7;have k0:=b7.cell 0;have lB7:=b7.lt;clear k0;by_cases hm:f∈L
       ·have hE:d.fieldsM (i+1)=L:=by rw[hst.out,if_pos hm]
        replace hE:=Yah hE;have hdm:decide (f∈L)=true:=decide_eq_true hm;rw[hdm];clear hst hfm;go_wp2
        go_roundw
        case rel=>exact⟨i+1,Zo,Zs,hBw7,bSr.below hB7,_,c',by rw[hE.out],by rw[hE.out];exact hown7⟩
        case measure=>simp[intOf];omega
       ·have hE:d.fieldsM (i+1)=L++[f]:=by rw[hst.out,if_neg hm]
        have hlE:(L++[f]).length=L.length+1:=Zs;replace hE:=Yah hE;have hdm:decide (f∈L)=false:=decide_eq_false hm;rw[hdm];clear hst hfm hdm hm;have happ:=Zw3 L f;generalize W6.drewN q'=V at *;go_wp2_with first|(refine Zac rfl 127 (.tmp 6) rfl B1 rfl 127 _ b7 _ Tryz.underlying127 rfl (hz2 _ _) ?_)|(refine Zaz (ps:=#[(0,.agg (wvA f.1 f.2))]) 33 1 #[(0,.tmp 63)] rfl rfl (by simp;rfl) (Zds htf hfi hfz hfs Zd Zd _ rfl) ?_;intro W8 B8 hle8 hB8 b8;have hBw8:=Zaa hBw7 hB8;have hown8:=Zak hown7 (hBw7.size |> λ_=>hB8))|(refine Zao rfl (.tmp 62) (.tmp 64) (ts:=33) (te:=127) rfl htf hfi hfz hfs hfb rfl Zd rfl rfl hown8 (H:=λ_=>(wvA f.1 f.2).toList) (λ_=>rfl) (λ_ _=>Zsh _ _) (Zb0 b8 rfl) (λh=>by cases h) hBw8.size Zo Zo ?_;intro p9 c9 W9 hown9 hg9 hn9)
        have hB9:=Below.appended hown8 hg9 hBw8 (Yab _);have bS9:=((bSr.below hB7).below hB8).appended hown8 hg9 Zd;go_roundw
        case rel=>
         refine⟨i+1,Zo,Zs,hB9,bS9,p9,c9,by rw[hE.out,hlE],?_⟩;rw[hE.out,hlE,<-Zas happ];exact hown9
        case measure=>simp[intOf];omega
   ·have hmn:min n 4=i:=by omega
    have hR:RdC wr p' (d.fieldsM i).length c' 2 (λi' j=>if j=0 then .int .i64 ((d.fieldsM i).getD i' (0,0)).1 else .int .i64 ((d.fieldsM i).getD i' (0,0)).2):=Zay (C:=fdC (d.fieldsM i)) (λ_=>rfl) (λk j hk hj=>(by rcases(by omega:j=0∨j=1) with rfl|rfl<;>rfl)) hown Zo;clear hx huu;go_wp2
    go_ret
    exact⟨p',c',by first|rfl|(rw[hmn];rfl),by first|(rw[hmn];exact hR)|exact hR,λb off e=>Zb7 hown b off e,hBr⟩
  ·have hmn:min n 4=i:=by omega
   have hR:RdC wr p' (d.fieldsM i).length c' 2 (λi' j=>if j=0 then .int .i64 ((d.fieldsM i).getD i' (0,0)).1 else .int .i64 ((d.fieldsM i).getD i' (0,0)).2):=Zay (C:=fdC (d.fieldsM i)) (λ_=>rfl) (λk j hk hj=>(by rcases(by omega:j=0∨j=1) with rfl|rfl<;>rfl)) hown Zo;clear hx huu;go_wp2
   go_ret
   exact⟨p',c',by first|rfl|(rw[hmn];rfl),by first|(rw[hmn];exact hR)|exact hR,λb off e=>Zb7 hown b off e,hBr⟩
section
open Go.Ex
def kQ:Nat->Value:=λ_=>.bool false
theorem kQ1 (i:Nat):(kQ i).oneCell'=true:=rfl
def catU:List U:=catC.toList.map U.val
theorem Zjq {D:Den} {ρ:Nm} {w:World}:∀l:List Value,(∀v∈l,v.oneCell'=true)->denL D ρ w (l.map U.val) l
 | [],_=>rfl
 | v::r,h=>⟨[v],r,rfl,⟨rfl,h v (Ycl ..)⟩,Zjq r λu hu=>h u (Ybs _ hu)⟩
theorem Zu2 {D:Den} {ρ:Nm} {w:World}:denL D ρ w catU catC.toList:=Zjq _ (by decide +kernel)
theorem Zjr (f:FuncId) (d:Nat) (xs:List SA) (vs:List Value) (V:SV) (B:Nat) (c:Nat) (w:World) (hB:Box w B 153 catC) (hc:3<=c)
  (hev:∀w0:World,(evF Tryz.prog (w0:=w0) (X:=λ_=>False) (D:=qDen kQ kQ1) [] [] d [] f (.one (.sli 0 0 3)::xs) [(0,⟨153,catU,true,false,false⟩)] 1 1 []).map (λr=>(r.v,r.obl,r.pan))=some (V,[],none))
  (hx:denAs (qDen kQ kQ1) (nmV [⟨153,catU,B,0,catC.toList⟩]) w xs vs) :
  Calls Tryz.prog f (Value.slice (some ⟨B,0,none⟩) 3 c::vs).toArray w λe' w'=>∃v ρ',e'=.returned v∧denV (qDen kQ kQ1) ρ' w' V v∧Below w.heap.size w w':=by
 obtain⟨r,hr,he⟩:=Yad.1 (hev w);simp only[Yco]at he;obtain⟨e1,e2,e5⟩:=he;refine(Zet (D:=qDen kQ kQ1) (d:=d) (vs:=[⟨153,catU,B,0,catC.toList⟩]) (orc:=[]) (args:=.one (.sli 0 0 3)::xs) (vals:=Value.slice (some ⟨B,0,none⟩) 3 c::vs) Zd2 [] [] [(0,⟨153,catU,true,false,false⟩)] rfl rfl V [] r.wr (Eq.trans (congrArg (Option.map λr=>(r.v,r.obl,r.wr,r.pan)) hr) (by rw[Yfx,e1,e2,e5])) trivial ?_ ?_).mono ?_
 ·intro v hv
  obtain rfl:v=_:=by simpa using hv
  exact⟨hB.lt,hB.range,Zu2⟩
 ·exact⟨_,vs,rfl,⟨⟨B,0,true,0,0⟩,c,rfl,hc,rfl⟩,hx⟩
 ·rintro e' w' ⟨v,ρ',rfl,h1,h2,_⟩
  exact⟨v,ρ',rfl,h1,h2⟩
theorem Zpu (B:Nat) (c:Nat) (w:World) (hB:Box w B 153 catC) (hc:3<=c) :
  Calls Tryz.prog 73 #[.slice (some ⟨B,0,none⟩) 3 c] w λe' w'=>e'=.returned (.int .i64 0)∧Below w.heap.size w w':=by
 refine(Zjr 73 6 [] [] (.a (.one (.val (.int .i64 0)))) B c w hB hc (λw0=>Zk) rfl).mono ?_;rintro e' w' ⟨v,ρ',rfl,h1,h2⟩;obtain⟨h3,_⟩:=h1;cases h3;exact⟨rfl,h2⟩
theorem Zpv (B:Nat) (c:Nat) (w:World) (hB:Box w B 153 catC) (hc:3<=c) :
  Calls Tryz.prog 118 #[.slice (some ⟨B,0,none⟩) 3 c,.string nmBK7] w λe' w'=>e'=.returned (.tuple #[.int .i64 0,.int .i64 0])∧Below w.heap.size w w':=by
 refine(Zjr 118 6 [.one (.val (.string nmBK7))] [.string nmBK7] (.tup [.one (.val (.int .i64 0)),.one (.val (.int .i64 0))]) B c w hB hc (λw0=>Zk) ⟨_,[],rfl,⟨rfl,rfl⟩,rfl⟩).mono ?_;rintro e' w' ⟨v,ρ',rfl,h1,h2⟩;obtain⟨vs,rfl,v1,r1,rfl,⟨h3,_⟩,v2,r2,rfl,⟨h4,_⟩,h5⟩:=h1;cases h3;cases h4;obtain rfl:r2=[]:=h5;exact⟨rfl,h2⟩
theorem Zpw (B:Nat) (c:Nat) (w:World) (hB:Box w B 153 catC) (hc:3<=c) :
  Calls Tryz.prog 118 #[.slice (some ⟨B,0,none⟩) 3 c,.string nmSF1] w λe' w'=>e'=.returned (.tuple #[.int .i64 1,.int .i64 0])∧Below w.heap.size w w':=by
 refine(Zjr 118 6 [.one (.val (.string nmSF1))] [.string nmSF1] (.tup [.one (.val (.int .i64 1)),.one (.val (.int .i64 0))]) B c w hB hc (λw0=>Zk) ⟨_,[],rfl,⟨rfl,rfl⟩,rfl⟩).mono ?_;rintro e' w' ⟨v,ρ',rfl,h1,h2⟩;obtain⟨vs,rfl,v1,r1,rfl,⟨h3,_⟩,v2,r2,rfl,⟨h4,_⟩,h5⟩:=h1;cases h3;cases h4;obtain rfl:r2=[]:=h5;exact⟨rfl,h2⟩
theorem Zsq (B:Nat) (c:Nat) (w:World) (hB:Box w B 153 catC) (hc:3<=c) :
  Calls Tryz.prog 118 #[.slice (some ⟨B,0,none⟩) 3 c,.string nmF2] w λe' w'=>e'=.returned (.tuple #[.int .i64 2,.int .i64 0])∧Below w.heap.size w w':=by
 refine(Zjr 118 6 [.one (.val (.string nmF2))] [.string nmF2] (.tup [.one (.val (.int .i64 2)),.one (.val (.int .i64 0))]) B c w hB hc (λw0=>Zk) ⟨_,[],rfl,⟨rfl,rfl⟩,rfl⟩).mono ?_;rintro e' w' ⟨v,ρ',rfl,h1,h2⟩;obtain⟨vs,rfl,v1,r1,rfl,⟨h3,_⟩,v2,r2,rfl,⟨h4,_⟩,h5⟩:=h1;cases h3;cases h4;obtain rfl:r2=[]:=h5;exact⟨rfl,h2⟩
end
end Go.Proofs.W
