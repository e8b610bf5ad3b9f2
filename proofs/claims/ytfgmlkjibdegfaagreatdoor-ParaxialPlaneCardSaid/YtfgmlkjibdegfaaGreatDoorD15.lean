/- The drafted optics of chapter 13: what it is and that it is valid. Part 15 of 19. No condition beside the row. -/
import Derived.Test.YtfgmlkjibdegfaaGreatDoorD07
import Derived.Test.YtfgmlkjibdegfaaGreatDoorD13
set_option linter.unusedVariables false
set_option linter.unusedSimpArgs false
set_option maxRecDepth 100000
set_option maxHeartbeats 4000000
namespace Go.Proofs.W
open Go.RowKit Go.Mono
theorem Zky (A:Array Value) (hA:(Tryz.prog.info? 28).map (·.size)=some A.size) (z:Int) (hz:U16 z) (g:A[2]? = some (.int .u16 z)) (w:World) :
  Calls Tryz.prog 81 #[.agg A] w λe w'=>e=.returned (.int .i64 (100000*(z%10001)))∧Below w.heap.size w w':=by
 obtain⟨z0,z1⟩:=hz;go_enter Tryz.func81,Tryz.ntmps81
 go_wp2_with (refine Zct (T0:=28) λW hB hsz bS=>?_;have c4:=(bS.cell 2).trans g;have lS:=bS.lt)
 go_ret
 exact⟨rfl,hB⟩
theorem Zno:(Tryz.prog.info? 3).map (λi=>(i.zero,i.size,i.bytes))=some (some (.int .i64 0),1,8):=Zk
def IntsOwn (w:World) (base:Nat) (p:Option Addr) (c n:Nat) (f:Nat->Int):Prop:=
 w.ownsRow base 3 1 (.slice p n c) n (crow (λi=>[.int .i64 (f i)]) n)∧(p=none->n=0∧c=0)
theorem Zmg (z:Int):∀u∈[Value.int .i64 z],u.oneCell'=true:=λu hu=>by
 obtain rfl:=Ycd.1 hu;rfl
theorem IntsOwn.at {w:World} {base:Nat} {p:Option Addr} {c n:Nat} {f:Nat->Int} (h:IntsOwn w base p c n f) (hn:n<=1000):RdC w p n c 1 (λi _=>.int .i64 (f i)):=
 Za4 (sz:=1) (C:=λi=>[.int .i64 (f i)]) (λ_=>rfl) (λi j hi hj=>by match j,hj with|0,_=>rfl) h.1 hn
theorem IntsOwn.low {w:World} {base base':Nat} {p:Option Addr} {c n:Nat} {f:Nat->Int} (h:IntsOwn w base p c n f) (hb:base'<=base):IntsOwn w base' p c n f:=⟨Zaw h.1 hb,h.2⟩
theorem IntsOwn.below {w w':World} {base:Nat} {p:Option Addr} {c n:Nat} {f:Nat->Int} (h:IntsOwn w base p c n f) (hB:Below w.heap.size w w'):IntsOwn w' base p c n f:=⟨Zaf h.1 hB,h.2⟩
theorem Znp (n:Nat) (hn:n<=5) (w:World) :
  Calls Tryz.prog 87 #[.int .i64 (n:Int)] w λe w'=>∃p' c',e=.returned (.slice p' n c')∧IntsOwn w' w.heap.size p' c' n (λ_=>10000000)∧Below w.heap.size w w':=by
 obtain⟨fi,hfi,hfz,hfs,hfb⟩:=Zbd Zno;have htf:Tryz.prog.underlying 33=some (.slice 3):=Tryz.underlying33;go_enter Tryz.func87,Tryz.ntmps87
 go_wp2
 go_loopw [3,4] (λv x wr=>∃i:Nat,i<=n∧x=.int .i64 (i:Int)∧Below w.heap.size w wr∧∃p' c',v=.slice p' i c'∧IntsOwn wr w.heap.size p' c' i (λ_=>10000000)) (λ_ x _=>(n-intOf x).toNat)
 case atStart=>exact⟨0,Yat _,rfl,Yae _ _,none,0,rfl,Yaj _ _ _ _,λ_=>⟨rfl,rfl⟩⟩
 case round=>
  obtain⟨i,hi,rfl,hB,p',c',rfl,hown,hnil⟩:=hrel;by_cases hin:i<n
  ·have hi':(i:Int)<n:=by omega
   have b7:Box (wr.alloc (.cells #[.int .i64 10000000] 3)) wr.heap.size 3 #[.int .i64 10000000]:=Box.new _ _ _;have hB7:Below wr.heap.size wr (wr.alloc (.cells #[.int .i64 10000000] 3)):=(Yae _ _).alloc (Yab _) _;have hown7:=Zaf hown hB7;have hB7':=Zaa hB hB7;have hle7:=hB7'.size;go_wp2_with (refine Zam rfl (.tmp 10) (.tmp 11) (ts:=33) (te:=3) rfl htf hfi hfz hfs hfb rfl Zd rfl rfl hown7 (H:=λ_=>[.int .i64 10000000]) (λ_=>rfl) (λ_ _=>Zmg _) (Zbn b7 rfl) (λh=>by cases h) hle7 Zo Zo ?_;intro p8 c8 W8 hown8 hg8 hn8)
   have hB8:=Below.appended hown7 hg8 hB7' (Yab _);go_roundw
   case rel=>
    refine⟨i+1,Zo,Zs,hB8,p8,c8,rfl,?_,hn8⟩;rw[<-Zav (C:=ccat (λ_=>[.int .i64 10000000]) i (λ_=>[.int .i64 10000000]))]
    ·exact hown8
    ·intro k hk
     unfold ccat;by_cases hki:k<i
     ·rw[if_pos hki]
     ·rw[if_neg hki]
   case measure=>simp[intOf];omega
  ·obtain rfl:i=n:=by omega
   go_wp2
   go_ret
   exact⟨p',c',rfl,⟨hown,hnil⟩,hB⟩
theorem Zb6 {w:World} {base n m size c:Nat} {p:Option Addr} {e:TypeId} {vals:List Value} (h:w.ownsRow base e size (.slice p m c) n vals):∀b off,p=some ⟨b,off,none⟩->base<=b:=λb off hp=>by
 obtain⟨_,⟨h0,_⟩|⟨g,cap,cur,hv,hb,_⟩⟩:=h
 ·subst hp;cases h0
 ·subst hp;cases hv;exact hb
theorem Zru:(Tryz.prog.info? 143).map (λi=>(i.zero,i.size,i.bytes))=some (some (.agg #[.int .i64 0,.int .i64 0]),2,16):=Zk
def wvA (z g:Int):Array Value:=#[.int .i64 z,.int .i64 g]
theorem Znl (z g:Int):∀u∈(wvA z g).toList,u.oneCell'=true:=λu hu=>by
 simp[wvA]at hu;rcases hu with rfl|rfl<;>rfl
def wvC (d:LD) (k:Nat):List Value:=(wvA (d.waveL (k+1)) (1+d.waves.getD k 0%5)).toList
theorem Zgj (d:LD) (h:∀z∈d.waves,U8 z):∀i,i<=d.waves.length->400000<=d.waveL i∧d.waveL i<=400000+52000*i
 | 0,_=>by simp[LD.waveL]
 | i + 1, hi => by
   have h1:=Zgj d h i Zo;have h2:=Zrt h (show i<d.waves.length by omega);obtain⟨h3,h4⟩:=h2;simp only[LD.waveL];omega
theorem Zmc (A:Array Value) (hA:(Tryz.prog.info? 28).map (·.size)=some A.size) (d:LD) (hu:∀z∈d.waves,U8 z) (q:Option Addr) (c:Nat) (g:A[5]? = some (.slice q d.waves.length c)) (w:World) (h:BytesAt w q c d.waves) :
  Calls Tryz.prog 80 #[.agg A] w λe w'=>∃p' c',e=.returned (.slice p' d.nw c')∧RdC w' p' d.nw c' 2 (λi j=>if j=0 then .int .i64 (d.lenW i) else .int .i64 (d.wgtW i))∧(∀b off,p'=some ⟨b,off,none⟩->w.heap.size<=b)∧Below w.heap.size w w':=by
 have hin':=Zgj d hu;have huu:=λi (hi:i<d.waves.length)=>Zrt hu hi;obtain⟨hcap,hbig,hx⟩:=h;obtain⟨fi,hfi,hfz,hfs,hfb⟩:=Zbd Zru;have htf:Tryz.prog.underlying 38=some (.slice 143):=Tryz.underlying38;have hnil0:d.waves=[]↔d.waves.length=0:=Ydj.symm;have hnw:d.nw=if d.waves.length=0 then 1 else min d.waves.length 5:=by unfold LD.nw;by_cases h0:d.waves=[]<;>simp[h0]
 have hL:∀i,d.waves.length≠0->d.lenW i=d.waveL (i+1):=λi h0=>by unfold LD.lenW;rw[if_neg λe=>h0 (hnil0.1 e)]
 have hG:∀i,d.waves.length≠0->d.wgtW i=1+d.waves.getD i 0%5:=λi h0=>by unfold LD.wgtW;rw[if_neg λe=>h0 (hnil0.1 e)]
 have hL0:∀i,d.waves.length=0->d.lenW i=550000:=λi h0=>by unfold LD.lenW;rw[if_pos (hnil0.2 h0)]
 have hG0:∀i,d.waves.length=0->d.wgtW i=1:=λi h0=>by unfold LD.wgtW;rw[if_pos (hnil0.2 h0)]
 clear hnil0;generalize hn:d.waves.length=n at *;replace hL:=Yah hL;replace hG:=Yah hG;replace hL0:=Yah hL0;replace hG0:=Yah hG0;replace hnw:=Yah hnw;go_enter Tryz.func80,Tryz.ntmps80
 go_wp2_with fail
 refine Zbo λW hB hsz bS=>?_;go_wp2
 go_loopw [3,4,5] (λv y x wr=>∃i:Nat,i<=min n 5∧x=.int .i64 (i:Int)∧y=.int .i64 (d.waveL i)∧Below W.heap.size W wr∧∃p' c',v=.slice p' i c'∧wr.ownsRow W.heap.size 143 2 (.slice p' i c') i (crow (wvC d) i)∧(p'=none->i=0∧c'=0)) (λ_ _ x _=>(min n 5-intOf x).toNat)
 case atStart=>exact⟨0,Yat _,rfl,rfl,Yae _ _,none,0,rfl,Yaj _ _ _ _,λ_=>⟨rfl,rfl⟩⟩
 case round=>
  obtain⟨i,hi,rfl,rfl,hBr,p',c',rfl,hown,hnil⟩:=hrel;have bSr:=bS.below hBr;have cS:=(bSr.cell 5).trans g;have lS:=bSr.lt;by_cases hin:i<n
  ·have hi':(i:Int)<n:=by omega
   by_cases hi5:i<5
   ·have hi5':(i:Int)<5:=by omega
    obtain⟨b,off,rfl,hb,hcell⟩:=hx Zo;have hBw:=Zaa hB hBr;have x0:wr.cell? ⟨b,off+i,none⟩=some (.int .u8 (d.waves.getD i 0)):=by simpa using(hBw.cell (p:=⟨b,off+i*1+0,none⟩) hb).trans (hcell i 0 hin Zd)
    obtain⟨u0,u1⟩:=huu i hin;have hbr:=Yaf hb hBw.size;have hwb:=hin' i Zo;have hws:d.waveL (i+1)=d.waveL i+200*d.waves.getD i 0+1000:=rfl;have hwc:wvC d i=(wvA (d.waveL i+200*d.waves.getD i 0+1000) (1+d.waves.getD i 0%5)).toList:=rfl;have hi6:i<=5:=Zo;replace hws:=Yah hws;clear hcell hx huu hin';generalize hz:d.waves.getD i 0=z at *;generalize hl:d.waveL i=l at *;have b7:Box (wr.alloc (.cells (wvA (l+200*z+1000) (1+z%5)) 143)) wr.heap.size 143 (wvA (l+200*z+1000) (1+z%5)):=Box.new _ _ _;have hB7:Below wr.heap.size wr (wr.alloc (.cells (wvA (l+200*z+1000) (1+z%5)) 143)):=(Yae _ _).alloc (Yab _) _;have hown7:=Zaf hown hB7;have hB7':=Zaa hBr hB7;have hle7:=hB7'.size;go_wp2_with (refine Zam rfl (.tmp 27) (.tmp 38) (ts:=38) (te:=143) rfl htf hfi hfz hfs hfb rfl Zd rfl rfl hown7 (H:=λ_=>(wvA (l+200*z+1000) (1+z%5)).toList) (λ_=>rfl) (λ_ _=>Znl _ _) (Zbn b7 rfl) (λh=>by cases h) hle7 Zo Zo ?_;intro p8 c8 W8 hown8 hg8 hn8)
    have hB8:=Below.appended hown7 hg8 hB7' (Yab _);go_roundw
    case rel=>
     refine⟨i+1,Zo,Zs,by rw[hws.out],hB8,p8,c8,rfl,?_,hn8⟩;rw[<-Zav (C:=ccat (wvC d) i (λ_=>(wvA (l+200*z+1000) (1+z%5)).toList))]
     ·exact hown8
     ·intro k hk
      unfold ccat;by_cases hki:k<i
      ·rw[if_pos hki]
      ·obtain rfl:k=i:=by omega
       rw[if_neg hki,hwc]
    case measure=>simp[intOf];omega
   ·obtain rfl:i=5:=by omega
    have hn0:n≠0:=Zo;clear hx huu hin';go_wp2
    go_ret
    have hN:d.nw=5:=by rw[hnw.out,if_neg hn0];omega
    exact⟨p',c',by first|rfl|(rw[hN];rfl),by
     (try rw[hN])
     exact Za4 (λ_=>rfl) (λk j hk hj=>by
      rcases(by omega:j=0∨j=1) with rfl|rfl
      ·rw[if_pos rfl,hL.out k hn0];rfl
      ·rw[if_neg Zd,hG.out k hn0];rfl) hown Zo,λb off e=>Yak hB.size (Zb6 hown b off e),Zaa hB hBr⟩
  ·obtain rfl:i=n:=by omega
   clear hx huu hin';by_cases hn0:i=0
   ·subst hn0
    have hN:d.nw=1:=by rw[hnw.out,if_pos rfl]
    have hB7:Below wr.heap.size wr (wr.alloc (.cells (wvA 550000 1) 143)):=(Yae _ _).alloc (Yab _) _;have b7:Box (wr.alloc (.cells (wvA 550000 1) 143)) wr.heap.size 143 (wvA 550000 1):=Box.new _ _ _;have hown7:=Zaf hown hB7;have hB7':=Zaa hBr hB7;have hle7:=hB7'.size;have hlen0:=hL0.out 0 rfl;have hw0:=hG0.out 0 rfl;go_wp2_with (refine Zam rfl (.tmp 43) (.tmp 45) (ts:=38) (te:=143) rfl htf hfi hfz hfs hfb rfl Zd rfl rfl hown7 (H:=λ_=>(wvA 550000 1).toList) (λ_=>rfl) (λ_ _=>Znl _ _) (Zbn b7 rfl) (λh=>by cases h) hle7 Zo Zo ?_;intro p8 c8 W8 hown8 hg8 hn8)
    go_ret
    have hB8:=Below.appended hown7 hg8 hB7' (Yab _);exact⟨p8,c8,by first|rfl|(rw[hN];rfl),by
     (try rw[hN])
     exact Za4 (C:=ccat (wvC d) 0 (λ_=>(wvA 550000 1).toList)) (λk=>by unfold ccat;rw[if_neg Zo];rfl) (λk j hk hj=>by
      obtain rfl:k=0:=Zo;rcases(by omega:j=0∨j=1) with rfl|rfl
      ·rw[if_pos rfl,hlen0];rfl
      ·rw[if_neg Zd,hw0];rfl) hown8 Zo,λb off e=>Yak hB.size (Zb6 hown8 b off e),Zaa hB hB8⟩
   ·have hn1:¬((i:Int)=0):=by omega
    go_wp2
    go_ret
    have hN:d.nw=i:=by rw[hnw.out,if_neg hn0];omega
    exact⟨p',c',by first|rfl|(rw[hN];rfl),by
     (try rw[hN])
     exact Za4 (λ_=>rfl) (λk j hk hj=>by
      rcases(by omega:j=0∨j=1) with rfl|rfl
      ·rw[if_pos rfl,hL.out k hn0];rfl
      ·rw[if_neg Zd,hG.out k hn0];rfl) hown Zo,λb off e=>Yak hB.size (Zb6 hown b off e),Zaa hB hBr⟩
theorem Zo6:(Tryz.prog.info? 141).map (λi=>(i.zero,i.size,i.bytes))=some (some (.agg #[.int .i64 0,.int .i64 0]),2,16):=Zk
theorem Zhc (w:World):(Instr.alloc 141 true (.tuple #[])).run Tryz.prog w=.ok (.pointer (some ⟨w.heap.size,0,none⟩)) (w.alloc (.cells #[.int .i64 0,.int .i64 0] 141)):=by
 go_simp
def fdC (L:List (Int×Int)) (k:Nat):List Value:=(wvA (L.getD k (0,0)).1 (L.getD k (0,0)).2).toList
theorem Zed (d:LD):∀i,1<=(d.fieldsM i).length∧(d.fieldsM i).length<=i+1
 | 0=>by simp[LD.fieldsM]
 | i + 1 => by
   have h:=Zed d i;simp only[LD.fieldsM];split
   ·omega
   ·simp only[Yay,Ybm,Ydf];omega
theorem Zrv (L:List (Int×Int)) (f:Int×Int):∀k,k<L.length+1->ccat (fdC L) L.length (λ_=>(wvA f.1 f.2).toList) k=fdC (L++[f]) k:=λk hk=>by
 unfold ccat;by_cases h:k<L.length
 ·rw[if_pos h]
  unfold fdC;rw[Yac,Yac,Ybb h]
 ·obtain rfl:k=L.length:=by omega
  rw[if_neg h];unfold fdC;rw[Yac,Ybc (Yab _),Ydt];rfl
theorem Zkz (A:Array Value) (hA:(Tryz.prog.info? 28).map (·.size)=some A.size) (d:LD) (hu:∀z∈d.fields,U8 z) (hf:U16 d.far) (q:Option Addr) (c:Nat) (g2:A[2]? = some (.int .u16 d.far)) (g:A[4]? = some (.slice q d.fields.length c)) (w:World) (h:BytesAt w q c d.fields) :
  Calls Tryz.prog 82 #[.agg A] w λe w'=>∃p' c',e=.returned (.slice p' (d.fieldsM (min d.fields.length 4)).length c')∧RdC w' p' (d.fieldsM (min d.fields.length 4)).length c' 2 (λi j=>if j=0 then .int .i64 ((d.fieldsM (min d.fields.length 4)).getD i (0,0)).1 else .int .i64 ((d.fieldsM (min d.fields.length 4)).getD i (0,0)).2)∧(∀b off,p'=some ⟨b,off,none⟩->w.heap.size<=b)∧Below w.heap.size w w':=by
 have qf:=λW=>Zky A hA d.far hf g2 W;have huu:=λi (hi:i<d.fields.length)=>Zrt hu hi;have hlen:=Zed d;have hstep:∀i,d.fieldsM (i+1)=if d.fieldM (d.fields.getD i 0)∈d.fieldsM i then d.fieldsM i else d.fieldsM i++[d.fieldM (d.fields.getD i 0)]:=λi=>rfl
 obtain⟨hcap,hbig,hx⟩:=h;obtain⟨fi,hfi,hfz,hfs,hfb⟩:=Zbd Zo6;have hz2:∀x y,(Tryz.prog.info? 141).map (·.size)=some (wvA x y).size:=λ_ _=>Zk;have htf:Tryz.prog.underlying 37=some (.slice 141):=Tryz.underlying37;have hfar0:0<=d.farM:=by unfold LD.farM;omega
 have hfarE:100000*(d.far%10001)=d.farM:=rfl;rw[hfarE]at qf;generalize hn:d.fields.length=n at *;replace hstep:=Yah hstep;go_enter Tryz.func82,Tryz.ntmps82
 go_wp2_with fail
 refine Zeh λW hB hsz bS b0=>?_;have hown0:W.ownsRow w.heap.size 141 2 (.slice (some ⟨w.heap.size+1,0,none⟩) 1 1) 1 (crow (fdC [(0,0)]) 1):=Zcy b0 (Nat.le_succ _) Zd (λ_=>rfl) rfl;go_loopw [3,4] (λv x wr=>∃i:Nat,i<=min n 4∧x=.int .i64 (i:Int)∧Below w.heap.size w wr∧Box wr w.heap.size 28 A∧∃p' c',v=.slice p' (d.fieldsM i).length c'∧wr.ownsRow w.heap.size 141 2 (.slice p' (d.fieldsM i).length c') (d.fieldsM i).length (crow (fdC (d.fieldsM i)) (d.fieldsM i).length)) (λ_ x _=>(min n 4-intOf x).toNat)
 case atStart=>exact⟨0,Yat _,rfl,hB,bS,_,_,rfl,hown0⟩
 case round=>
  obtain⟨i,hi,rfl,hBr,bSr,p',c',rfl,hown⟩:=hrel;have cS:=(bSr.cell 4).trans g;have lS:=bSr.lt;obtain⟨hl1,hl2⟩:=hlen i;by_cases hin:i<n
  ·have hi':(i:Int)<n:=by omega
   by_cases hi5:i<4
   ·have hi5':(i:Int)<4:=by omega
    obtain⟨b,off,rfl,hb,hcell⟩:=hx Zo;have hBw:=hBr;have x0:wr.cell? ⟨b,off+i,none⟩=some (.int .u8 (d.fields.getD i 0)):=by simpa using(hBw.cell (p:=⟨b,off+i*1+0,none⟩) hb).trans (hcell i 0 hin Zd)
    obtain⟨u0,u1⟩:=huu i hin;have hbr:=Yaf hb hBw.size;have hfm:d.fieldM (d.fields.getD i 0)=if 0<d.farM then(500000*(d.fields.getD i 0/16),-500000*(d.fields.getD i 0%16)) else(10000*(d.fields.getD i 0/16),10000*(d.fields.getD i 0%16)):=rfl
    have hst:=hstep.out i;clear hcell hx huu hlen;generalize hz:d.fields.getD i 0=z at *;generalize hL:d.fieldsM i=L at *;replace hst:=Yah hst;by_cases hfp:0<d.farM
    ·rw[if_pos hfp]at hfm
     generalize hff:d.fieldM z=f at *;replace hfm:=Yah hfm;go_wp2_with first|(go_at_call 81;refine(qf _).mono ?_;rintro e W5 ⟨rfl,hb5⟩;have b25:=b2.below hb5;have hB5:=Zaa hB2 hb5)|(refine Zaq rfl 141 rfl _ Zhc ?_;intro W1 B1 hle1 hB1 b1;have bS1:=bSr.below hB1;have lS1:=bS1.lt)|(refine Zab rfl 141 (.tmp 6) (.tmp 34) rfl B1 0 141 _ (wvA (10000*(z/16)) (10000*(z%16))) (wvA (10000*(z/16)) (10000*(z%16))) rfl rfl b1 (hz2 _ _) (Yaa rfl) (by simp[wvA,Value.oneCell']) rfl ?_;intro W2 hk2 b2;have bS2:=hk2.box bS1 bS1.lt (Zo);have hB2:=hk2.below hB1 hle1 hB1.size)|(refine Zac rfl 28 (.tmp 1) rfl w.heap.size rfl 28 A bS2 _ Tryz.underlying28 rfl hA ?_)|(refine Zab rfl 141 (.tmp 6) (.tmp 44) rfl B1 0 141 _ (wvA (500000*(z/16)) (-500000*(z%16))) (wvA (500000*(z/16)) (-500000*(z%16))) rfl rfl b25 (hz2 _ _) (Yaa rfl) (by simp[wvA,Value.oneCell']) rfl ?_;intro W6 hk6 b6;have hB6:=hk6.below hB5 hle1 hB5.size)
     have hown6:=Zaf hown hB6;have hBw6:=Zaa hBr hB6;replace b6:Box W6 B1 141 (wvA f.1 f.2):=by rw[hfm.out];exact b6
     have k0:W6.cell? ⟨B1,0,none⟩=some (.int .i64 f.1):=b6.cell 0;have k1:W6.cell? ⟨B1,1,none⟩=some (.int .i64 f.2):=b6.cell 1;have lB:=b6.lt;obtain⟨_,_,hxr⟩:=Zdk (C:=fdC L) (λ_=>rfl) hown6 (show L.length<=1000 by omega);obtain⟨br,offr,rfl,hbr',hcr⟩:=hxr Zo;have cr0:∀k,k<L.length->W6.cell? ⟨br,offr+k*2,none⟩=some (.int .i64 (L.getD k (0,0)).1):=λk hk=>hcr k 0 hk Zd;have cr1:∀k,k<L.length->W6.cell? ⟨br,offr+k*2+1,none⟩=some (.int .i64 (L.getD k (0,0)).2):=λk hk=>hcr k 1 hk Zd;clear hcr hxr;go_loopw [7,8] (λv y w7=>∃j:Nat,j<=L.length∧y=.int .i64 (j:Int)∧v=.bool (decide (f∈L.take j))∧∃q',w7=W6.drewN q') (λ_ y _=>(L.length-intOf y).toNat)
     case atStart=>exact⟨0,Yat _,rfl,Zs,0,rfl⟩
     case round=>
      obtain⟨j,hj,rfl,rfl,q',rfl⟩:=hrel;by_cases hjl:j<L.length
      ·have x1:=cr0 j hjl
       have y1:=cr1 j hjl;have hjl':(j:Int)<L.length:=Zo;have htk:L.take (j+1)=L.take j++[L.getD j (0,0)]:=by
        rw[Yac,Yao hjl];exact Yfh hjl
       have hdec:decide (f∈L.take (j+1))=(decide (f∈L.take j) || decide (f=L.getD j (0,0))):=by
        rw[htk];simp[Ycn]
       have hfe:f=L.getD j (0,0)↔(L.getD j (0,0)).1=f.1∧(L.getD j (0,0)).2=f.2:=⟨λe=>by rw[<-e];exact⟨rfl,rfl⟩,λe=>Prod.ext e.1.symm e.2.symm⟩
       replace hdec:=Yah hdec;clear cr0 cr1 htk hst hfm;generalize hkb:decide (f∈L.take j)=kb at *;generalize hge:L.getD j (0,0)=g' at *;replace hfe:=Yah hfe;generalize hf1:f.1=f1 at *;generalize hf2:f.2=f2 at *;generalize hg1:g'.1=g1 at *;generalize hg2:g'.2=g2 at *;cases kb
       ·by_cases e1 : g1 = f1
        ·by_cases e2:g2=f2
         ·rw[e1]at x1
          rw[e2]at y1;go_wp2
          go_quiet (fail)
          go_wp2
          go_roundw
          case rel=>exact⟨j+1,Zo,Zs,by rw[hdec.out,decide_eq_true (hfe.out.2 ⟨e1,e2⟩)];rfl,_,rfl⟩
          case measure=>simp[intOf];omega
         ·rw[e1]at x1
          have e3:(g2==f2)=false:=beq_eq_false_iff_ne.2 e2;go_wp2
          go_quiet (fail)
          go_wp2
          go_roundw
          case rel=>exact⟨j+1,Zo,Zs,by rw[hdec.out,decide_eq_false λh=>e2 (hfe.out.1 h).2];rfl,_,rfl⟩
          case measure=>simp[intOf];omega
        ·have e3:(g1==f1)=false:=beq_eq_false_iff_ne.2 e1
         go_wp2
         go_quiet (fail)
         go_wp2
         go_roundw
         case rel=>exact⟨j+1,Zo,Zs,by rw[hdec.out,decide_eq_false λh=>e1 (hfe.out.1 h).1];rfl,_,rfl⟩
         case measure=>simp[intOf];omega
       ·clear x1 y1
        go_wp2
        go_quiet (fail)
        go_wp2
        go_roundw
        case rel=>exact⟨j+1,Zo,Zs,by rw[hdec.out];rfl,_,rfl⟩
        case measure=>simp[intOf];omega
      ·obtain rfl:j=L.length:=by omega
       rw[List.take_length]at *;clear cr0 cr1 k0 k1 hjl;have hB7:Below wr.heap.size wr (W6.drewN q'):=below_drewN hB6 q';have hown7:=Zaf hown hB7;have b7:Box (W6.drewN q') B1 141 (wvA f.1 f.2):=b6.below (below_drewN (Yae _ _) q');have hBw7:=Zaa hBr hB7;have k0:=b7.cell 0;have lB7:=b7.lt;clear k0;by_cases hm:f∈L
       ·have hE:d.fieldsM (i+1)=L:=by rw[hst.out,if_pos hm]
        replace hE:=Yah hE;have hdm:decide (f∈L)=true:=decide_eq_true hm;rw[hdm];clear hst hfm;go_wp2
        go_roundw
        case rel=>exact⟨i+1,Zo,Zs,hBw7,bSr.below hB7,_,c',by rw[hE.out],by rw[hE.out];exact hown7⟩
        case measure=>simp[intOf];omega
       ·have hE:d.fieldsM (i+1)=L++[f]:=by rw[hst.out,if_neg hm]
        have hlE:(L++[f]).length=L.length+1:=Zs;replace hE:=Yah hE;have hdm:decide (f∈L)=false:=decide_eq_false hm;rw[hdm];clear hst hfm hdm hm;have happ:=Zrv L f;generalize W6.drewN q'=V at *;go_wp2_with first|(refine Zac rfl 141 (.tmp 6) rfl B1 rfl 141 _ b7 _ Tryz.underlying141 rfl (hz2 _ _) ?_)|(refine Zau (ps:=#[(0,.agg (wvA f.1 f.2))]) 37 1 #[(0,.tmp 63)] rfl rfl (by simp;rfl) (Zch htf hfi hfz hfs Zd Zd _ rfl) ?_;intro W8 B8 hle8 hB8 b8;have hBw8:=Zaa hBw7 hB8;have hown8:=Zaf hown7 (hBw7.size |> λ_=>hB8))|(refine Zam rfl (.tmp 62) (.tmp 64) (ts:=37) (te:=141) rfl htf hfi hfz hfs hfb rfl Zd rfl rfl hown8 (H:=λ_=>(wvA f.1 f.2).toList) (λ_=>rfl) (λ_ _=>Znl _ _) (Zbn b8 rfl) (λh=>by cases h) hBw8.size Zo Zo ?_;intro p9 c9 W9 hown9 hg9 hn9)
        have hB9:=Below.appended hown8 hg9 hBw8 (Yab _);have bS9:=((bSr.below hB7).below hB8).appended hown8 hg9 Zd;go_roundw
        case rel=>
         refine⟨i+1,Zo,Zs,hB9,bS9,p9,c9,by rw[hE.out,hlE],?_⟩;rw[hE.out,hlE,<-Zav happ];exact hown9
        case measure=>simp[intOf];omega
    ·rw[if_neg hfp]at hfm
     generalize hff:d.fieldM z=f at *;replace hfm:=Yah hfm;go_wp2_with first|(go_at_call 81;refine(qf _).mono ?_;rintro e W5 ⟨rfl,hb5⟩;have b25:=b2.below hb5;have hB5:=Zaa hB2 hb5)|(refine Zaq rfl 141 rfl _ Zhc ?_;intro W1 B1 hle1 hB1 b1;have bS1:=bSr.below hB1;have lS1:=bS1.lt)|(refine Zab rfl 141 (.tmp 6) (.tmp 34) rfl B1 0 141 _ (wvA (10000*(z/16)) (10000*(z%16))) (wvA (10000*(z/16)) (10000*(z%16))) rfl rfl b1 (hz2 _ _) (Yaa rfl) (by simp[wvA,Value.oneCell']) rfl ?_;intro W2 hk2 b2;have bS2:=hk2.box bS1 bS1.lt (Zo);have hB2:=hk2.below hB1 hle1 hB1.size)|(refine Zac rfl 28 (.tmp 1) rfl w.heap.size rfl 28 A bS2 _ Tryz.underlying28 rfl hA ?_)
     have hB6:=hB5;have b6:=b25;have hown6:=Zaf hown hB6;have hBw6:=Zaa hBr hB6;replace b6:Box W5 B1 141 (wvA f.1 f.2):=by rw[hfm.out];exact b6
     have k0:W5.cell? ⟨B1,0,none⟩=some (.int .i64 f.1):=b6.cell 0;have k1:W5.cell? ⟨B1,1,none⟩=some (.int .i64 f.2):=b6.cell 1;have lB:=b6.lt;obtain⟨_,_,hxr⟩:=Zdk (C:=fdC L) (λ_=>rfl) hown6 (show L.length<=1000 by omega);obtain⟨br,offr,rfl,hbr',hcr⟩:=hxr Zo;have cr0:∀k,k<L.length->W5.cell? ⟨br,offr+k*2,none⟩=some (.int .i64 (L.getD k (0,0)).1):=λk hk=>hcr k 0 hk Zd;have cr1:∀k,k<L.length->W5.cell? ⟨br,offr+k*2+1,none⟩=some (.int .i64 (L.getD k (0,0)).2):=λk hk=>hcr k 1 hk Zd;clear hcr hxr;go_loopw [7,8] (λv y w7=>∃j:Nat,j<=L.length∧y=.int .i64 (j:Int)∧v=.bool (decide (f∈L.take j))∧∃q',w7=W5.drewN q') (λ_ y _=>(L.length-intOf y).toNat)
     case atStart=>exact⟨0,Yat _,rfl,Zs,0,rfl⟩
     case round=>
      obtain⟨j,hj,rfl,rfl,q',rfl⟩:=hrel;by_cases hjl:j<L.length
      ·have x1:=cr0 j hjl
       have y1:=cr1 j hjl;have hjl':(j:Int)<L.length:=Zo;have htk:L.take (j+1)=L.take j++[L.getD j (0,0)]:=by
        rw[Yac,Yao hjl];exact Yfh hjl
       have hdec:decide (f∈L.take (j+1))=(decide (f∈L.take j) || decide (f=L.getD j (0,0))):=by
        rw[htk];simp[Ycn]
       have hfe:f=L.getD j (0,0)↔(L.getD j (0,0)).1=f.1∧(L.getD j (0,0)).2=f.2:=⟨λe=>by rw[<-e];exact⟨rfl,rfl⟩,λe=>Prod.ext e.1.symm e.2.symm⟩
       replace hdec:=Yah hdec;clear cr0 cr1 htk hst hfm;generalize hkb:decide (f∈L.take j)=kb at *;generalize hge:L.getD j (0,0)=g' at *;replace hfe:=Yah hfe;generalize hf1:f.1=f1 at *;generalize hf2:f.2=f2 at *;generalize hg1:g'.1=g1 at *;generalize hg2:g'.2=g2 at *;cases kb
       ·by_cases e1 : g1 = f1
        ·by_cases e2:g2=f2
         ·rw[e1]at x1
          rw[e2]at y1;go_wp2
          go_quiet (fail)
          go_wp2
          go_roundw
          case rel=>exact⟨j+1,Zo,Zs,by rw[hdec.out,decide_eq_true (hfe.out.2 ⟨e1,e2⟩)];rfl,_,rfl⟩
          case measure=>simp[intOf];omega
         ·rw[e1]at x1
          have e3:(g2==f2)=false:=beq_eq_false_iff_ne.2 e2;go_wp2
          go_quiet (fail)
          go_wp2
          go_roundw
          case rel=>exact⟨j+1,Zo,Zs,by rw[hdec.out,decide_eq_false λh=>e2 (hfe.out.1 h).2];rfl,_,rfl⟩
          case measure=>simp[intOf];omega
        ·have e3:(g1==f1)=false:=beq_eq_false_iff_ne.2 e1
         go_wp2
         go_quiet (fail)
         go_wp2
         go_roundw
         case rel=>exact⟨j+1,Zo,Zs,by rw[hdec.out,decide_eq_false λh=>e1 (hfe.out.1 h).1];rfl,_,rfl⟩
         case measure=>simp[intOf];omega
       ·clear x1 y1
        go_wp2
        go_quiet (fail)
        go_wp2
        go_roundw
        case rel=>exact⟨j+1,Zo,Zs,by rw[hdec.out];rfl,_,rfl⟩
        case measure=>simp[intOf];omega
      ·obtain rfl:j=L.length:=by omega
       rw[List.take_length]at *;clear cr0 cr1 k0 k1 hjl;have hB7:Below wr.heap.size wr (W5.drewN q'):=below_drewN hB6 q';have hown7:=Zaf hown hB7;have b7:Box (W5.drewN q') B1 141 (wvA f.1 f.2):=b6.below (below_drewN (Yae _ _) q');have hBw7:=Zaa hBr hB7;have k0:=b7.cell 0;have lB7:=b7.lt;clear k0;by_cases hm:f∈L
       ·have hE:d.fieldsM (i+1)=L:=by rw[hst.out,if_pos hm]
        replace hE:=Yah hE;have hdm:decide (f∈L)=true:=decide_eq_true hm;rw[hdm];clear hst hfm;go_wp2
        go_roundw
        case rel=>exact⟨i+1,Zo,Zs,hBw7,bSr.below hB7,_,c',by rw[hE.out],by rw[hE.out];exact hown7⟩
        case measure=>simp[intOf];omega
       ·have hE:d.fieldsM (i+1)=L++[f]:=by rw[hst.out,if_neg hm]
        have hlE:(L++[f]).length=L.length+1:=Zs;replace hE:=Yah hE;have hdm:decide (f∈L)=false:=decide_eq_false hm;rw[hdm];clear hst hfm hdm hm;have happ:=Zrv L f;generalize W5.drewN q'=V at *;go_wp2_with first|(refine Zac rfl 141 (.tmp 6) rfl B1 rfl 141 _ b7 _ Tryz.underlying141 rfl (hz2 _ _) ?_)|(refine Zau (ps:=#[(0,.agg (wvA f.1 f.2))]) 37 1 #[(0,.tmp 63)] rfl rfl (by simp;rfl) (Zch htf hfi hfz hfs Zd Zd _ rfl) ?_;intro W8 B8 hle8 hB8 b8;have hBw8:=Zaa hBw7 hB8;have hown8:=Zaf hown7 (hBw7.size |> λ_=>hB8))|(refine Zam rfl (.tmp 62) (.tmp 64) (ts:=37) (te:=141) rfl htf hfi hfz hfs hfb rfl Zd rfl rfl hown8 (H:=λ_=>(wvA f.1 f.2).toList) (λ_=>rfl) (λ_ _=>Znl _ _) (Zbn b8 rfl) (λh=>by cases h) hBw8.size Zo Zo ?_;intro p9 c9 W9 hown9 hg9 hn9)
        have hB9:=Below.appended hown8 hg9 hBw8 (Yab _);have bS9:=((bSr.below hB7).below hB8).appended hown8 hg9 Zd;go_roundw
        case rel=>
         refine⟨i+1,Zo,Zs,hB9,bS9,p9,c9,by rw[hE.out,hlE],?_⟩;rw[hE.out,hlE,<-Zav happ];exact hown9
        case measure=>simp[intOf];omega
   ·have hmn:min n 4=i:=by omega
    have hR:RdC wr p' (d.fieldsM i).length c' 2 (λi' j=>if j=0 then .int .i64 ((d.fieldsM i).getD i' (0,0)).1 else .int .i64 ((d.fieldsM i).getD i' (0,0)).2):=Za4 (C:=fdC (d.fieldsM i)) (λ_=>rfl) (λk j hk hj=>(by rcases(by omega:j=0∨j=1) with rfl|rfl<;>rfl)) hown Zo;clear hx huu;go_wp2
    go_ret
    exact⟨p',c',by first|rfl|(rw[hmn];rfl),by first|(rw[hmn];exact hR)|exact hR,λb off e=>Zb6 hown b off e,hBr⟩
  ·have hmn:min n 4=i:=by omega
   have hR:RdC wr p' (d.fieldsM i).length c' 2 (λi' j=>if j=0 then .int .i64 ((d.fieldsM i).getD i' (0,0)).1 else .int .i64 ((d.fieldsM i).getD i' (0,0)).2):=Za4 (C:=fdC (d.fieldsM i)) (λ_=>rfl) (λk j hk hj=>(by rcases(by omega:j=0∨j=1) with rfl|rfl<;>rfl)) hown Zo;clear hx huu;go_wp2
   go_ret
   exact⟨p',c',by first|rfl|(rw[hmn];rfl),by first|(rw[hmn];exact hR)|exact hR,λb off e=>Zb6 hown b off e,hBr⟩
end Go.Proofs.W
namespace Go.Mono
def nmDraft:ByteArray:={data:=#[100,114,97,102,116]}
def nmNear:ByteArray:={data:=#[110,101,97,114]}
def nmFar:ByteArray:={data:=#[102,97,114]}
noncomputable def LD.len (d:LD):Len where
 nm:=nmDraft
 di:=d.farM
 pu:=100000*(1+d.pupil)
 st:=d.st
 pr:=d.primary%(d.nw:Int)
 nf:=(d.fieldsM (min d.fields.length 4)).length
 X:=λi=>((d.fieldsM (min d.fields.length 4)).getD i (0,0)).1
 Y:=λi=>((d.fieldsM (min d.fields.length 4)).getD i (0,0)).2
 nw:=d.nw
 L:=d.lenW
 G:=d.wgtW
 l:=d.srfs
 nc:=min d.configs.length 2
 nms:=λi=>if i=0 then nmNear else nmFar
 css:=λi=>d.conf (d.configs.getD i [])
end Go.Mono
namespace Go.Proofs.W
open Go.RowKit Go.Mono
theorem Zhd {d:LD} (h:d.ok) {x:List (Int×Int×Int)} (hx:∀c∈x,U8 c.1∧U8 c.2.1∧R16 c.2.2) :
  (d.conf x).length<=4∧(∀k,k<(d.conf x).length->(cAt (d.conf x) k).1<d.srfs.length∧In 32768000 (cAt (d.conf x) k).2.2)∧madeS d.srfs (d.conf x)≠none:=by
 unfold LD.conf;refine⟨?_,λk hk=>?_,Zfo _ _ λe=>by cases e⟩
 ·have:=Ze6 (l:=d.srfs) ((x.take 4).map d.chg) []
  simp only[Ydf,Ybt,Ycq]at this;omega
 ·have hm:cAt (dConf d.srfs [] ((x.take 4).map d.chg)) k∈dConf d.srfs [] ((x.take 4).map d.chg):=by
   unfold cAt;rw[Yac,Yao hk];exact Ybw hk
  rcases Ze7 _ _ _ hm with hm|hm
  ·cases hm
  ·obtain⟨c,hc,he⟩:=Ydl.1 hm
   rw[<-he];obtain⟨_,_,h3⟩:=hx c (Yfu hc);obtain⟨h4,h5⟩:=h3;have hl:=(LD.srfs_ok h).2.1;unfold LD.chg;refine⟨?_,?_,?_⟩
   ·dsimp only
    have h2:=Ybu c.1 (show(0:Int)<d.srfs.length by omega);have h3:=Ycc c.1 (show(d.srfs.length:Int)≠0 by omega);omega
   ·dsimp only;omega
   ·dsimp only;omega
theorem Zk0 {d:LD} (h:d.ok):LenOk d.len:=by
 have hraw:=LD.raw_ok h;have hsr:=LD.srfs_ok h;have hst:=LD.st_lt h;have hfl:=Zed d (min d.fields.length 4);have hwl:=Zgj d h.waves;have hnw:d.nw=if d.waves.length=0 then 1 else min d.waves.length 5:=by unfold LD.nw;by_cases h0:d.waves=[]<;>simp[h0]
 have hnw1:1<=d.nw∧d.nw<=5:=by rw[hnw];split<;>omega
 obtain⟨pu0,pu1⟩:=h.pupil;obtain⟨f0,f1⟩:=h.far;have hlast:sAt d.srfs (d.srfs.length-1)=imgS (1000*d.image):=by
  unfold sAt;rw[Yac,show d.srfs.length-1=d.raw.length by omega,hsr.2.2.1];rfl
 have hx:∀i,∀c∈d.configs.getD i [],U8 c.1∧U8 c.2.1∧R16 c.2.2:=λi c hc=>by
  rw[Yac]at hc;cases he:d.configs[i]? with
  | none=>rw[he]at hc;cases hc
  | some x=>rw[he]at hc;exact h.configs x (Ych he) c hc
 have hfi:∀i,i<(d.fieldsM (min d.fields.length 4)).length->(d.fieldsM (min d.fields.length 4)).getD i (0,0)∈d.fieldsM (min d.fields.length 4):=λi hi=>by
  rw[Yac,Yao hi];exact Ybw hi
 refine {name:=(show NameOk nmDraft from⟨Zd,Zd,Zd⟩),di:=⟨?_,?_⟩,pu:=⟨?_,?_⟩,nf:=⟨hfl.1,?_⟩,fr:=λi hi=>?_,fd:=λi k hki hi=>?_,nw:=hnw1,pr:=⟨?_,?_⟩,wl:=λi hi=>?_,wg:=λi hi=>?_,ws:=λi hi=>?_,ns:=⟨?_,?_⟩,sok:=hsr.1,st:=?_,stop:=?_,image:=?_,confs:=?_}
 ·show 0<=d.farM
  unfold LD.farM;omega
 ·show d.farM<=1000000000
  unfold LD.farM;omega
 ·show 1<=100000*(1+d.pupil)
  omega
 ·show 100000*(1+d.pupil)<=1000000000
  omega
 ·have:=hfl.2
  show(d.fieldsM (min d.fields.length 4)).length<=5;omega
 ·exact LD.fieldsM_in h.fields _ Zo _ (hfi i hi)
 ·intro he
  have hnd:=LD.fieldsM_nodup (d:=d) (min d.fields.length 4);have hi':i<(d.fieldsM (min d.fields.length 4)).length:=hi;have hk':k<(d.fieldsM (min d.fields.length 4)).length:=Zo;have e:(d.fieldsM (min d.fields.length 4)).getD i (0,0)=(d.fieldsM (min d.fields.length 4)).getD k (0,0):=Prod.ext he.1 he.2;rw[Yac,Yac,Yao hi',Yao hk']at e;have:=(List.getElem_inj hnd).1 e;omega
 ·show 0<=d.primary%(d.nw:Int)
  exact Ycc _ Zo
 ·show d.primary%(d.nw:Int)<=d.nw-1
  have:=Ybu d.primary (show(0:Int)<d.nw by omega);omega
 ·show 300000<=d.lenW i∧d.lenW i<=2500000
  replace hi:i<d.nw:=hi;unfold LD.lenW;split
  ·decide
  ·rename_i h0
   have h0':d.waves.length≠0:=λe=>h0 (Ydj.1 e);rw[hnw,if_neg h0']at hi;have:=hwl (i+1) Zo;omega
 ·show 1<=d.wgtW i∧d.wgtW i<=100
  unfold LD.wgtW;split
  ·decide
  ·omega
 ·show d.lenW i<d.lenW (i+1)
  replace hi:i+1<d.nw:=hi;by_cases h0:d.waves.length=0
  ·rw[hnw,if_pos h0]at hi
   omega
  ·rw[hnw,if_neg h0]at hi
   have h0':¬d.waves=[]:=λe=>h0 (Ydj.2 e);unfold LD.lenW;rw[if_neg h0',if_neg h0'];have:=Zrt h.waves (show i+1<d.waves.length by omega);obtain⟨u0,u1⟩:=this;show d.waveL (i+1)<d.waveL (i+1)+200*d.waves.getD (i+1) 0+1000;omega
 ·show 2<=d.srfs.length
  omega
 ·show d.srfs.length<=16
  omega
 ·show d.st+2<=d.srfs.length
  omega
 ·show(sAt d.srfs d.st).kind≠3
  obtain⟨s,hs,hk⟩:=hsr.2.2.2;unfold sAt;rw[Yac,hs];exact hk
 ·show(sAt d.srfs (d.srfs.length-1)).kind=1∧(sAt d.srfs (d.srfs.length-1)).glass = {data:=#[]}∧(sAt d.srfs (d.srfs.length-1)).thick=0∧(sAt d.srfs (d.srfs.length-1)).order=0∧(sAt d.srfs (d.srfs.length-1)).co=[]
  rw[hlast];exact⟨rfl,rfl,rfl,rfl,rfl⟩
 ·exact {most:=by show min d.configs.length 2<=4;omega,name:=λi _=>by show NameOk (if i=0 then nmNear else nmFar);split<;>exact⟨Zd,Zd,Zd⟩,diff:=λi k hki hi=>(by replace hi:i<min d.configs.length 2:=hi;show(if k=0 then nmNear else nmFar)≠(if i=0 then nmNear else nmFar);rw[if_pos Zo,if_neg Zo];decide),len:=λi _=>Yak (Zhd h (hx i)).1 Zd,chg:=λi _=>(Zhd h (hx i)).2.1,made:=λi _=>(Zhd h (hx i)).2.2}
end Go.Proofs.W
