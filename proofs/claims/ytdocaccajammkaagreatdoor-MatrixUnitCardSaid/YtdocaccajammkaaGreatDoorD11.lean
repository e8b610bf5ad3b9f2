/- The drafted optics of chapter 13: what it is and that it is valid. Part 11 of 18. No condition beside the row. -/
import Derived.Test.YtdocaccajammkaaGreatDoorD10
set_option linter.unusedVariables false
set_option linter.unusedSimpArgs false
set_option maxRecDepth 100000
set_option maxHeartbeats 4000000
namespace Go.Proofs.W
open Go.RowKit Go.Mono
theorem Zb5 {w:World} {base n m size c:Nat} {p:Option Addr} {e:TypeId} {vals:List Value} (h:w.ownsRow base e size (.slice p m c) n vals):∀b off,p=some ⟨b,off,none⟩->base<=b:=λb off hp=>by
 obtain⟨_,⟨h0,_⟩|⟨g,cap,cur,hv,hb,_⟩⟩:=h
 ·subst hp;cases h0
 ·subst hp;cases hv;exact hb
theorem Zsv:(Tryz.prog.info? 178).map (λi=>(i.zero,i.size,i.bytes))=some (some (.agg #[.int .i64 0,.int .i64 0]),2,16):=Zk
def wvA (z g:Int):Array Value:=#[.int .i64 z,.int .i64 g]
theorem Zok (z g:Int):∀u∈(wvA z g).toList,u.oneCell'=true:=λu hu=>by
 simp[wvA]at hu;rcases hu with rfl|rfl<;>rfl
def wvC (d:LD) (k:Nat):List Value:=(wvA (d.waveL (k+1)) (1+d.waves.getD k 0%5)).toList
theorem Zgo (d:LD) (h:∀z∈d.waves,U8 z):∀i,i<=d.waves.length->400000<=d.waveL i∧d.waveL i<=400000+52000*i
 | 0,_=>by simp[LD.waveL]
 | i + 1, hi => by
   have h1:=Zgo d h i Zo;have h2:=Zsu h (show i<d.waves.length by omega);obtain⟨h3,h4⟩:=h2;simp only[LD.waveL];omega
theorem Znb (A:Array Value) (hA:(Tryz.prog.info? 28).map (·.size)=some A.size) (d:LD) (hu:∀z∈d.waves,U8 z) (q:Option Addr) (c:Nat) (g:A[5]? = some (.slice q d.waves.length c)) (w:World) (h:BytesAt w q c d.waves) :
  Calls Tryz.prog 128 #[.agg A] w λe w'=>∃p' c',e=.returned (.slice p' d.nw c')∧RdC w' p' d.nw c' 2 (λi j=>if j=0 then .int .i64 (d.lenW i) else .int .i64 (d.wgtW i))∧(∀b off,p'=some ⟨b,off,none⟩->w.heap.size<=b)∧Below w.heap.size w w':=by
 have hin':=Zgo d hu;have huu:=λi (hi:i<d.waves.length)=>Zsu hu hi;obtain⟨hcap,hbig,hx⟩:=h;obtain⟨fi,hfi,hfz,hfs,hfb⟩:=Zbc Zsv;have htf:Tryz.prog.underlying 33=some (.slice 178):=Tryz.underlying33;have hnil0:d.waves=[]↔d.waves.length=0:=Ydj.symm;have hnw:d.nw=if d.waves.length=0 then 1 else min d.waves.length 5:=by unfold LD.nw;by_cases h0:d.waves=[]<;>simp[h0]
 have hL:∀i,d.waves.length≠0->d.lenW i=d.waveL (i+1):=λi h0=>by unfold LD.lenW;rw[if_neg λe=>h0 (hnil0.1 e)]
 have hG:∀i,d.waves.length≠0->d.wgtW i=1+d.waves.getD i 0%5:=λi h0=>by unfold LD.wgtW;rw[if_neg λe=>h0 (hnil0.1 e)]
 have hL0:∀i,d.waves.length=0->d.lenW i=550000:=λi h0=>by unfold LD.lenW;rw[if_pos (hnil0.2 h0)]
 have hG0:∀i,d.waves.length=0->d.wgtW i=1:=λi h0=>by unfold LD.wgtW;rw[if_pos (hnil0.2 h0)]
 clear hnil0;generalize hn:d.waves.length=n at *;replace hL:=Yah hL;replace hG:=Yah hG;replace hL0:=Yah hL0;replace hG0:=Yah hG0;replace hnw:=Yah hnw;go_enter Tryz.func128,Tryz.ntmps128
 go_wp2_with fail
 refine Zbs λW hB hsz bS=>?_;go_wp2
 go_loopw [3,4,5] (λv y x wr=>∃i:Nat,i<=min n 5∧x=.int .i64 (i:Int)∧y=.int .i64 (d.waveL i)∧Below W.heap.size W wr∧∃p' c',v=.slice p' i c'∧wr.ownsRow W.heap.size 178 2 (.slice p' i c') i (crow (wvC d) i)∧(p'=none->i=0∧c'=0)) (λ_ _ x _=>(min n 5-intOf x).toNat)
 case atStart=>exact⟨0,Yat _,rfl,rfl,Yae _ _,none,0,rfl,Yaj _ _ _ _,λ_=>⟨rfl,rfl⟩⟩
 case round=>
  obtain⟨i,hi,rfl,rfl,hBr,p',c',rfl,hown,hnil⟩:=hrel;have bSr:=bS.below hBr;have cS:=(bSr.cell 5).trans g;have lS:=bSr.lt;by_cases hin:i<n
  ·have hi':(i:Int)<n:=by omega
   by_cases hi5:i<5
   ·have hi5':(i:Int)<5:=by omega
    obtain⟨b,off,rfl,hb,hcell⟩:=hx Zo;have hBw:=Zaa hB hBr;have x0:wr.cell? ⟨b,off+i,none⟩=some (.int .u8 (d.waves.getD i 0)):=by simpa using(hBw.cell (p:=⟨b,off+i*1+0,none⟩) hb).trans (hcell i 0 hin Zd)
    obtain⟨u0,u1⟩:=huu i hin;have hbr:=Yaf hb hBw.size;have hwb:=hin' i Zo;have hws:d.waveL (i+1)=d.waveL i+200*d.waves.getD i 0+1000:=rfl;have hwc:wvC d i=(wvA (d.waveL i+200*d.waves.getD i 0+1000) (1+d.waves.getD i 0%5)).toList:=rfl;have hi6:i<=5:=Zo;replace hws:=Yah hws;clear hcell hx huu hin';generalize hz:d.waves.getD i 0=z at *;generalize hl:d.waveL i=l at *;have b7:Box (wr.alloc (.cells (wvA (l+200*z+1000) (1+z%5)) 178)) wr.heap.size 178 (wvA (l+200*z+1000) (1+z%5)):=Box.new _ _ _;have hB7:Below wr.heap.size wr (wr.alloc (.cells (wvA (l+200*z+1000) (1+z%5)) 178)):=(Yae _ _).alloc (Yab _) _;have hown7:=Zai hown hB7;have hB7':=Zaa hBr hB7;have hle7:=hB7'.size;go_wp2_with (refine Zam rfl (.tmp 27) (.tmp 38) (ts:=33) (te:=178) rfl htf hfi hfz hfs hfb rfl Zd rfl rfl hown7 (H:=λ_=>(wvA (l+200*z+1000) (1+z%5)).toList) (λ_=>rfl) (λ_ _=>Zok _ _) (Zbl b7 rfl) (λh=>by cases h) hle7 Zo Zo ?_;intro p8 c8 W8 hown8 hg8 hn8)
    have hB8:=Below.appended hown7 hg8 hB7' (Yab _);go_roundw
    case rel=>
     refine⟨i+1,Zo,Zs,by rw[hws.out],hB8,p8,c8,rfl,?_,hn8⟩;rw[<-Zat (C:=ccat (wvC d) i (λ_=>(wvA (l+200*z+1000) (1+z%5)).toList))]
     ·exact hown8
     ·intro k hk
      unfold ccat;by_cases hki:k<i
      ·rw[if_pos hki]
      ·obtain rfl:k=i:=by omega
       rw[if_neg hki,hwc]
    case measure=>simp[intOf];omega
   ·obtain rfl:i=5:=by omega
    have hn0:n≠0:=Zo;clear hx huu hin';go_wp2
    go_ret
    have hN:d.nw=5:=by rw[hnw.out,if_neg hn0];omega
    exact⟨p',c',by first|rfl|(rw[hN];rfl),by
     (try rw[hN])
     exact Za3 (λ_=>rfl) (λk j hk hj=>by
      rcases(by omega:j=0∨j=1) with rfl|rfl
      ·rw[if_pos rfl,hL.out k hn0];rfl
      ·rw[if_neg Zd,hG.out k hn0];rfl) hown Zo,λb off e=>Yak hB.size (Zb5 hown b off e),Zaa hB hBr⟩
  ·obtain rfl:i=n:=by omega
   clear hx huu hin';by_cases hn0:i=0
   ·subst hn0
    have hN:d.nw=1:=by rw[hnw.out,if_pos rfl]
    have hB7:Below wr.heap.size wr (wr.alloc (.cells (wvA 550000 1) 178)):=(Yae _ _).alloc (Yab _) _;have b7:Box (wr.alloc (.cells (wvA 550000 1) 178)) wr.heap.size 178 (wvA 550000 1):=Box.new _ _ _;have hown7:=Zai hown hB7;have hB7':=Zaa hBr hB7;have hle7:=hB7'.size;have hlen0:=hL0.out 0 rfl;have hw0:=hG0.out 0 rfl;go_wp2_with (refine Zam rfl (.tmp 43) (.tmp 45) (ts:=33) (te:=178) rfl htf hfi hfz hfs hfb rfl Zd rfl rfl hown7 (H:=λ_=>(wvA 550000 1).toList) (λ_=>rfl) (λ_ _=>Zok _ _) (Zbl b7 rfl) (λh=>by cases h) hle7 Zo Zo ?_;intro p8 c8 W8 hown8 hg8 hn8)
    go_ret
    have hB8:=Below.appended hown7 hg8 hB7' (Yab _);exact⟨p8,c8,by first|rfl|(rw[hN];rfl),by
     (try rw[hN])
     exact Za3 (C:=ccat (wvC d) 0 (λ_=>(wvA 550000 1).toList)) (λk=>by unfold ccat;rw[if_neg Zo];rfl) (λk j hk hj=>by
      obtain rfl:k=0:=Zo;rcases(by omega:j=0∨j=1) with rfl|rfl
      ·rw[if_pos rfl,hlen0];rfl
      ·rw[if_neg Zd,hw0];rfl) hown8 Zo,λb off e=>Yak hB.size (Zb5 hown8 b off e),Zaa hB hB8⟩
   ·have hn1:¬((i:Int)=0):=by omega
    go_wp2
    go_ret
    have hN:d.nw=i:=by rw[hnw.out,if_neg hn0];omega
    exact⟨p',c',by first|rfl|(rw[hN];rfl),by
     (try rw[hN])
     exact Za3 (λ_=>rfl) (λk j hk hj=>by
      rcases(by omega:j=0∨j=1) with rfl|rfl
      ·rw[if_pos rfl,hL.out k hn0];rfl
      ·rw[if_neg Zd,hG.out k hn0];rfl) hown Zo,λb off e=>Yak hB.size (Zb5 hown b off e),Zaa hB hBr⟩
end Go.Proofs.W
