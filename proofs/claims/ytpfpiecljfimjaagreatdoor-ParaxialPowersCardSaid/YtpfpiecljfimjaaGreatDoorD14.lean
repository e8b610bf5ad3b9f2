/- The drafted optics of chapter 13: what it is and that it is valid. Part 14 of 14. No condition beside the row. -/
import Derived.Test.YtpfpiecljfimjaaGreatDoorA16
import Derived.Test.YtpfpiecljfimjaaGreatDoorD01
import Derived.Test.YtpfpiecljfimjaaGreatDoorD09
import Derived.Test.YtpfpiecljfimjaaGreatDoorD10
import Derived.Test.YtpfpiecljfimjaaGreatDoorD13
set_option linter.unusedVariables false
set_option linter.unusedSimpArgs false
set_option maxRecDepth 100000
set_option maxHeartbeats 4000000
namespace Go.Mono
noncomputable def ixG (g:ByteArray) (z:Int):Int:=if g=nmBK7 then gIx (sq_bk7 (wQ z)) else if g=nmSF1 then gIx (sq_sf1 (wQ z)) else gIx (sq_f2 (wQ z))
theorem Zvr (g:ByteArray) {z:Int} (h0:400000<=z) (h1:z<=700000):10000000<=ixG g z∧ixG g z<=40000000:=by
 obtain⟨w0,w1⟩:=Zu7 h0 h1;unfold ixG;split
 ·exact Zsy (Zhm w0 w1).1 (Zhm w0 w1).2
 ·split
  ·exact Zsy (Zhn w0 w1).1 (Zhn w0 w1).2
  ·exact Zsy (Zjs w0 w1).1 (Zjs w0 w1).2
noncomputable def behI (l:List Srf) (L:Nat->Int) (i:Nat) (ah:Nat->Int) (j:Nat):Int:=
 if thrS l i=true then ah j else if(l.getD i (stdS 0)).glass=nmNone then 10000000 else ixG (l.getD i (stdS 0)).glass (L j)
def GlassD (g:ByteArray):Prop:=g=nmNone∨g=nmBK7∨g=nmSF1∨g=mirror∨g=nmF2
end Go.Mono
namespace Go.Proofs.W
open Go.RowKit Go.Mono
theorem Zs5 {g:ByteArray} (h:GlassD g) (h1:g≠nmNone) (h2:g≠mirror):∃(k:Nat) (G:Array Value),k<3∧G.size=10∧(∀j,j<10->catC[k*10+j]? = G[j]?)∧
  (∀(B c:Nat) (w:World),Box w B 153 catC->3<=c->Calls Tryz.prog 118 #[.slice (some ⟨B,0,none⟩) 3 c,.string g] w λe w'=>e=.returned (.tuple #[.int .i64 (k:Int),.int .i64 0])∧Below w.heap.size w w')∧
  ∀(z:Int) (w:World),400000<=z->z<=700000->Calls Tryz.prog 119 #[.agg G,.int .i64 z] w λe w'=>e=.returned (.tuple #[.int .i64 (ixG g z),.int .i64 0])∧Below w.heap.size w w':=by
 rcases h with rfl|rfl|rfl|rfl|rfl
 ·exact absurd rfl h1
 ·refine⟨0,glC nmBK7 2 1504600000 4200000 0 0 0 0 300000 2500000,Zd,rfl,λj hj=>?_,λB c w hB hc=>Zpv B c w hB hc,λz w z0 z1=>by rw[show ixG nmBK7 z=_ from if_pos rfl];exact Zs3 z0 z1 w⟩
  rcases(by omega:j=0∨j=1∨j=2∨j=3∨j=4∨j=5∨j=6∨j=7∨j=8∨j=9) with rfl|rfl|rfl|rfl|rfl|rfl|rfl|rfl|rfl|rfl<;>rfl
 ·refine⟨1,glC nmSF1 1 1559000000 12000000 285000000 56000000 0 0 300000 2500000,Zd,rfl,λj hj=>?_,λB c w hB hc=>Zpw B c w hB hc,λz w z0 z1=>by rw[show ixG nmSF1 z=_ from(if_neg Zd).trans (if_pos rfl)];exact Zs4 z0 z1 w⟩
  rcases(by omega:j=0∨j=1∨j=2∨j=3∨j=4∨j=5∨j=6∨j=7∨j=8∨j=9) with rfl|rfl|rfl|rfl|rfl|rfl|rfl|rfl|rfl|rfl<;>rfl
 ·exact absurd rfl h2
 ·refine⟨2,glC nmF2 3 2600000000 (-9000000) 22000000 0 0 0 300000 2500000,Zd,rfl,λj hj=>?_,λB c w hB hc=>Zsq B c w hB hc,λz w z0 z1=>by rw[show ixG nmF2 z=_ from(if_neg Zd).trans (if_neg Zd)];exact Zva z0 z1 w⟩
  rcases(by omega:j=0∨j=1∨j=2∨j=3∨j=4∨j=5∨j=6∨j=7∨j=8∨j=9) with rfl|rfl|rfl|rfl|rfl|rfl|rfl|rfl|rfl|rfl<;>rfl
theorem Zxd (w:World):(Instr.buildSlice 47 0 #[]).run Tryz.prog w=.ok (.slice (some ⟨w.heap.size,0,none⟩) 0 0) (w.alloc (.cells #[] 3)):=Zk
theorem Zih {w:World} {base:Nat} {p:Option Addr} {c n:Nat} {f g:Nat->Int} (h:IntsOwn w base p c n f) (e:∀i,i<n->f i=g i):IntsOwn w base p c n g:=
 ⟨Zas (C:=λi=>[Value.int .i64 (f i)]) (D:=λi=>[Value.int .i64 (g i)]) (λi hi=>by rw[e i hi])▸h.1,h.2⟩
theorem Zxe {s:ByteArray} (hg:¬s=nmNone):(s.toList==[])=false:=by
 refine beq_eq_false_iff_ne.2 λe=>hg ?_;have h:s.data.toList=[]:=by rw[<-e];simp[Ycs]
 cases s with
 | mk a =>
   simp only[nmNone,Ydw];apply Yfo;simpa using h
theorem Zmy (nm:ByteArray) (di pu st pr:Int) (pf:Option Addr) (nf cf:Nat) (pw:Option Addr) (nw cw:Nat) (pc:Option Addr) (nc cc:Nat) (l:List Srf) (hl:l.length<=16) (p:Option Addr) (c:Nat) (cp:Nat->Option Addr) (cl:Nat->Nat) (i:Nat) (hi:i<l.length) (hgl:GlassD (sAt l i).glass)
  (L G':Nat->Int) (hnw:1<=nw∧nw<=5) (hL:∀j,j<nw->400000<=L j∧L j<=700000) (B cB:Nat) (hcB:3<=cB) (pa:Option Addr) (ca:Nat) (ah:Nat->Int) {base:Nat} (w:World) (h:SrfsAt w p c l cp cl) (hw:RdC w pw nw cw 2 (λi j=>if j=0 then .int .i64 (L i) else .int .i64 (G' i))) (hB:Box w B 153 catC) (ha:IntsOwn w base pa ca nw ah) :
  Calls Tryz.prog 76 #[.agg (lcs nm di pu st pr pf nf cf pw nw cw p l.length c pc nc cc),.slice (some ⟨B,0,none⟩) 3 cB,.int .i64 (i:Int),.slice pa nw ca] w λe w'=>∃p' c',e=.returned (.tuple #[.slice p' nw c',.int .i64 0])∧IntsOwn w' w.heap.size p' c' nw (behI l L i ah)∧Below w.heap.size w w':=by
 have hzA:(Tryz.prog.info? 38).map (·.size)=some (lcs nm di pu st pr pf nf cf pw nw cw p l.length c pc nc cc).size:=Zk;have hzl:(Tryz.prog.info? 38).map (·.size)=some (lcs nm di pu st pr pf nf cf pw nw cw p l.length c pc nc cc).toList.length:=Zk;obtain⟨fi,hfi,hfz,hfs,hfb⟩:=Zbb Zn9;have htf:Tryz.prog.underlying 47=some (.slice 3):=Tryz.underlying47;have hthr:=λW (hW:Below w.heap.size w W)=>Zf0 nm di pu st pr pf nf cf pw nw cw pc nc cc l hl p c cp cl i hi W (h.below hW);have hair:=λW=>Zjp nw hnw.2 W;obtain⟨b,off,rfl,hb,hrg⟩:=h.range Zo;have hrgi:=hrg i hi;have g13:((sAt l i).cs (cp i) (cl i)).toList[13]? = some (.string (sAt l i).glass):=rfl;have hcap:=h.row.1;have hbeh:∀j,behI l L i ah j=if thrS l i=true then ah j else if(sAt l i).glass=nmNone then 10000000 else ixG (sAt l i).glass (L j):=λ_=>rfl
 have hmir:(sAt l i).glass=mirror->thrS l i=true:=λe=>decide_eq_true (.inl e);have haR:=λW (hW:Below w.heap.size w W)=>(ha.below hW).at Zo;have haN:=ha.2;have g6:(lcs nm di pu st pr pf nf cf pw nw cw (some ⟨b,off,none⟩) l.length c pc nc cc)[6]? = some (.slice pw nw cw):=rfl;have g7:(lcs nm di pu st pr pf nf cf pw nw cw (some ⟨b,off,none⟩) l.length c pc nc cc)[7]? = some (.slice (some ⟨b,off,none⟩) l.length c):=rfl;have hi':(i:Int)<l.length:=Zo;clear hrg h ha;replace hbeh:=Yah hbeh;replace hmir:=Yah hmir;generalize behI l L i ah=R at *;generalize hA:lcs nm di pu st pr pf nf cf pw nw cw (some ⟨b,off,none⟩) l.length c pc nc cc=A at *;generalize (sAt l i)=s at *;generalize thrS l i=T at *;generalize l.length=n at *;go_enter Tryz.func76,Tryz.ntmps76
 go_wp2_with first|(refine Zdl (T0:=38) λW hBW hsz bS=>?_)|(refine Zac rfl 38 (.tmp 4) rfl w.heap.size rfl 38 A bS _ Tryz.underlying38 rfl hzA ?_)
 refine(hthr W hBW).mono ?_;rintro e W1 ⟨rfl,hb1⟩;have hB1:=Zaa hBW hb1;replace bS:=bS.below hb1;have c6:=(bS.cell 6).trans g6;have c7:=(bS.cell 7).trans g7;have lS:=bS.lt;clear hthr hb1;cases T with
 | true =>
   go_wp2_with first|(refine Zaz (ps:=#[]) 47 0 #[] rfl rfl Zs Zxd ?_;intro W4 B4 hle4 hB4 b4;have hB4':=Zaa hB1 hB4;have hown4:W4.ownsRow W1.heap.size 3 1 (.slice (some ⟨B4,0,none⟩) 0 0) 0 (crow (λi=>[Value.int .i64 (ah i)]) 0):=Zcw b4 hle4 Zd (λ_=>rfl) rfl)|(refine Zao rfl (.tmp 19) (.tmp 20) (ts:=47) (te:=3) rfl htf hfi hfz hfs hfb rfl Zd rfl rfl hown4 (H:=λi=>[Value.int .i64 (ah i)]) (λ_=>rfl) (λ_ _=>Zmx _) (Ze9 (haR W4 hB4') λi j _ hj=>by(obtain rfl:j=0:=by omega);rfl) haN hB4.size Zo Zo ?_;intro p5 c5 W5 hown5 hg5 hn5)
   have hB5:=Below.appended hown4 hg5 hB4' hB1.size;rw[Yba,Zlg]at hown5;rw[Yba]at hn5;go_ret2
   exact⟨p5,c5,by rfl,Zih ⟨Zau hown5 hB1.size,hn5⟩ (λj hj=>by rw[hbeh.out];simp),hB5⟩
 | false =>
   have x13:W1.cell? ⟨b,off+i*22+13,none⟩=some (.string s.glass):=hrgi W1 hB1 13 _ g13;have hb1:=Yaf hb hB1.size;have hnm:¬s.glass=mirror:=λe=>by have:=hmir.out e;cases this
   clear hrgi haR;by_cases hg:s.glass=nmNone
   ·have x13':W1.cell? ⟨b,off+i*22+13,none⟩=some (.string {data:=#[]}):=by rw[x13,hg];rfl
    clear x13;go_wp2_with fail
    refine(hair W1).mono ?_;rintro e W2 ⟨p2,c2,rfl,hown2,hb2⟩;go_wp2
    go_ret2
    exact⟨p2,c2,rfl,Zih (hown2.low hB1.size) (λj hj=>by rw[hbeh.out,if_neg Zd,if_pos hg]),Zaa hB1 hb2⟩
   ·have hgn:=Zxe hg
    obtain⟨k,G,hk,hGz,hGc,hfind,hidx⟩:=Zs5 hgl hg hnm;have hbeh':∀j,R j=ixG s.glass (L j):=λj=>by rw[hbeh.out,if_neg Zd,if_neg hg]
    replace hbeh':=Yah hbeh';clear hbeh hmir hair;have bgl:=hB.below hB1;generalize hgx:s.glass=gx at *;go_wp2_with fail
    refine(hfind B cB W1 bgl hcB).mono ?_;rintro e W2 ⟨rfl,hb2⟩;have hB2:=Zaa hB1 hb2;have bS2:=bS.below hb2;have bg2:=bgl.below hb2;clear hfind bgl bS c6 c7 x13 lS hb2;go_wp2
    go_loopw [12,13] (λv x wr=>∃j:Nat,j<=nw∧x=.int .i64 (j:Int)∧Below W2.heap.size W2 wr∧∃p' c',v=.slice p' j c'∧IntsOwn wr W2.heap.size p' c' j R) (λ_ x _=>(nw-intOf x).toNat)
    case atStart=>exact⟨0,Yat _,rfl,Yae _ _,none,0,rfl,Yaj _ _ _ _,λ_=>⟨rfl,rfl⟩⟩
    case round=>
     obtain⟨j,hj,rfl,hBr,p',c',rfl,hown⟩:=hrel;have bSr:=bS2.below hBr;have bgr:=bg2.below hBr;have c6:=(bSr.cell 6).trans g6;have lS:=bSr.lt;have hBw:=Zaa hB2 hBr;by_cases hjn:j<nw
     ·have hjn':(j:Int)<nw:=by omega
      obtain⟨bw,ow,hpw,hbw,hcw⟩:=hw.2.2 Zo;rw[hpw]at c6;have y0:wr.cell? ⟨bw,ow+j*2,none⟩=some (.int .i64 (L j)):=by simpa using(hBw.cell (p:=⟨bw,ow+j*2+0,none⟩) hbw).trans (hcw j 0 hjn Zd)
      have hbwr:=Yaf hbw hBw.size;obtain⟨L0,L1⟩:=hL j hjn;have hRj:=hbeh'.out j;have hix:=λW=>hidx (L j) W L0 L1;have hcc:=hw.1;have hk3:(k:Int)<3:=Zo;clear hcw hidx hL hw;generalize ixG gx (L j)=rj at *;generalize L j=Lj at *;go_wp2_with fail
      have hS:∀w',Below wr.heap.size wr w'->w'.cell? ⟨w.heap.size,6,none⟩=some (.slice (some ⟨bw,ow,none⟩) nw cw)∧w'.cell? ⟨bw,ow+j*2,none⟩=some (.int .i64 Lj)∧Below wr.heap.size wr w':=λw' h=>⟨(h.cell (p:=⟨w.heap.size,6,none⟩) lS).trans c6,(h.cell (p:=⟨bw,ow+j*2,none⟩) hbwr).trans y0,h⟩
      have hrX:∀w',Below wr.heap.size wr w'->w'.rangeAt B (k*10) G.toList:=λw' h q v hv=>by
       have hq:q<10:=by
        have:=(Yan.1 hv).1;simpa[hGz]using this
       rw[(bgr.below h).cell,hGc q hq];rw[Yaq]at hv;exact hv
      refine wp_region_held_drew (S:=λw'=>w'.cell? ⟨w.heap.size,6,none⟩=some (.slice (some ⟨bw,ow,none⟩) nw cw)∧w'.cell? ⟨bw,ow+j*2,none⟩=some (.int .i64 Lj)∧Below wr.heap.size wr w') Zx (hS _ (Yae _ _).drew) (λhHeld=>?_);generalize hXd:wr.drew=X0 at *;refine tk 0 (some 54) ?_;refine tk 1 (some 55) ?_;refine tk 2 (some 56) ?_;refine tl 3 (some 57) rfl (.agg G) (Zai 153 _ rfl B (k*10) rfl G (λw' h=>hrX w' h.2.2) _ Tryz.underlying153 rfl (by rw[hGz];kernel_rfl)) ?_;refine tk 4 (some 58) ?_;refine tk 5 (some 59) ?_;refine tk 6 (some 60) ?_;refine tk 7 (some 61) ?_;refine tk 8 (some 62) ?_;refine tk 9 (some 63) ?_;refine Mono.stc 10 (some 64) (hix X0) (λe WX hR=>?_);obtain⟨rfl,hbX⟩:=hR;refine⟨(hS _ (Zaa hHeld.2.2 hbX)),λhHeld=>Mono.pt ?_⟩;refine tk 11 (some 53) ?_;refine tk 12 (some 65) ?_;refine tk 13 (some 66) ?_;refine tk 14 (some 14) ?_;refine tk 15 (some 15) ?_;refine wpAnyH_done Zx ?_ _;have hBX:=Zaa hBr hHeld.2.2;have b7:Box (WX.alloc (.cells #[.int .i64 rj] 3)) WX.heap.size 3 #[.int .i64 rj]:=Box.new _ _ _;have hB7:Below WX.heap.size WX (WX.alloc (.cells #[.int .i64 rj] 3)):=(Yae _ _).alloc (Yab _) _;have hown7:=(hown.below hHeld.2.2).below hB7;have hB7':=Zaa hBX hB7;have hle7:=hB7'.size;clear hS hrX;go_wp2_with (refine Zao rfl (.tmp 70) (.tmp 72) (ts:=47) (te:=3) rfl htf hfi hfz hfs hfb rfl Zd rfl rfl hown7.1 (H:=λ_=>[.int .i64 rj]) (λ_=>rfl) (λ_ _=>Zmx _) (Zb0 b7 rfl) (λh=>by cases h) hle7 Zo Zo ?_;intro p8 c8 W8 hown8 hg8 hn8)
      have hB8:=Below.appended hown7.1 hg8 hB7' (Yab _);go_roundw
      case rel=>
       refine⟨j+1,Zo,Zs,hB8,p8,c8,rfl,?_,hn8⟩;rw[<-Zas (C:=ccat (λq=>[.int .i64 (R q)]) j (λ_=>[.int .i64 rj]))]
       ·exact hown8
       ·intro q hq
        unfold ccat;by_cases hqj:q<j
        ·rw[if_pos hqj]
        ·obtain rfl:q=j:=by omega
         rw[if_neg hqj,hRj]
      case measure=>simp[intOf];omega
     ·obtain rfl:j=nw:=by omega
      go_wp2
      go_ret2
      exact⟨p',c',by rfl,hown.low hB2.size,hBw⟩
end Go.Proofs.W
namespace Go.Mono
noncomputable def ixS (l:List Srf) (L:Nat->Int):Nat->Nat->Int
 | 0=>behI l L 0 (λ_=>10000000)
 | i+1=>behI l L (i+1) (ixS l L i)
noncomputable def ahS (l:List Srf) (L:Nat->Int):Nat->Nat->Int
 | 0=>λ_=>10000000
 | i+1=>ixS l L i
theorem Zyc (l:List Srf) (L:Nat->Int):∀i,behI l L i (ahS l L i)=ixS l L i
 | 0=>rfl
 | i+1=>rfl
end Go.Mono
namespace Go.Proofs.W
open Go.RowKit Go.Mono
theorem Zs6:(Tryz.prog.info? 47).map (λi=>(i.zero,i.size,i.bytes))=some (some (.slice none 0 0),1,24):=Zk
theorem Zhp (w:World):(Instr.alloc 38 true (.tuple #[])).run Tryz.prog w=.ok (.pointer (some ⟨w.heap.size,0,none⟩)) (w.alloc (.cells (lcs {data:=#[]} 0 0 0 0 none 0 0 none 0 0 none 0 0 none 0 0) 38)):=by
 unfold lcs;go_simp
def ocs (nm:ByteArray) (di pu st pr:Int) (pf:Option Addr) (nf cf:Nat) (pw:Option Addr) (nw cw:Nat) (ps:Option Addr) (ns cs:Nat) (pi:Option Addr) (ni ci:Nat):Array Value:=
 #[.string nm,.int .i64 di,.int .i64 pu,.int .i64 st,.int .i64 pr,.slice pf nf cf,.slice pw nw cw,.slice ps ns cs,.slice none 0 0,.slice pi ni ci]
theorem Zdi (w:World):(Instr.alloc 41 true (.tuple #[])).run Tryz.prog w=.ok (.pointer (some ⟨w.heap.size,0,none⟩)) (w.alloc (.cells (ocs {data:=#[]} 0 0 0 0 none 0 0 none 0 0 none 0 0 none 0 0) 41)):=by
 unfold ocs;go_simp
theorem Zd1 (nm:ByteArray) (di pu st pr:Int) (pf:Option Addr) (nf cf:Nat) (pw:Option Addr) (nw cw:Nat) (ps:Option Addr) (ns cs:Nat) (pi:Option Addr) (ni ci:Nat):(ocs nm di pu st pr pf nf cf pw nw cw ps ns cs pi ni ci).all (·.oneCell')=true:=by
 simp[ocs,Value.oneCell']
theorem IntsOwn.keep {w w':World} {base:Nat} {p:Option Addr} {c n:Nat} {f:Nat->Int} {R:Nat} {T:TypeId} {A:Array Value} (h:IntsOwn w base p c n f) (b:Box w R T A) (hT:T≠3) (hk:KeepBut R w.heap.size w w'):IntsOwn w' base p c n f:=⟨Zax h.1 b hT hk,h.2⟩
theorem IntsOwn.appended {W W':World} {base base2:Nat} {e:TypeId} {size n m c:Nat} {v:Value} {p:Option Addr} {f:Nat->Int} {xs:List Value} (h:W.ownsRow base e size v n xs) (hg:W.grownBy W' v.ownBlock) (h2:IntsOwn W base2 p c m f) (hne:3≠e):IntsOwn W' base2 p c m f:=⟨Zbc h hg h2.1 hne,h2.2⟩
structure IdxOwn (w:World) (base:Nat) (p:Option Addr) (c n nw:Nat) (f:Nat->Nat->Int) (pI:Nat->Option Addr) (cI:Nat->Nat):Prop where
 row:w.ownsRow base 47 1 (.slice p n c) n (crow (λk=>[.slice (pI k) nw (cI k)]) n)
 nil:p=none->n=0∧c=0
 at_:∀k,k<n->IntsOwn w base (pI k) (cI k) nw (f k)
theorem IdxOwn.below {w w':World} {base:Nat} {p:Option Addr} {c n nw:Nat} {f:Nat->Nat->Int} {pI:Nat->Option Addr} {cI:Nat->Nat} (h:IdxOwn w base p c n nw f pI cI) (hB:Below w.heap.size w w'):IdxOwn w' base p c n nw f pI cI:=
 ⟨Zak h.row hB,h.nil,λk hk=>(h.at_ k hk).below hB⟩
theorem IdxOwn.keep {w w':World} {base:Nat} {p:Option Addr} {c n nw:Nat} {f:Nat->Nat->Int} {pI:Nat->Option Addr} {cI:Nat->Nat} {R:Nat} {T:TypeId} {A:Array Value} (h:IdxOwn w base p c n nw f pI cI) (b:Box w R T A) (hT:T≠47∧T≠3) (hk:KeepBut R w.heap.size w w'):IdxOwn w' base p c n nw f pI cI:=
 ⟨Zax h.row b hT.1 hk,h.nil,λk hi=>(h.at_ k hi).keep b hT.2 hk⟩
theorem Zs7 (p:Option Addr) (n c:Nat):∀u∈[Value.slice p n c],u.oneCell'=true:=λu hu=>by
 obtain rfl:=Ycd.1 hu;rfl
theorem Zs8 (a:Len) (ha:LenOk a) (q:LenP) (k:Int) (hk : -1<=k∧k<=(a.nc:Int)-1) (hgl:∀s∈a.l,GlassD s.glass) (hL:∀j,j<a.nw->400000<=a.L j∧a.L j<=700000) (B cB:Nat) (hcB:3<=cB) (w:World) (h:LenAt w a q) (hB:Box w B 153 catC) :
  Calls Tryz.prog 32 #[.agg (lenC a q),.slice (some ⟨B,0,none⟩) 3 cB,.int .i64 k] w λe w'=>Below w.heap.size w w'∧∃p c cp cl pi ci pI cI,e=.returned (.tuple #[.agg (ocs a.nm a.di a.pu (a.st:Int) a.pr q.pf a.nf q.cf q.pw a.nw q.cw p a.l.length c pi a.l.length ci),.int .i64 0])∧(SrfsOwn w' w.heap.size p c (a.app k) (a.app k).length cp cl∨(p=q.p∧c=q.c∧cp=q.cp∧cl=q.cl∧a.app k=a.l))∧KeptL a.l (a.app k)∧IdxOwn w' w.heap.size pi ci a.l.length a.nw (ixS (a.app k) a.L) pI cI:=by
 have q1:=λW (hW:Below w.heap.size w W)=>Zec a ha q W (h.below hW);have q2:=λW (hW:Below w.heap.size w W)=>Zpu B cB W (hB.below hW) hcB;have q3:=λW (hW:Below w.heap.size w W)=>Zpl a ha q k hk W (h.below hW);have q4:=λW=>Zjp a.nw ha.nw.2 W;have hz:(Tryz.prog.info? 38).map (·.size)=some (lenC a q).size:=Zk;have hzc:∀p n c,(Tryz.prog.info? 38).map (·.size)=some (appC a q p n c).size:=λp n c=>Zk;have hzo:∀p n c pi ni ci,(Tryz.prog.info? 41).map (·.size)=some (ocs a.nm a.di a.pu (a.st:Int) a.pr q.pf a.nf q.cf q.pw a.nw q.cw p n c pi ni ci).size:=λ_ _ _ _ _ _=>Zk;have hon:∀p n c,(appC a q p n c).all (·.oneCell')=true:=λp n c=>Zjk ..;have hlen16:=ha.ns.2;have hnw:=ha.nw;have hlcs:∀p n c,appC a q p n c=lcs a.nm a.di a.pu (a.st:Int) a.pr q.pf a.nf q.cf q.pw a.nw q.cw p n c none 0 0:=λ_ _ _=>rfl;obtain⟨fi,hfi,hfz,hfs,hfb⟩:=Zbb Zs6;have htf:Tryz.prog.underlying 39=some (.slice 47):=Tryz.underlying39;go_enter Tryz.func32,Tryz.ntmps32
 go_wp2_with first|(refine Zbm (T0:=38) λW hBW hsz b0 b1=>?_)|(refine Zac rfl 38 (.tmp 3) rfl w.heap.size rfl 38 (lenC a q) b0 _ Tryz.underlying38 rfl hz ?_)
 refine(q1 W hBW).mono ?_;rintro e W1 ⟨rfl,hb1⟩;have hB1:=Zaa hBW hb1;go_wp2_with fail
 refine(q2 W1 hB1).mono ?_;rintro e W2 ⟨rfl,hb2⟩;have hB2:=Zaa hB1 hb2;replace b0:=b0.below (Zaa hb1 hb2);replace b1:=b1.below (Zaa hb1 hb2);clear q1 q2 hb1 hb2 hB1 hBW;go_wp2_with (refine Zac rfl 38 (.tmp 3) rfl w.heap.size rfl 38 (lenC a q) b0 _ Tryz.underlying38 rfl hz ?_)
 refine(q3 W2 hB2).mono ?_;rintro e W3 ⟨hb3,p,c,cp,cl,rfl,hsrf,hkept,hSO⟩;have hB3:=Zaa hB2 hb3;have b13:=b1.below hb3;have hBc3:=hB.below hB3;have hl3:=h.below hB3;have hkl:=hkept.len;have hglk:∀i,i<a.l.length->GlassD (sAt (a.app k) i).glass:=λi hi=>by
  obtain⟨t,ht,_,h2,_⟩:=hkept.all i (sAt a.l i) (Zji hi);have:sAt (a.app k) i=t:=by unfold sAt;rw[Yac,ht];rfl
  rw[this,h2];exact hgl _ (Ych (Zji hi))
 clear q3 b0 b1 hb3;generalize hl'E:a.app k=l' at *;generalize hnsE:a.l.length=ns at *;rw[hkl];go_wp2_with first|(refine Zan rfl 38 rfl _ Zhp ?_;intro V4 B9 hle4 hB4 b4)|(refine Zab rfl 38 (.tmp 9) (.tmp 30) rfl B9 0 38 _ (appC a q p ns c) (appC a q p ns c) rfl rfl b4 (hzc _ _ _) (Yaa rfl) (hon _ _ _) rfl ?_;intro V5 hk5 b5;have hV5:=hk5.below hB4 hle4 hB4.size)|(refine Zac rfl 38 (.tmp 9) rfl B9 rfl 38 (appC a q p ns c) b5 _ Tryz.underlying38 rfl (hzc _ _ _) ?_)|(refine Zap rfl 41 _ rfl (ocs a.nm a.di a.pu (a.st:Int) a.pr q.pf a.nf q.cf q.pw a.nw q.cw p ns c none 0 0) Zx ?_)|(refine Zan rfl 41 rfl _ Zdi ?_;intro V6 B11 hle6 hB6 b6)|(refine Zab rfl 41 (.tmp 11) (.tmp 37) rfl B11 0 41 _ (ocs a.nm a.di a.pu (a.st:Int) a.pr q.pf a.nf q.cf q.pw a.nw q.cw p ns c none 0 0) (ocs a.nm a.di a.pu (a.st:Int) a.pr q.pf a.nf q.cf q.pw a.nw q.cw p ns c none 0 0) rfl rfl b6 (hzo _ _ _ _ _ _) (Yaa rfl) (Zd1 _ _ _ _ _ _ _ _ _ _ _ _ _ _ _ _ _) rfl ?_;intro V7 hk7 b7;have hV7:=hk7.below hB6 hle6 hB6.size;have b57:=b5.below hV7;have c6:World.cell? _ ⟨B9,6,none⟩=some (.slice q.pw a.nw q.cw):=b57.cell 6;have l6:=b57.lt)
 refine(q4 V7).mono ?_;rintro e W8 ⟨pa0,ca0,rfl,hah,hb8⟩;have hB58:=Zaa hV7 hb8;replace b7:=b7.below hb8;have hB3w5:=Zaa hB3 hV5;have hsz5:=hV7.size;have hl5:=hl3.below hV5;have hBc5:=hBc3.below hV5;have hs5:=hsrf.below hV5;clear q4 b57 c6 l6 hb8 hk5 hk7 b4 b6 hB4 hB6 hl3 hBc3 hsrf;go_wp2
 go_loopw [12,13] (λv x wr=>∃i:Nat,i<=ns∧x=.int .i64 (i:Int)∧Below V5.heap.size V5 wr∧∃pa ca pi ci pI cI,v=.slice pa a.nw ca∧IntsOwn wr V5.heap.size pa ca a.nw (ahS l' a.L i)∧Box wr B11 41 (ocs a.nm a.di a.pu (a.st:Int) a.pr q.pf a.nf q.cf q.pw a.nw q.cw p ns c pi i ci)∧IdxOwn wr V5.heap.size pi ci i a.nw (ixS l' a.L) pI cI) (λ_ x _=>(ns-intOf x).toNat)
 case atStart=>exact⟨0,Yat _,rfl,hB58,pa0,ca0,none,0,λ_=>none,λ_=>0,rfl,hah.low hsz5,b7,⟨Yaj _ _ _ _,λ_=>⟨rfl,rfl⟩,λk hk=>Zo⟩⟩
 case round=>
  clear b7 hah hB58;obtain⟨i,hi,rfl,hBr,pa,ca,pi,ci,pI,cI,rfl,hah,b11,hix⟩:=hrel;have b9r:=b5.below hBr;have c7:wr.cell? ⟨B9,7,none⟩=some (.slice p ns c):=b9r.cell 7;have l9:=b9r.lt;have l11:=b11.lt;by_cases hin:i<ns
  ·have hin':(i:Int)<ns:=by omega
   have q5:=Zmy a.nm a.di a.pu (a.st:Int) a.pr q.pf a.nf q.cf q.pw a.nw q.cw none 0 0 l' Zo p c cp cl i Zo (hglk i hin) a.L a.G hnw hL B cB hcB pa ca (ahS l' a.L i) wr (hs5.below hBr) (hl5.waves.below hBr) (hBc5.below hBr) hah;rw[hkl,Zyc]at q5;go_wp2_with (refine Zac rfl 38 (.tmp 9) rfl B9 rfl 38 (appC a q p ns c) b9r _ Tryz.underlying38 rfl (hzc _ _ _) ?_)
   refine q5.mono ?_;rintro e W9 ⟨p9,c9,rfl,hnx,hb9⟩;have hB9:=Zaa hBr hb9;have b119:=b11.below hb9;have c11:W9.cell? ⟨B11,9,none⟩=some (.slice pi i ci):=b119.cell 9;have l119:=b119.lt;have bs7:Box (W9.alloc (.cells #[.slice p9 a.nw c9] 47)) W9.heap.size 47 #[.slice p9 a.nw c9]:=Box.new _ _ _;have hBs7:Below W9.heap.size W9 (W9.alloc (.cells #[.slice p9 a.nw c9] 47)):=(Yae _ _).alloc (Yab _) _;have hix7:=(hix.below hb9).below hBs7;have hnx7:=hnx.below hBs7;have hBs7':=Zaa hB9 hBs7;have hle7:=hBs7'.size;have b117:=b119.below hBs7;clear q5 hix b11 b119 hah;go_wp2_with (refine Zao rfl (.tmp 62) (.tmp 64) (ts:=39) (te:=47) rfl htf hfi hfz hfs hfb rfl Zd rfl rfl hix7.row (H:=λ_=>[.slice p9 a.nw c9]) (λ_=>rfl) (λ_ _=>Zs7 _ _ _) (Zb0 bs7 rfl) (λh=>by cases h) hle7 Zo Zo ?_;intro p8 c8 W8' hown8 hg8 hn8;have b11z:=b117.appended hix7.row hg8 (Zd);have cz:(W8'.cell? ⟨B11,9,none⟩)=some (.slice pi i ci):=b11z.cell 9;have fz:=b11z.frozen 9;have lz:=b11z.lt)
   have hB8:=Below.appended hix7.row hg8 hBs7' (Yab _);have hnx8:=IntsOwn.appended hix7.row hg8 hnx7 Zd;have hkz:=(KeepBut.refl B11 W8').set 9 (.slice p8 (i+1) c8);have b11f:Box (W8'.setCell ⟨B11,9,none⟩ (.slice p8 (i+1) c8)) B11 41 (ocs a.nm a.di a.pu (a.st:Int) a.pr q.pf a.nf q.cf q.pw a.nw q.cw p ns c p8 (i+1) c8):=b11z.set 9 _;have hBf:=hkz.below hB8 Zo hB8.size;have hwr:=hBr.size;have hnxf:=(hnx8.low hwr).keep b11z Zd hkz;go_roundw
   case rel=>
    refine⟨i+1,Zo,Zs,hBf,p9,c9,p8,c8,λj=>if j=i then p9 else pI j,λj=>if j=i then c9 else cI j,rfl,hnxf,b11f,⟨?_,hn8,λj hj=>?_⟩⟩
    ·rw[<-Zas (C:=ccat (λj=>[.slice (pI j) a.nw (cI j)]) i (λ_=>[.slice p9 a.nw c9]))]
     ·exact Zax hown8 b11z Zd hkz
     ·intro j hj
      unfold ccat;by_cases hji:j<i
      ·have hne:j≠i:=by omega
       dsimp only;rw[if_pos hji,if_neg hne,if_neg hne]
      ·obtain rfl:j=i:=by omega
       dsimp only;rw[if_neg hji,if_pos rfl,if_pos rfl]
    ·by_cases hji:j=i
     ·subst hji
      rw[if_pos rfl,if_pos rfl];exact hnxf
     ·rw[if_neg hji,if_neg hji]
      exact(IntsOwn.appended hix7.row hg8 (hix7.at_ j Zo) Zd).keep b11z Zd hkz
   case measure=>simp[intOf];omega
  ·obtain rfl:i=ns:=by omega
   have hBw3:=Zaa hV5 hBr;have b1r:=b13.below hBw3;have hBww:=Zaa hB3 hBw3;go_wp2_with first|(refine Zac rfl 41 (.tmp 11) rfl B11 rfl 41 (ocs a.nm a.di a.pu (a.st:Int) a.pr q.pf a.nf q.cf q.pw a.nw q.cw p i c pi i ci) b11 _ Tryz.underlying41 rfl (hzo _ _ _ _ _ _) ?_)|(refine Zab rfl 41 (.tmp 6) _ rfl (w.heap.size+1) 0 41 _ (ocs a.nm a.di a.pu (a.st:Int) a.pr q.pf a.nf q.cf q.pw a.nw q.cw p i c pi i ci) (ocs a.nm a.di a.pu (a.st:Int) a.pr q.pf a.nf q.cf q.pw a.nw q.cw p i c pi i ci) rfl rfl b1r (hzo _ _ _ _ _ _) (Yaa rfl) (Zd1 _ _ _ _ _ _ _ _ _ _ _ _ _ _ _ _ _) rfl ?_;intro WE hkE bE)
   have hSE:SrfsOwn WE w.heap.size p c l' l'.length cp cl∨(p=q.p∧c=q.c∧cp=q.cp∧cl=q.cl∧l'=a.l):=hSO.imp (λh=>((h.below hBw3).keep b1r Zd hkE).low hB2.size) id;refine bodyPost_ret (bE.resultsT rfl _ _ rfl Tryz.underlying41 rfl (hzo _ _ _ _ _ _)) rfl ?_;have hBE:=hkE.below hBww Zo hBww.size;have hixE:=hix.keep b1r Zd hkE;refine⟨hBE,p,c,cp,cl,pi,ci,pI,cI,by rw[hnsE];rfl,by rw[hl'E];exact hSE,by rw[hl'E];exact hkept,?_⟩;rw[hl'E,hnsE];exact⟨Zau hixE.row hB3w5.size,hixE.nil,λj hj=>(hixE.at_ j hj).low hB3w5.size⟩
end Go.Proofs.W
namespace Go.Mono
section
open Go.Proofs.W
noncomputable def LD.lns (d:LD) (k:Int):Lns where
 nm:=nmDraft
 di:=d.farM
 pu:=100000*(1+d.pupil)
 st:=d.st
 pr:=d.primary%(d.nw:Int)
 nf:=(d.fieldsM (min d.fields.length 4)).length
 X:=λi=>((d.fieldsM (min d.fields.length 4)).getD i (0,0)).1
 Y:=λi=>((d.fieldsM (min d.fields.length 4)).getD i (0,0)).2
 nw:=d.nw
 L:=d.lenW
 W:=d.wgtW
 ns:=d.srfs.length
 S:=λi=>sAt (d.len.app k) i
 ix:=ixS (d.len.app k) d.lenW
theorem LD.lenW_in {d:LD} (h:d.ok):∀j,j<d.nw->400000<=d.lenW j∧d.lenW j<=700000:=λi hi=>by
 have hwl:=Zgk d h.waves;have hnw:d.nw=if d.waves.length=0 then 1 else min d.waves.length 5:=by unfold LD.nw;by_cases h0:d.waves=[]<;>simp[h0]
 unfold LD.lenW;split
 ·decide
 ·rename_i h0
  have h0':d.waves.length≠0:=λe=>h0 (Ydj.1 e);rw[hnw,if_neg h0']at hi;have:=hwl (i+1) Zo;omega
theorem Zvs (l:List Srf) (L:Nat->Int) (j:Nat) (h:400000<=L j∧L j<=700000):∀i,10000000<=ixS l L i j∧ixS l L i j<=40000000
 | 0 => by
   unfold ixS behI;split
   ·exact⟨(by decide:(10000000:Int)<=10000000),(by decide:(10000000:Int)<=40000000)⟩
   ·split
    ·exact⟨Zd,Zd⟩
    ·exact Zvr _ h.1 h.2
 | i + 1 => by
   unfold ixS behI;split
   ·exact Zvs l L j h i
   ·split
    ·exact⟨Zd,Zd⟩
    ·exact Zvr _ h.1 h.2
theorem Zs9 (n:Int):GlassD (dGlass n):=by
 unfold dGlass;split
 ·exact .inl rfl
 ·split
  ·exact .inr (.inl rfl)
  ·split
   ·exact .inr (.inr (.inl rfl))
   ·split
    ·exact .inr (.inr (.inr (.inl rfl)))
    ·exact .inr (.inr (.inr (.inr rfl)))
theorem SD.srf_glass (d:SD):GlassD d.srf.glass:=by
 have hb:=Zs9 d.glass;unfold SD.srf;split
 ·exact hb
 ·split
  ·exact hb
  ·split
   ·exact .inl rfl
   ·split
    ·split
     ·exact .inl rfl
     ·split
      ·exact hb
      ·exact hb
    ·exact hb
theorem LD.glassD {d:LD} (h:d.ok):∀s∈d.srfs,GlassD s.glass:=by
 have hstd:∀t,GlassD (stdS t).glass:=λt=>.inl rfl;have hraw:∀s∈d.raw,GlassD s.glass:=λs hs=>by
  unfold LD.raw at hs;split at hs
  ·rw[Ycd.1 hs];exact hstd _
  ·obtain⟨x,hx,rfl⟩:=Ydl.1 hs
   exact SD.srf_glass x
 intro s hs;unfold LD.srfs at hs;rcases Ycn.1 hs with hs|hs
 ·unfold LD.front at hs
  split at hs
  ·rcases Ygf hs with hs|rfl
   ·exact hraw s hs
   ·exact hstd _
  ·exact hraw s hs
 ·rw[Ycd.1 hs];exact .inl rfl
theorem LD.lns_opt {d:LD} (h:d.ok) {k:Int} (hk:KeptL d.srfs (d.len.app k)):(d.lns k).opt:=by
 have ho:=Zle h;have hr:=LD.raw_ok h;have hs:=LD.srfs_ok h;have hlen:=hk.len;have hget:∀i,i<d.srfs.length->(sAt (d.len.app k) i).kind=(sAt d.srfs i).kind∧(sAt (d.len.app k) i).glass=(sAt d.srfs i).glass∧(sAt (d.len.app k) i).order=(sAt d.srfs i).order∧(sAt (d.len.app k) i).co=(sAt d.srfs i).co∧(i+1=d.srfs.length->(sAt (d.len.app k) i).thick=(sAt d.srfs i).thick):=λi hi=>by
  obtain⟨t,ht,h1⟩:=hk.all i _ (Zji hi);have:sAt (d.len.app k) i=t:=by unfold sAt;rw[Yac,ht];rfl
  rw[this];exact h1
 have hsok:∀i,i<d.srfs.length->(sAt (d.len.app k) i).ok:=λi hi=>Zig hk.ok Zo;have hstn:((d.lns k).st).toNat=d.st:=by show((d.st:Int)).toNat=d.st;omega
 have hst2:=ho.st;have hL:=LD.lenW_in h;have hthr:∀i,i<d.srfs.length->(thrS (d.len.app k) i=true↔(d.lns k).through i):=λi hi=>by
  unfold thrS Lns.through;rw[decide_eq_true_iff,hlen];exact Iff.rfl
 refine {base:={name:=ho.name,di:=ho.di,pu:=ho.pu,nf:=ho.nf,fr:=ho.fr,fd:=ho.fd,nw:=ho.nw,pr:=ho.pr,wl:=ho.wl,wm:=ho.ws,ww:=ho.wg,ns:=ho.ns,st:=⟨?_,?_⟩,sok:=hsok,image:=?_,stop:=?_},ir:=λi j hi hj=>Zvs _ _ j (hL j hj) i,it:=λi j hi ht hj=>?_,ia:=λi j hi ht hg hj=>?_}
 ·show 0<=((d.st:Nat):Int);omega
 ·show((d.st:Nat):Int)<=((d.srfs.length:Nat):Int)-2
  have:d.st+2<=d.srfs.length:=hst2;omega
 ·have hi:=ho.image
  have hl:d.srfs.length-1<d.srfs.length:=Zo;obtain⟨a1,a2,a3,a4,a5⟩:=hget (d.srfs.length-1) hl;obtain⟨b1,b2,b3,b4,b5⟩:=hi;exact⟨a1.trans b1,a2.trans b2,(a5 Zo).trans b3,a3.trans b4,a4.trans b5⟩
 ·rw[hstn]
  have:d.st+2<=d.srfs.length:=hst2;show(sAt (d.len.app k) d.st).kind≠3;rw[(hget d.st Zo).1];exact ho.stop
 ·have ht':=(hthr i hi).2 ht
  show ixS (d.len.app k) d.lenW i j=(d.lns k).ahead i j;match i with
  | 0 =>
    unfold ixS behI Lns.ahead;rw[if_pos ht',if_pos rfl]
  | i + 1 =>
    unfold ixS behI Lns.ahead;rw[if_pos ht',if_neg Zo];rfl
 ·have ht':¬thrS (d.len.app k) i=true:=λe=>ht ((hthr i hi).1 e)
  show ixS (d.len.app k) d.lenW i j=10000000;have hg':((d.len.app k).getD i (stdS 0)).glass=nmNone:=hg;match i with
  | 0=>unfold ixS behI;rw[if_neg ht',if_pos hg']
  | i+1=>unfold ixS behI;rw[if_neg ht',if_pos hg']
end
theorem Len.app_kept {a:Len} (ha:Go.Proofs.W.LenOk a) {k:Int} (h : -1<=k∧k<=(a.nc:Int)-1):KeptL a.l (a.app k):=by
 unfold Len.app;by_cases h0:k<0
 ·rw[if_pos h0]
  exact KeptL.refl ha.sok
 ·rw[if_neg h0]
  have hk:k.toNat<a.nc:=Zo;obtain⟨m,hm⟩:=Ygb.1 (ha.confs.made _ hk);rw[hm];exact Zif ha.sok (λi hi=>(ha.confs.chg _ hk i hi).2) hm
def LD.kc (d:LD) (k:Int):Int:=k%((min d.configs.length 2:Nat)+1:Int)-1
theorem LD.kc_in (d:LD) (k:Int) : -1<=d.kc k∧d.kc k<=((min d.configs.length 2:Nat):Int)-1:=by
 unfold LD.kc;have h1:=Ycc k (show(((min d.configs.length 2:Nat):Int)+1)≠0 by omega);have h2:=Ybu k (show(0:Int)<((min d.configs.length 2:Nat):Int)+1 by omega);omega
end Go.Mono
namespace Go.Proofs.W
open Go.RowKit Go.Mono
theorem Zta {d:LD} (h:d.ok) (k:Int):(d.lns (d.kc k)).opt:=LD.lns_opt h (Len.app_kept (Zle h) (d.kc_in k))
def plcD (q:LenP) (p:Option Addr) (c:Nat) (cp:Nat->Option Addr) (cl:Nat->Nat) (pi:Option Addr) (ci:Nat) (pI:Nat->Option Addr) (cI:Nat->Nat):Plc:=
 {pf:=q.pf,cf:=q.cf,pw:=q.pw,cw:=q.cw,ps:=p,cs:=c,pc:=none,cc:=0,cp:=cp,cl:=cl,pi:=pi,ci:=ci,pI:=pI,cI:=cI}
theorem Ztb {d:LD} (h:d.ok) {k:Int} {q:LenP} {w:World} {base:Nat} {p:Option Addr} {c:Nat} {cp:Nat->Option Addr} {cl:Nat->Nat} {pi:Option Addr} {ci:Nat} {pI:Nat->Option Addr} {cI:Nat->Nat} (hkept:KeptL d.srfs (d.len.app k)) (hlf:RdC w q.pf d.len.nf q.cf 2 (λi j=>if j=0 then .int .i64 (d.len.X i) else .int .i64 (d.len.Y i))) (hlw:RdC w q.pw d.len.nw q.cw 2 (λi j=>if j=0 then .int .i64 (d.len.L i) else .int .i64 (d.len.G i))) (hs:SrfsAt w p c (d.len.app k) cp cl) (hi:IdxOwn w base pi ci d.srfs.length d.nw (ixS (d.len.app k) d.lenW) pI cI):OptAt w (d.lns k) (plcD q p c cp cl pi ci pI cI) where
 fields:=hlf
 waves:=hlw
 surfs:=by
  have:=hs.row;rw[hkept.len]at this;exact this
 coat:=λi hi=>hs.coat i (by rw[hkept.len];exact hi)
 index:=Zay (C:=λk=>[.slice (pI k) d.nw (cI k)]) (λ_=>rfl) (λi j hi hj=>by(obtain rfl:j=0:=by omega);rfl) hi.row (show d.srfs.length<=1000 by have:=(LD.srfs_ok h).2.1;have:=(LD.raw_ok h).2.2;omega)
 row:=λi hin=>by
  have:=(hi.at_ i hin).at (by have:=(Zle h).nw.2;exact Yak this Zd);exact⟨this.1,this.2.1,λhn=>by
   obtain⟨b,off,hp,hb,hc⟩:=this.2.2 hn;exact⟨b,off,hp,hb,λj hj=>by have:=hc j 0 hj (Zd);rw[Yfk,Yce]at this;exact this⟩⟩
def SrfT (T:TypeId):Prop:=(T≠115∧T≠222)∧T≠47∧T≠3
def SrfsNil (a:Lns) (q:Plc):Prop:=∀i,i<a.ns->q.cp i=none->(a.S i).co.length=0∧q.cl i=0
theorem Zjv (d:LD) (hd:d.ok) (q:LDP) (k:Int) (hk:U8 k) (w:World) (hl:LDAt w d q) :
  Calls Tryz.prog 8 #[.agg ((ldC d q).push (.int .u8 k))] w λe w'=>∃q',e=.returned (.agg ((d.lns (d.kc k)).ovals q'))∧OptAt w' (d.lns (d.kc k)) q'∧Below w.heap.size w w'∧SrfsNil (d.lns (d.kc k)) q'∧∀R T A,Box w' R T A->R<w.heap.size->SrfT T->∀w2,KeepBut R w'.heap.size w' w2->OptAt w2 (d.lns (d.kc k)) q':=by
 have q1:=λW (hW:Below w.heap.size w W)=>Zpt d hd q W (hl.below hW);have hkin:=d.kc_in k;have hkc:d.kc k=k%((min d.configs.length 2:Nat)+1:Int)-1:=rfl;obtain⟨k0,k1⟩:=hk;have hkept:=Len.app_kept (Zle hd) hkin;have hLin:=LD.lenW_in hd;have hgl:=LD.glassD hd;have hlok:=Zle hd;have hz:∀q',(Tryz.prog.info? 38).map (·.size)=some (lenC d.len q').size:=λ_=>Zk;have hzo:∀a q,(Tryz.prog.info? 41).map (·.size)=some (Lns.ovals a q).size:=λ_ _=>Zk;have hzd:(Tryz.prog.info? 28).map (·.size)=some (ldC d q).toList.length:=Zk;have h9:((ldC d q).push (.int .u8 k))[9]? = some (.int .u8 k):=rfl;have hrg0:∀j v,(ldC d q).toList[j]? = some v->((ldC d q).push (.int .u8 k))[0+j]? = some v:=λj v hv=>by
  rw[Yba,Yaq]at *;have hj:=(Yeq.1 hv).1;rw[Array.getElem?_push_lt hj];exact hv▸(Yby hj).symm
 have hLc:∀q',(lenC d.len q').all (·.oneCell')=true:=λq'=>Zjk ..;have hL8:∀q',(lenC d.len q')[8]? = some (.slice q'.pc (min d.configs.length 2) q'.cc):=λ_=>rfl;generalize hA0:ldC d q=A0 at *;generalize hA:A0.push (.int .u8 k)=A at *;go_enter Tryz.func8,Tryz.ntmps8
 go_wp2_with first|(refine Zbm (T0:=30) λW hB hsz b1 b2=>?_;have hrg:W.rangeAt w.heap.size 0 A0.toList:=λj v hv=>(b1.cell _).trans (hrg0 j v hv))|(refine wpList_load_mid rfl 28 (.tmp 6) rfl w.heap.size 0 rfl A0.toList _ hrg Tryz.underlying28 rfl hzd ?_)
 refine(q1 W hB).mono ?_;rintro e W1 ⟨q2,rfl,hl2,hqf,hqw,hso2,hb1⟩;have hB1:=Zaa hB hb1;replace b1:=b1.below hb1;replace b2:=b2.below hb1;clear q1 hb1 hrg hrg0 hB;go_wp2_with first|(refine Zan rfl 38 rfl _ Zhp ?_;intro V4 B3 hle4 hB4 b4)|(refine Zab rfl 38 (.tmp 3) (.tmp 8) rfl B3 0 38 _ (lenC d.len q2) (lenC d.len q2) rfl rfl b4 (hz _) (Yaa rfl) (hLc _) rfl ?_;intro V5 hk5 b5;have hV5:=hk5.below hB4 hle4 hB4.size)
 have hB5:=Zaa hB1 hV5;replace b1:=b1.below hV5;replace b2:=b2.below hV5;have hl5:=hl2.below hV5;have c9:V5.cell? ⟨w.heap.size,9,none⟩=some (.int .u8 k):=(b1.cell 9).trans h9;have c8:V5.cell? ⟨B3,8,none⟩=some (.slice q2.pc (min d.configs.length 2) q2.cc):=(b5.cell 8).trans (hL8 _);have l1:=b1.lt;have l5:=b5.lt;have hnc:min d.configs.length 2<=2:=Nat.min_le_right _ _;generalize hncE:min d.configs.length 2=nc at *;have hw0:IntKind.i64.wrap k=k:=Zfa Zo Zo;have hw1:IntKind.i64.wrap ((nc:Int)+1)=(nc:Int)+1:=Zfa Zo Zo;have ht0:k.tmod ((nc:Int)+1)=k%((nc:Int)+1):=Ybr k0;have hmod:=Ybu k (show(0:Int)<(nc:Int)+1 by omega);have hmod0:=Ycc k (show((nc:Int)+1)≠0 by omega);have hw2:IntKind.i64.wrap (k%((nc:Int)+1))=k%((nc:Int)+1):=Zfa Zo Zo;have hw3:IntKind.i64.wrap (k%((nc:Int)+1)-1)=k%((nc:Int)+1)-1:=Zfa Zo Zo;have hn0:(nc:Int)+1≠0:=Zo;have hS:∀w',Below V5.heap.size V5 w'->w'.cell? ⟨w.heap.size,9,none⟩=some (.int .u8 k)∧w'.cell? ⟨B3,8,none⟩=some (.slice q2.pc nc q2.cc)∧Below V5.heap.size V5 w':=λw' h=>⟨(h.cell (p:=⟨w.heap.size,9,none⟩) l1).trans c9,(h.cell (p:=⟨B3,8,none⟩) l5).trans c8,h⟩
 refine wp_region_held_drew (S:=λw'=>w'.cell? ⟨w.heap.size,9,none⟩=some (.int .u8 k)∧w'.cell? ⟨B3,8,none⟩=some (.slice q2.pc nc q2.cc)∧Below V5.heap.size V5 w') Zx (hS _ (Yae _ _).drew) (λhHeld=>?_);have hB0:Below V5.heap.size V5 V5.drew:=(Yae _ _).drew;generalize hXd:V5.drew=X0 at *;refine tl 0 (some 10) rfl (.agg (lenC d.len q2)) (Zai 38 _ rfl B3 0 rfl (lenC d.len q2) (λw' h=>(b5.below h.2.2).range) _ Tryz.underlying38 rfl (hz _)) ?_;refine tk 2 (some 12) ?_;refine tk 3 (some 13) ?_;refine tk 4 (some 14) ?_;refine tk 5 (some 15) ?_;refine tk 6 (some 16) ?_;refine tk 7 (some 17) ?_;refine tk 8 (some 18) ?_;refine tk 9 (some 19) ?_;refine tk 10 (some 20) ?_;have hkcE:k%((nc:Int)+1)-1=d.kc k:=by rw[hkc]
 rw[hkcE];have hkin' : -1<=d.kc k∧d.kc k<=((d.len.nc:Nat):Int)-1:=by
  have e:d.len.nc=nc:=hncE;rw[e];exact hkin
 have hXs:=hB0.size;generalize hkcL:d.kc k=kc at *;refine Mono.Fl.open [⟨15,4,41,_⟩] (.cons (.of Zdi) .nil) (λhfa=>?_);refine Mono.Fl.call 1 11 (λwc hV=>Zlj wc) ?_ (hN:=Yab _) (hSt:=λw w' h k=>hS _ (Zaa h.2.2 k));intro wc hV hHeld2 e W2 hR;obtain⟨BG,rfl,bG,hb2⟩:=hR;have hB2:=Zaa hV hb2;refine⟨hb2,Mono.Fl.pt ?_⟩;refine Mono.Fl.call 11 21 (λwd hV2=>Zs8 d.len hlok q2 kc hkin' hgl hLin BG 3 (Yab _) wd (((hl5.below hB0).below hB2).below hV2) (bG.below hV2)) ?_ (hN:=hB2.size) (hSt:=λw w' h k=>hS _ (Zaa h.2.2 k));intro wd hV2 hHeld3 e W3 hR;obtain⟨hb3,p,c,cp,cl,pi,ci,pI,cI,rfl,hsr,hkp,hix⟩:=hR;have hB3:=Zaa (Zaa hB2 hV2) hb3;refine⟨hb3,Mono.Fl.pt ?_⟩;refine Mono.Fl.take 12 9 ?_ (hv:=λ_ _=>rfl);refine Mono.Fl.take 13 22 (v:=.agg ((d.lns kc).ovals (plcD q2 p c cp cl pi ci pI cI))) ?_ (hv:=λ_ _=>rfl);refine Mono.Fl.take 14 23 ?_ (hv:=λ_ _=>rfl);refine Mono.Fl.close1 (λB4 W4 hV4 hHeld4 hg4 b4=>?_) (hN:=hB3.size) (hSt:=λw w' h k=>hS _ (Zaa h.2.2 k));have hB4:=Zaa hB3 hV4;have hg4':V5.heap.size<=B4:=Yak hXs hg4;refine Mono.sto 16 41 _ _ B4 0 41 _ ((d.lns kc).ovals (plcD q2 p c cp cl pi ci pI cI)) ((d.lns kc).ovals (plcD q2 p c cp cl pi ci pI cI)) rfl rfl rfl rfl b4 (hzo _ _) (Yaa rfl) (Zd1 _ _ _ _ _ _ _ _ _ _ _ _ _ _ _ _ _) rfl (λW5 hk6 b6=>⟨hS _ (hk6.below (Zaa hB0 hB4) hg4' (Zaa hB0 hB4).size),?_⟩);have hHeld5:=hS _ (hk6.below (Zaa hB0 hB4) hg4' (Zaa hB0 hB4).size);refine tk 17 (some 5) (v:=.int .i64 0) ?_ (hv:=λ_ _=>rfl);refine wpAnyH_done Zx ?_ _;have hB05:Below V5.heap.size V5 W5:=hHeld5.2.2;have hBw5:=Zaa hB5 hB05;have b25:=b2.below hB05;have hwV:w.heap.size+1<V5.heap.size:=b2.lt;have hW1V:w.heap.size+1<W.heap.size:=Zo;have hix5:=(hix.below hV4).keep b4 Zd hk6;have hso5:=(hso2.below hV5).below hB05;have hl55:=hl5.below hB05;have hzo':=hzo (d.lns kc) (plcD q2 p c cp cl pi ci pI cI);have hon:((d.lns kc).ovals (plcD q2 p c cp cl pi ci pI cI)).all (·.oneCell')=true:=Zd1 _ _ _ _ _ _ _ _ _ _ _ _ _ _ _ _ _;have hsz10:((d.lns kc).ovals (plcD q2 p c cp cl pi ci pI cI)).size=10:=rfl;clear hS hw0 hw1 hw2 hw3 ht0 hmod hmod0 hn0 hHeld hHeld2 hHeld3 hHeld4 hHeld5 c8 c9 hzd h9 hLc hL8 hzo hz;replace hkcE:=Yah hkcE;clear hkc;generalize hOV:((d.lns kc).ovals (plcD q2 p c cp cl pi ci pI cI))=OA at *;go_wp2_with first|(refine Zac rfl 41 (.tmp 4) rfl B4 Zx 41 OA b6 _ Tryz.underlying41 rfl hzo' ?_)|(refine Zab rfl 41 (.tmp 2) _ rfl (w.heap.size+1) 0 41 _ OA OA rfl rfl b25 hzo' (by rw[hsz10];exact Yaa rfl) hon (Zaf (by rw[hsz10];rfl)) ?_;intro WE hkE bE)
 refine bodyPost_ret (bE.results rfl _ _ rfl Tryz.underlying41 rfl hzo') rfl ?_;have hBE:=hkE.below hBw5 Zo hBw5.size;have hsE:SrfsAt WE p c (d.len.app kc) cp cl:=by
  rcases hsr with hsr|⟨rfl,rfl,rfl,rfl,e⟩
  ·exact(((hsr.below hV4).keep b4 Zd hk6).keep b25 Zd hkE).at (by have:=hkp.len;have:=hlok.ns.2;omega) hkp.ok
  ·rw[e]
   exact(hso5.keep b25 Zd hkE).at (by have:=hlok.ns.2;exact Yak this Zd) hlok.sok
 have hfE:=hl55.fields.keepN (R:=w.heap.size+1) (λb off e=>by have:=hqf b off e;omega) hkE;have hwE:=hl55.waves.keepN (R:=w.heap.size+1) (λb off e=>by have:=hqw b off e;omega) hkE;refine⟨plcD q2 p c cp cl pi ci pI cI,by rw[hOV],?_,hBE,λi hi=>hsE.nil i (by rw[hkp.len];exact hi),λR T A bR hR hT w2 hk2=>?_⟩
 ·exact Ztb hd hkp hfE hwE hsE (hix5.keep b25 Zd hkE)
 ·have hs2:SrfsAt w2 p c (d.len.app kc) cp cl:=by
   rcases hsr with hsr|⟨rfl,rfl,rfl,rfl,e⟩
   ·exact((((hsr.below hV4).keep b4 Zd hk6).keep b25 Zd hkE).keep bR hT.1 hk2).at (by have:=hkp.len;have:=hlok.ns.2;omega) hkp.ok
   ·rw[e]
    exact((hso5.keep b25 Zd hkE).keep bR hT.1 hk2).at (by have:=hlok.ns.2;exact Yak this Zd) hlok.sok
  exact Ztb hd hkp (hfE.keepN (R:=R) (λb off e=>by have:=hqf b off e;omega) hk2) (hwE.keepN (R:=R) (λb off e=>by have:=hqw b off e;omega) hk2) hs2 ((hix5.keep b25 Zd hkE).keep bR hT.2 hk2)
theorem Zlm (d:LD) (hd:d.ok) (q:LDP) (k:Int) (hk:U8 k) (w:World) (hl:LDAt w d q) :
  Calls Tryz.prog 8 #[.agg ((ldC d q).push (.int .u8 k))] w λe w'=>∃q',e=.returned (.agg ((d.lns (d.kc k)).ovals q'))∧OptAt w' (d.lns (d.kc k)) q'∧Below w.heap.size w w'∧SrfsNil (d.lns (d.kc k)) q':=
 (Zjv d hd q k hk w hl).mono λ_ _ ⟨q',h1,h2,h3,h4,_⟩=>⟨q',h1,h2,h3,h4⟩
end Go.Proofs.W
