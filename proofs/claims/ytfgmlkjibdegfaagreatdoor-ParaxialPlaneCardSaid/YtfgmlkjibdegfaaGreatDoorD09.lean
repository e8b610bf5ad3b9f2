/- The drafted optics of chapter 13: what it is and that it is valid. Part 9 of 19. No condition beside the row. -/
import Derived.Test.YtfgmlkjibdegfaaGreatDoorD05
import Derived.Test.YtfgmlkjibdegfaaGreatDoorD08
set_option linter.unusedVariables false
set_option linter.unusedSimpArgs false
set_option maxRecDepth 100000
set_option maxHeartbeats 4000000
namespace Go.Proofs.W
open Go.RowKit Go.Mono
theorem Zxd {s:Srf} {k:Int} (h:hasS s k=true):∃off,ParAt k off:=by
 rcases Zg6 h with rfl|rfl|rfl|rfl|rfl|rfl|rfl|rfl|rfl|rfl|rfl|rfl|rfl|rfl|rfl|rfl|rfl
 ·exact⟨1,by simp[ParAt]⟩
 ·exact⟨2,by simp[ParAt]⟩
 ·exact⟨3,by simp[ParAt]⟩
 ·exact⟨4,by simp[ParAt]⟩
 ·exact⟨5,by simp[ParAt]⟩
 ·exact⟨6,by simp[ParAt]⟩
 ·exact⟨7,by simp[ParAt]⟩
 ·exact⟨8,by simp[ParAt]⟩
 ·exact⟨12,by simp[ParAt]⟩
 ·exact⟨14,by simp[ParAt]⟩
 ·exact⟨16,by simp[ParAt]⟩
 ·exact⟨17,by simp[ParAt]⟩
 ·exact⟨18,by simp[ParAt]⟩
 ·exact⟨19,by simp[ParAt]⟩
 ·exact⟨20,by simp[ParAt]⟩
 ·exact⟨9,by simp[ParAt]⟩
 ·exact⟨10,by simp[ParAt]⟩
theorem Zv7 {s:Srf} {k v:Int} {off:Nat} (h:ParAt k off) (p:Option Addr) (c:Nat):(putS s k v).cs p c=(s.cs p c).setIfInBounds off (.int .i64 v):=by
 unfold ParAt at h;rcases h with ⟨rfl,rfl⟩|⟨rfl,rfl⟩|⟨rfl,rfl⟩|⟨rfl,rfl⟩|⟨rfl,rfl⟩|⟨rfl,rfl⟩|⟨rfl,rfl⟩|⟨rfl,rfl⟩|⟨rfl,rfl⟩|⟨rfl,rfl⟩|⟨rfl,rfl⟩|⟨rfl,rfl⟩|⟨rfl,rfl⟩|⟨rfl,rfl⟩|⟨rfl,rfl⟩|⟨rfl,rfl⟩|⟨rfl,rfl⟩<;>rfl
theorem Zv8 (t:Srf) (p p':Option Addr) (c c':Nat):(t.cs p c).setIfInBounds 21 (.slice p' t.co.length c')=t.cs p' c':=rfl
def CoatOwn (w:World) (base:Nat) (p:Option Addr) (c:Nat) (l:List Flm):Prop:=
 w.ownsRow base 233 3 (.slice p l.length c) l.length (crow (λi=>(l.getD i ⟨0,0,0⟩).vals.toList) l.length)∧(p=none->l.length=0∧c=0)
theorem CoatOwn.at {w:World} {base:Nat} {p:Option Addr} {c:Nat} {l:List Flm} (h:CoatOwn w base p c l) (hl:l.length<=8):CoatAt w p c l:=
 Za4 (λ_=>rfl) (λi j hi hj=>by rcases(by omega:j=0∨j=1∨j=2) with rfl|rfl|rfl<;>rfl) h.1 Zo
theorem Zay (s:Srf) (p:Option Addr) (c:Nat):(s.cs p c).all (·.oneCell')=true:=by simp[Srf.cs,Value.oneCell']
theorem Zt8 (s:Srf) (hs:s.ok) (p:Option Addr) (c:Nat) (hnil:p=none->s.co.length=0∧c=0) (k v:Int) (hv:In 32768000 v) (w:World) (hco:CoatAt w p c s.co) :
  Calls Tryz.prog 193 #[.agg (s.cs p c),.int .i64 k,.int .i64 v] w λe w'=>Below w.heap.size w w'∧(setS s k v=none->e=.returned (.tuple #[.agg srf0,.int .i64 2]))∧
   ∀t,setS s k v=some t->∃p' c',e=.returned (.tuple #[.agg (t.cs p' c'),.int .i64 0])∧CoatOwn w' w.heap.size p' c' t.co:=by
 have hhas:=λW (hW:Below w.heap.size w W)=>Znh s hs p c k W (hco.below hW);by_cases hk:hasS s k=true
 ·rw[hk]at hhas
  obtain⟨off,ho⟩:=Zxd hk;have hcore:=Zkq (v:=v) hs hk hv;have hcs:=Zv7 (s:=s) (v:=v) ho p c;have hputco:=Zrm s k v;refine(Zt7 k v off ho (s.cs p c) rfl (Zay s p c) p s.co.length c hs.coats rfl (λi=>s.co.getD i ⟨0,0,0⟩) (decide (putS s k v).ring) w hco hnil (λW hW=>Zcx s hs p c W (hco.below hW)) hhas (λW hW=>?_)).mono ?_
  ·rw[<-hcs]
   exact Zfw _ hcore p c W (by rw[hputco];exact hco.below hW)
  rintro e w' ⟨hB,h1,h2⟩;by_cases hr:(putS s k v).ring
  ·have hset:setS s k v=some (putS s k v):=by unfold setS;rw[if_pos ⟨hk,hr⟩]
   obtain⟨p',c',he,hown,hn⟩:=h2 (decide_eq_true hr);refine⟨hB,(λh=>by rw[hset]at h;cases h),λt ht=>?_⟩;rw[hset]at ht;cases ht;refine⟨p',c',?_,?_,?_⟩
   ·rw[he,<-hcs,show s.co.length=(putS s k v).co.length by rw[hputco],Zv8]
   ·rw[hputco];exact hown
   ·rw[hputco];exact hn
  ·have hset:setS s k v=none:=by unfold setS;rw[if_neg λh=>hr h.2]
   exact⟨hB,λ_=>h1 (decide_eq_false hr),λt ht=>by rw[hset]at ht;cases ht⟩
 ·have hset:setS s k v=none:=by unfold setS;rw[if_neg λh=>hk h.1]
  rw[Bool.not_eq_true]at hk;rw[hk]at hhas;refine(Zt6 (s.cs p c) rfl k v w (λW hW=>Zcx s hs p c W (hco.below hW)) hhas).mono ?_;rintro e w' ⟨he,hB⟩;exact⟨hB,λ_=>he,λt ht=>by rw[hset]at ht;cases ht⟩
def sAt (l:List Srf) (i:Nat):Srf:=l.getD i (stdS 0)
structure SrfsAt (w:World) (p:Option Addr) (c:Nat) (l:List Srf) (cp:Nat->Option Addr) (cl:Nat->Nat):Prop where
 row:RdC w p l.length c 22 (λi j=>((sAt l i).cs (cp i) (cl i)).getD j undef)
 coat:∀i,i<l.length->CoatAt w (cp i) (cl i) (sAt l i).co
 nil:∀i,i<l.length->cp i=none->(sAt l i).co.length=0∧cl i=0
theorem SrfsAt.below {w w':World} {p:Option Addr} {c:Nat} {l:List Srf} {cp:Nat->Option Addr} {cl:Nat->Nat} (h:SrfsAt w p c l cp cl) (hB:Below w.heap.size w w'):SrfsAt w' p c l cp cl:=
 ⟨h.row.below hB,λi hi=>(h.coat i hi).below hB,h.nil⟩
theorem SrfsAt.range {w:World} {p:Option Addr} {c:Nat} {l:List Srf} {cp:Nat->Option Addr} {cl:Nat->Nat} (h:SrfsAt w p c l cp cl) (hn:0<l.length) :
  ∃b off,p=some ⟨b,off,none⟩∧b<w.heap.size∧∀i,i<l.length->∀W,Below w.heap.size w W->W.rangeAt b (off+i*22) ((sAt l i).cs (cp i) (cl i)).toList:=by
 obtain⟨_,_,hx⟩:=h.row;obtain⟨b,off,hp,hb,hc⟩:=hx hn;refine⟨b,off,hp,hb,λi hi W hW j v hv=>?_⟩;have hj:j<22:=(Yan.1 hv).1;refine((hW.cell (p:=⟨b,off+i*22+j,none⟩) hb).trans (hc i j hi hj)).trans ?_;dsimp only;rw[Yaq]at hv;rw[Yax,hv];rfl
def scell (l:List Srf) (cp:Nat->Option Addr) (cl:Nat->Nat) (i:Nat):List Value:=((sAt l i).cs (cp i) (cl i)).toList
structure SrfsOwn (w:World) (base:Nat) (p:Option Addr) (c:Nat) (l:List Srf) (i:Nat) (cp:Nat->Option Addr) (cl:Nat->Nat):Prop where
 row:w.ownsRow base 117 22 (.slice p i c) i (crow (scell l cp cl) i)
 nil:p=none->i=0∧c=0
 coat:∀k,k<i->CoatOwn w base (cp k) (cl k) (sAt l k).co
theorem SrfsOwn.at {w:World} {base:Nat} {p:Option Addr} {c:Nat} {l:List Srf} {cp:Nat->Option Addr} {cl:Nat->Nat} (h:SrfsOwn w base p c l l.length cp cl) (hl:l.length<=1000) (hs:∀s∈l,s.ok):SrfsAt w p c l cp cl where
 row:=Za4 (λ_=>rfl) (λi j hi hj=>by
  unfold scell;rw[Yac,Yaq,Yax]) h.row hl
 coat:=λi hi=>(h.coat i hi).at (hs _ (by unfold sAt;rw[Yac,Yao hi];exact Ybw hi)).coats
 nil:=λi hi=>(h.coat i hi).2
theorem Zh9 {l:List Srf} (h:∀s∈l,s.ok) {i:Nat} (hi:i<l.length):(sAt l i).ok:=h _ (by unfold sAt;rw[Yac,Yao hi];exact Ybw hi)
theorem Zrq (f:Flm):∀u∈f.vals.toList,u.oneCell'=true:=λu hu=>by
 simp[Flm.vals]at hu;rcases hu with rfl|rfl|rfl<;>rfl
theorem Zc6 (s:Srf) (p:Option Addr) (c:Nat):∀u∈(s.cs p c).toList,u.oneCell'=true:=λu hu=>by
 have h:=Zay s p c;rw[Array.all_eq_true']at h;exact h u (Array.mem_toList_iff.1 hu)
theorem Zbn {w:World} {B:Nat} {T:TypeId} {A:Array Value} {sz:Nat} (b:Box w B T A) (hA:A.size=sz):RdC w (some ⟨B,0,none⟩) 1 1 sz (λ_ j=>A.toList.getD j undef):=by
 refine⟨Yab _,Zo,λ_=>⟨B,0,rfl,b.lt,λi j hi hj=>?_⟩⟩;obtain rfl:i=0:=Zo;rw[b.cell,Yez,Yba];dsimp only;rw[Yby Zo,Yac,Yaq,Yby Zo];rfl
theorem Za6 {W W':World} {base base2:Nat} {e e2:TypeId} {size size2 n n2:Nat} {v v2:Value} {xs xs2:List Value} (h:W.ownsRow base e size v n xs) (hg:W.grownBy W' v.ownBlock) (h2:W.ownsRow base2 e2 size2 v2 n2 xs2) (hne:e2≠e):W'.ownsRow base2 e2 size2 v2 n2 xs2:=
 Zc4 h2 λg hg2=>by
  obtain⟨l2,_,cur2,b2⟩:=Zbj h2 hg2;refine hg.block g l2 λe'=>?_;obtain⟨_,_,cur,b1⟩:=Zbj h e'.symm;exact Box.ne b2 b1 hne rfl
theorem Zaw {w:World} {base base' n size:Nat} {v:Value} {e:TypeId} {vals:List Value} (h:w.ownsRow base e size v n vals) (hb:base'<=base):w.ownsRow base' e size v n vals:=by
 obtain⟨hl,h⟩:=h;refine⟨hl,?_⟩;rcases h with h|⟨g,cap,cur,hv,hg,h1⟩
 ·exact .inl h
 ·exact .inr ⟨g,cap,cur,hv,Zo,h1⟩
theorem Zkv (l:List Srf) (hl:l.length<=16) (hs:∀s∈l,s.ok) (p:Option Addr) (c:Nat) (cp:Nat->Option Addr) (cl:Nat->Nat) (w:World) (h:SrfsAt w p c l cp cl) :
  Calls Tryz.prog 165 #[.slice p l.length c] w λe w'=>∃p' c' cp' cl',e=.returned (.slice p' l.length c')∧SrfsOwn w' w.heap.size p' c' l l.length cp' cl'∧Below w.heap.size w w':=by
 have hsA:∀(s:Srf) p c,(Tryz.prog.info? 117).map (·.size)=some (s.cs p c).size:=λ_ _ _=>Zk;have hsL:∀(s:Srf) p c,(Tryz.prog.info? 117).map (·.size)=some (s.cs p c).toList.length:=λ_ _ _=>Zk;obtain⟨fi,hfi,hfz,hfs,hfb⟩:=Zbd Zg9;obtain⟨si,hsi,hsz,hss,hsb⟩:=Zbd Zkt;have htf:Tryz.prog.underlying 115=some (.slice 233):=Tryz.underlying115;have hts:Tryz.prog.underlying 39=some (.slice 117):=Tryz.underlying39;have hrange:0<l.length->∃b off,p=some ⟨b,off,none⟩∧b<w.heap.size∧∀i,i<l.length->∀W,Below w.heap.size w W->W.rangeAt b (off+i*22) ((sAt l i).cs (cp i) (cl i)).toList:=λh0=>h.range h0;have hcoat:=h.coat;have hnil:=h.nil;have hcap:=h.row.1;have hok:=λi (hi:i<l.length)=>Zh9 hs hi;generalize hn:l.length=n at *;clear h;replace hcoat:=Yah hcoat;replace hnil:=Yah hnil;go_enter Tryz.func165,Tryz.ntmps165
 go_wp2
 go_loopw [3,4] (λv x wr=>∃i:Nat,i<=n∧x=.int .i64 (i:Int)∧Below w.heap.size w wr∧∃p' c' cp' cl',v=.slice p' i c'∧SrfsOwn wr w.heap.size p' c' l i cp' cl') (λ_ x _=>(n-intOf x).toNat)
 case atStart=>exact⟨0,Yat _,rfl,Yae _ _,none,0,λ_=>none,λ_=>0,rfl,⟨Yaj w _ _ _,λ_=>⟨rfl,rfl⟩,λk hk=>Zo⟩⟩
 case round=>
  obtain⟨i,hi,rfl,hB,p',c',cp',cl',rfl,hown⟩:=hrel;by_cases hin:i<n
  ·obtain⟨b,off,rfl,hb,hrg⟩:=hrange Zo
   have hrg':=hrg i hin wr hB;have hi':(i:Int)<n:=Zo;have hco:=(hcoat.out i hin).below hB;have hni:=hnil.out i hin;have hoki:=(hok i hin).coats;have g21:((sAt l i).cs (cp i) (cl i))[21]? = some (.slice (cp i) (sAt l i).co.length (cl i)):=rfl;clear hrange hrg hok;go_wp2_with first|(refine wpList_load_mid rfl 117 _ rfl b (off+i*22) rfl ((sAt l i).cs (cp i) (cl i)).toList _ hrg' Tryz.underlying117 rfl (hsL _ _ _) ?_)|(refine Zaq rfl 117 rfl _ Za0 ?_;intro W1 B1 hle1 hB1 b1)|(refine Zab rfl 117 (.tmp 5) (.tmp 15) rfl B1 0 117 _ ((sAt l i).cs (cp i) (cl i)) ((sAt l i).cs (cp i) (cl i)) rfl rfl b1 (hsA _ _ _) (Yaa rfl) (Zay _ _ _) rfl ?_;intro W2 hk2 b2;have hB2:=hk2.below hB1 hle1 hB1.size)|(refine Zau (ps:=#[]) 115 0 #[] rfl rfl Zs Zut ?_;intro W4 B4 hle4 hB4 b4;have hB4':=Zaa hB2 hB4;have b24:=b2.below hB4;have cs4:=(b24.cell 21).trans g21;have lw4:=b24.lt;have hown4:W4.ownsRow wr.heap.size 233 3 (.slice (some ⟨B4,0,none⟩) 0 0) 0 (crow (λk=>((sAt l i).co.getD k ⟨0,0,0⟩).vals.toList) 0):=Zcy b4 (Yak hB2.size hle4) Zd (λ_=>rfl) rfl)|(refine Zam rfl (.tmp 16) (.tmp 18) (ts:=115) (te:=233) rfl htf hfi hfz hfs hfb rfl Zd rfl rfl hown4 (λ_=>rfl) (λ_ _=>Zrq _) (Zku (FilmsAt.below hco hB4')) hni hB4'.size Zo Zo ?_;intro p5 c5 W5 hown5 hg5 hn5;have b25:=b24.appended hown4 hg5 (Zd);have hB5:=Below.appended hown4 hg5 hB4' (Yab _);have cs5:=(b25.cell 21).trans g21;have fr5:=b25.frozen;have lw5:=b25.lt;clear cs4 lw4)|(refine Zac rfl 117 (.tmp 5) rfl B1 rfl 117 _ (b25.set 21 (.slice p5 (sAt l i).co.length c5)) _ Tryz.underlying117 rfl (hsA (sAt l i) p5 c5) ?_)|(refine Zau (ps:=#[(0,.agg ((sAt l i).cs p5 c5))]) 39 1 #[(0,.tmp 22)] rfl rfl (by simp;rfl) (Zch hts hsi hsz hss Zd Zd _ rfl) ?_;intro W7 B7 hle7 hB7 b7;have hB6:=hB5.setCell (p:=⟨B1,21,none⟩) hle1 (.slice p5 (sAt l i).co.length c5);have hB7':=Zaa hB6 hB7;have hown7:=Zaf hown.row hB7')|(refine Zam rfl (.tmp 21) (.tmp 23) (ts:=39) (te:=117) rfl hts hsi hsz hss hsb rfl Zd rfl rfl hown7 (H:=λ_=>((sAt l i).cs p5 c5).toList) (λ_=>rfl) (λ_ _=>Zc6 _ _ _) (Zbn b7 rfl) (λh=>by cases h) (Yak hB.size hB7'.size) Zo Zo ?_;intro p8 c8 W8 hown8 hg8 hn8)
   have hBw:=Zaa hB hB7';have hB8:=Below.appended hown7 hg8 hBw (Yab _);rw[Yba]at hown5 hn5;rw[Zav (D:=λk=>((sAt l i).co.getD k ⟨0,0,0⟩).vals.toList) (λk hk=>by unfold ccat;rw[if_neg Zo];rfl)]at hown5;have ho6:=Zap hown5 b25 Zd ((KeepBut.refl B1 W5).set 21 (.slice p5 (sAt l i).co.length c5));have ho8:=Zaw (Za6 hown7 hg8 (Zaf ho6 hB7) Zd) hB.size;go_roundw
   case rel=>
    refine⟨i+1,Zo,Zs,hB8,p8,c8,λk=>if k=i then p5 else cp' k,λk=>if k=i then c5 else cl' k,rfl,⟨?_,hn8,λk hk=>?_⟩⟩
    ·rw[<-Zav (C:=ccat (scell l cp' cl') i (λ_=>((sAt l i).cs p5 c5).toList))]
     ·exact hown8
     ·intro k hk
      unfold ccat scell;by_cases hki:k<i
      ·have hne:k≠i:=by omega
       dsimp only;rw[if_pos hki,if_neg hne,if_neg hne]
      ·obtain rfl:k=i:=by omega
       dsimp only;rw[if_neg hki,if_pos rfl,if_pos rfl]
    ·by_cases hki:k=i
     ·subst hki
      rw[if_pos rfl,if_pos rfl];exact⟨ho8,hn5⟩
     ·rw[if_neg hki,if_neg hki]
      have:=hown.coat k Zo;exact⟨Za6 hown7 hg8 (Zaf this.1 hB7') Zd,this.2⟩
   case measure=>simp[intOf];omega
  ·obtain rfl:i=n:=by omega
   clear hrange hok;go_wp2
   go_ret
   exact⟨p',c',cp',cl',rfl,hown,hB⟩
end Go.Proofs.W
