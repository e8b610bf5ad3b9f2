/- The drafted optics of chapter 13: what it is and that it is valid. Part 8 of 16. No condition beside the row. -/
import Derived.Test.YtgkmjekkefmejaaGreatDoorD02
import Derived.Test.YtgkmjekkefmejaaGreatDoorD07
set_option linter.unusedVariables false
set_option linter.unusedSimpArgs false
set_option maxRecDepth 100000
set_option maxHeartbeats 4000000
namespace Go.Proofs.W
open Go.RowKit Go.Mono
theorem Zzj {s:Srf} {k:Int} (h:hasS s k=true):∃off,ParAt k off:=by
 rcases Zhi h with rfl|rfl|rfl|rfl|rfl|rfl|rfl|rfl|rfl|rfl|rfl|rfl|rfl|rfl|rfl|rfl|rfl
 ·exact⟨1,by simp[ParAt]⟩
 ·exact⟨2,by simp[ParAt]⟩
 ·exact⟨3,by simp[ParAt]⟩
 ·exact⟨4,by simp[ParAt]⟩
 ·exact⟨5,by simp[ParAt]⟩
 ·exact⟨6,by simp[ParAt]⟩
 ·exact⟨7,by simp[ParAt]⟩
 ·exact⟨8,by simp[ParAt]⟩
 ·exact⟨12,by simp[ParAt]⟩
 ·exact⟨14,by simp[ParAt]⟩
 ·exact⟨16,by simp[ParAt]⟩
 ·exact⟨17,by simp[ParAt]⟩
 ·exact⟨18,by simp[ParAt]⟩
 ·exact⟨19,by simp[ParAt]⟩
 ·exact⟨20,by simp[ParAt]⟩
 ·exact⟨9,by simp[ParAt]⟩
 ·exact⟨10,by simp[ParAt]⟩
theorem Zx8 {s:Srf} {k v:Int} {off:Nat} (h:ParAt k off) (p:Option Addr) (c:Nat):(putS s k v).cs p c=(s.cs p c).setIfInBounds off (.int .i64 v):=by
 unfold ParAt at h;rcases h with ⟨rfl,rfl⟩|⟨rfl,rfl⟩|⟨rfl,rfl⟩|⟨rfl,rfl⟩|⟨rfl,rfl⟩|⟨rfl,rfl⟩|⟨rfl,rfl⟩|⟨rfl,rfl⟩|⟨rfl,rfl⟩|⟨rfl,rfl⟩|⟨rfl,rfl⟩|⟨rfl,rfl⟩|⟨rfl,rfl⟩|⟨rfl,rfl⟩|⟨rfl,rfl⟩|⟨rfl,rfl⟩|⟨rfl,rfl⟩<;>rfl
theorem Zx9 (t:Srf) (p p':Option Addr) (c c':Nat):(t.cs p c).setIfInBounds 21 (.slice p' t.co.length c')=t.cs p' c':=rfl
def CoatOwn (w:World) (base:Nat) (p:Option Addr) (c:Nat) (l:List Flm):Prop:=
 w.ownsRow base 270 3 (.slice p l.length c) l.length (crow (λi=>(l.getD i ⟨0,0,0⟩).vals.toList) l.length)∧(p=none->l.length=0∧c=0)
theorem CoatOwn.at {w:World} {base:Nat} {p:Option Addr} {c:Nat} {l:List Flm} (h:CoatOwn w base p c l) (hl:l.length<=8):CoatAt w p c l:=
 Zaz (λ_=>rfl) (λi j hi hj=>by rcases(by omega:j=0∨j=1∨j=2) with rfl|rfl|rfl<;>rfl) h.1 Zo
theorem Zbu (s:Srf) (p:Option Addr) (c:Nat):(s.cs p c).all (·.oneCell')=true:=by simp[Srf.cs,Value.oneCell']
theorem Zvx (s:Srf) (hs:s.ok) (p:Option Addr) (c:Nat) (hnil:p=none->s.co.length=0∧c=0) (k v:Int) (hv:In 32768000 v) (w:World) (hco:CoatAt w p c s.co) :
  Calls Tryz.prog 222 #[.agg (s.cs p c),.int .i64 k,.int .i64 v] w λe w'=>Below w.heap.size w w'∧(setS s k v=none->e=.returned (.tuple #[.agg srf0,.int .i64 2]))∧
   ∀t,setS s k v=some t->∃p' c',e=.returned (.tuple #[.agg (t.cs p' c'),.int .i64 0])∧CoatOwn w' w.heap.size p' c' t.co:=by
 have hhas:=λW (hW:Below w.heap.size w W)=>Zon s hs p c k W (hco.below hW);by_cases hk:hasS s k=true
 ·rw[hk]at hhas
  obtain⟨off,ho⟩:=Zzj hk;have hcore:=Zlv (v:=v) hs hk hv;have hcs:=Zx8 (s:=s) (v:=v) ho p c;have hputco:=Zs4 s k v;refine(Zvw k v off ho (s.cs p c) rfl (Zbu s p c) p s.co.length c hs.coats rfl (λi=>s.co.getD i ⟨0,0,0⟩) (decide (putS s k v).ring) w hco hnil (λW hW=>Zct s hs p c W (hco.below hW)) hhas (λW hW=>?_)).mono ?_
  ·rw[<-hcs]
   exact Zf0 _ hcore p c W (by rw[hputco];exact hco.below hW)
  rintro e w' ⟨hB,h1,h2⟩;by_cases hr:(putS s k v).ring
  ·have hset:setS s k v=some (putS s k v):=by unfold setS;rw[if_pos ⟨hk,hr⟩]
   obtain⟨p',c',he,hown,hn⟩:=h2 (decide_eq_true hr);refine⟨hB,(λh=>by rw[hset]at h;cases h),λt ht=>?_⟩;rw[hset]at ht;cases ht;refine⟨p',c',?_,?_,?_⟩
   ·rw[he,<-hcs,show s.co.length=(putS s k v).co.length by rw[hputco],Zx9]
   ·rw[hputco];exact hown
   ·rw[hputco];exact hn
  ·have hset:setS s k v=none:=by unfold setS;rw[if_neg λh=>hr h.2]
   exact⟨hB,λ_=>h1 (decide_eq_false hr),λt ht=>by rw[hset]at ht;cases ht⟩
 ·have hset:setS s k v=none:=by unfold setS;rw[if_neg λh=>hk h.1]
  rw[Bool.not_eq_true]at hk;rw[hk]at hhas;refine(Zvv (s.cs p c) rfl k v w (λW hW=>Zct s hs p c W (hco.below hW)) hhas).mono ?_;rintro e w' ⟨he,hB⟩;exact⟨hB,λ_=>he,λt ht=>by rw[hset]at ht;cases ht⟩
def sAt (l:List Srf) (i:Nat):Srf:=l.getD i (stdS 0)
structure SrfsAt (w:World) (p:Option Addr) (c:Nat) (l:List Srf) (cp:Nat->Option Addr) (cl:Nat->Nat):Prop where
 row:RdC w p l.length c 22 (λi j=>((sAt l i).cs (cp i) (cl i)).getD j undef)
 coat:∀i,i<l.length->CoatAt w (cp i) (cl i) (sAt l i).co
 nil:∀i,i<l.length->cp i=none->(sAt l i).co.length=0∧cl i=0
theorem SrfsAt.below {w w':World} {p:Option Addr} {c:Nat} {l:List Srf} {cp:Nat->Option Addr} {cl:Nat->Nat} (h:SrfsAt w p c l cp cl) (hB:Below w.heap.size w w'):SrfsAt w' p c l cp cl:=
 ⟨h.row.below hB,λi hi=>(h.coat i hi).below hB,h.nil⟩
theorem SrfsAt.range {w:World} {p:Option Addr} {c:Nat} {l:List Srf} {cp:Nat->Option Addr} {cl:Nat->Nat} (h:SrfsAt w p c l cp cl) (hn:0<l.length) :
  ∃b off,p=some ⟨b,off,none⟩∧b<w.heap.size∧∀i,i<l.length->∀W,Below w.heap.size w W->W.rangeAt b (off+i*22) ((sAt l i).cs (cp i) (cl i)).toList:=by
 obtain⟨_,_,hx⟩:=h.row;obtain⟨b,off,hp,hb,hc⟩:=hx hn;refine⟨b,off,hp,hb,λi hi W hW j v hv=>?_⟩;have hj:j<22:=(Yan.1 hv).1;refine((hW.cell (p:=⟨b,off+i*22+j,none⟩) hb).trans (hc i j hi hj)).trans ?_;dsimp only;rw[Yaq]at hv;rw[Yax,hv];rfl
def scell (l:List Srf) (cp:Nat->Option Addr) (cl:Nat->Nat) (i:Nat):List Value:=((sAt l i).cs (cp i) (cl i)).toList
structure SrfsOwn (w:World) (base:Nat) (p:Option Addr) (c:Nat) (l:List Srf) (i:Nat) (cp:Nat->Option Addr) (cl:Nat->Nat):Prop where
 row:w.ownsRow base 85 22 (.slice p i c) i (crow (scell l cp cl) i)
 nil:p=none->i=0∧c=0
 coat:∀k,k<i->CoatOwn w base (cp k) (cl k) (sAt l k).co
theorem SrfsOwn.at {w:World} {base:Nat} {p:Option Addr} {c:Nat} {l:List Srf} {cp:Nat->Option Addr} {cl:Nat->Nat} (h:SrfsOwn w base p c l l.length cp cl) (hl:l.length<=1000) (hs:∀s∈l,s.ok):SrfsAt w p c l cp cl where
 row:=Zaz (λ_=>rfl) (λi j hi hj=>by
  unfold scell;rw[Yac,Yaq,Yax]) h.row hl
 coat:=λi hi=>(h.coat i hi).at (hs _ (by unfold sAt;rw[Yac,Yao hi];exact Ybw hi)).coats
 nil:=λi hi=>(h.coat i hi).2
theorem Zix {l:List Srf} (h:∀s∈l,s.ok) {i:Nat} (hi:i<l.length):(sAt l i).ok:=h _ (by unfold sAt;rw[Yac,Yao hi];exact Ybw hi)
theorem Zs8 (f:Flm):∀u∈f.vals.toList,u.oneCell'=true:=λu hu=>by
 simp[Flm.vals]at hu;rcases hu with rfl|rfl|rfl<;>rfl
theorem Zd0 (s:Srf) (p:Option Addr) (c:Nat):∀u∈(s.cs p c).toList,u.oneCell'=true:=λu hu=>by
 have h:=Zbu s p c;rw[Array.all_eq_true']at h;exact h u (Array.mem_toList_iff.1 hu)
theorem Zb2 {w:World} {B:Nat} {T:TypeId} {A:Array Value} {sz:Nat} (b:Box w B T A) (hA:A.size=sz):RdC w (some ⟨B,0,none⟩) 1 1 sz (λ_ j=>A.toList.getD j undef):=by
 refine⟨Yab _,Zo,λ_=>⟨B,0,rfl,b.lt,λi j hi hj=>?_⟩⟩;obtain rfl:i=0:=Zo;rw[b.cell,Yez,Yba];dsimp only;rw[Yby Zo,Yac,Yaq,Yby Zo];rfl
theorem Zbc {W W':World} {base base2:Nat} {e e2:TypeId} {size size2 n n2:Nat} {v v2:Value} {xs xs2:List Value} (h:W.ownsRow base e size v n xs) (hg:W.grownBy W' v.ownBlock) (h2:W.ownsRow base2 e2 size2 v2 n2 xs2) (hne:e2≠e):W'.ownsRow base2 e2 size2 v2 n2 xs2:=
 Zds h2 λg hg2=>by
  obtain⟨l2,_,cur2,b2⟩:=Zbw h2 hg2;refine hg.block g l2 λe'=>?_;obtain⟨_,_,cur,b1⟩:=Zbw h e'.symm;exact Box.ne b2 b1 hne rfl
theorem Zav {w:World} {base base' n size:Nat} {v:Value} {e:TypeId} {vals:List Value} (h:w.ownsRow base e size v n vals) (hb:base'<=base):w.ownsRow base' e size v n vals:=by
 obtain⟨hl,h⟩:=h;refine⟨hl,?_⟩;rcases h with h|⟨g,cap,cur,hv,hg,h1⟩
 ·exact .inl h
 ·exact .inr ⟨g,cap,cur,hv,Zo,h1⟩
theorem Zl0 (l:List Srf) (hl:l.length<=16) (hs:∀s∈l,s.ok) (p:Option Addr) (c:Nat) (cp:Nat->Option Addr) (cl:Nat->Nat) (w:World) (h:SrfsAt w p c l cp cl) :
  Calls Tryz.prog 196 #[.slice p l.length c] w λe w'=>∃p' c' cp' cl',e=.returned (.slice p' l.length c')∧SrfsOwn w' w.heap.size p' c' l l.length cp' cl'∧Below w.heap.size w w':=by
 have hsA:∀(s:Srf) p c,(Tryz.prog.info? 85).map (·.size)=some (s.cs p c).size:=λ_ _ _=>Zk;have hsL:∀(s:Srf) p c,(Tryz.prog.info? 85).map (·.size)=some (s.cs p c).toList.length:=λ_ _ _=>Zk;obtain⟨fi,hfi,hfz,hfs,hfb⟩:=Zbb Zhl;obtain⟨si,hsi,hsz,hss,hsb⟩:=Zbb Zly;have htf:Tryz.prog.underlying 83=some (.slice 270):=Tryz.underlying83;have hts:Tryz.prog.underlying 34=some (.slice 85):=Tryz.underlying34;have hrange:0<l.length->∃b off,p=some ⟨b,off,none⟩∧b<w.heap.size∧∀i,i<l.length->∀W,Below w.heap.size w W->W.rangeAt b (off+i*22) ((sAt l i).cs (cp i) (cl i)).toList:=λh0=>h.range h0;have hcoat:=h.coat;have hnil:=h.nil;have hcap:=h.row.1;have hok:=λi (hi:i<l.length)=>Zix hs hi;generalize hn:l.length=n at *;clear h;replace hcoat:=Yah hcoat;replace hnil:=Yah hnil;go_enter Tryz.func196,Tryz.ntmps196
 go_wp2
 go_loopw [3,4] (λv x wr=>∃i:Nat,i<=n∧x=.int .i64 (i:Int)∧Below w.heap.size w wr∧∃p' c' cp' cl',v=.slice p' i c'∧SrfsOwn wr w.heap.size p' c' l i cp' cl') (λ_ x _=>(n-intOf x).toNat)
 case atStart=>exact⟨0,Yat _,rfl,Yae _ _,none,0,λ_=>none,λ_=>0,rfl,⟨Yaj w _ _ _,λ_=>⟨rfl,rfl⟩,λk hk=>Zo⟩⟩
 case round=>
  obtain⟨i,hi,rfl,hB,p',c',cp',cl',rfl,hown⟩:=hrel;by_cases hin:i<n
  ·obtain⟨b,off,rfl,hb,hrg⟩:=hrange Zo
   have hrg':=hrg i hin wr hB;have hi':(i:Int)<n:=Zo;have hco:=(hcoat.out i hin).below hB;have hni:=hnil.out i hin;have hoki:=(hok i hin).coats;have g21:((sAt l i).cs (cp i) (cl i))[21]? = some (.slice (cp i) (sAt l i).co.length (cl i)):=rfl;clear hrange hrg hok;go_wp2_with first|(refine wpList_load_mid rfl 85 _ rfl b (off+i*22) rfl ((sAt l i).cs (cp i) (cl i)).toList _ hrg' Tryz.underlying85 rfl (hsL _ _ _) ?_)|(refine Zak rfl 85 rfl _ Za6 ?_;intro W1 B1 hle1 hB1 b1)|(refine Zab rfl 85 (.tmp 5) (.tmp 15) rfl B1 0 85 _ ((sAt l i).cs (cp i) (cl i)) ((sAt l i).cs (cp i) (cl i)) rfl rfl b1 (hsA _ _ _) (Yaa rfl) (Zbu _ _ _) rfl ?_;intro W2 hk2 b2;have hB2:=hk2.below hB1 hle1 hB1.size)|(refine Za0 (ps:=#[]) 83 0 #[] rfl rfl Zs Zwl ?_;intro W4 B4 hle4 hB4 b4;have hB4':=Zaa hB2 hB4;have b24:=b2.below hB4;have cs4:=(b24.cell 21).trans g21;have lw4:=b24.lt;have hown4:W4.ownsRow wr.heap.size 270 3 (.slice (some ⟨B4,0,none⟩) 0 0) 0 (crow (λk=>((sAt l i).co.getD k ⟨0,0,0⟩).vals.toList) 0):=Zcu b4 (Yak hB2.size hle4) Zd (λ_=>rfl) rfl)|(refine Zan rfl (.tmp 16) (.tmp 18) (ts:=83) (te:=270) rfl htf hfi hfz hfs hfb rfl Zd rfl rfl hown4 (λ_=>rfl) (λ_ _=>Zs8 _) (Zlz (FilmsAt.below hco hB4')) hni hB4'.size Zo Zo ?_;intro p5 c5 W5 hown5 hg5 hn5;have b25:=b24.appended hown4 hg5 (Zd);have hB5:=Below.appended hown4 hg5 hB4' (Yab _);have cs5:=(b25.cell 21).trans g21;have fr5:=b25.frozen;have lw5:=b25.lt;clear cs4 lw4)|(refine Zac rfl 85 (.tmp 5) rfl B1 rfl 85 _ (b25.set 21 (.slice p5 (sAt l i).co.length c5)) _ Tryz.underlying85 rfl (hsA (sAt l i) p5 c5) ?_)|(refine Za0 (ps:=#[(0,.agg ((sAt l i).cs p5 c5))]) 34 1 #[(0,.tmp 22)] rfl rfl (by simp;rfl) (Zdt hts hsi hsz hss Zd Zd _ rfl) ?_;intro W7 B7 hle7 hB7 b7;have hB6:=hB5.setCell (p:=⟨B1,21,none⟩) hle1 (.slice p5 (sAt l i).co.length c5);have hB7':=Zaa hB6 hB7;have hown7:=Zai hown.row hB7')|(refine Zan rfl (.tmp 21) (.tmp 23) (ts:=34) (te:=85) rfl hts hsi hsz hss hsb rfl Zd rfl rfl hown7 (H:=λ_=>((sAt l i).cs p5 c5).toList) (λ_=>rfl) (λ_ _=>Zd0 _ _ _) (Zb2 b7 rfl) (λh=>by cases h) (Yak hB.size hB7'.size) Zo Zo ?_;intro p8 c8 W8 hown8 hg8 hn8)
   have hBw:=Zaa hB hB7';have hB8:=Below.appended hown7 hg8 hBw (Yab _);rw[Yba]at hown5 hn5;rw[Zas (D:=λk=>((sAt l i).co.getD k ⟨0,0,0⟩).vals.toList) (λk hk=>by unfold ccat;rw[if_neg Zo];rfl)]at hown5;have ho6:=Zay hown5 b25 Zd ((KeepBut.refl B1 W5).set 21 (.slice p5 (sAt l i).co.length c5));have ho8:=Zav (Zbc hown7 hg8 (Zai ho6 hB7) Zd) hB.size;go_roundw
   case rel=>
    refine⟨i+1,Zo,Zs,hB8,p8,c8,λk=>if k=i then p5 else cp' k,λk=>if k=i then c5 else cl' k,rfl,⟨?_,hn8,λk hk=>?_⟩⟩
    ·rw[<-Zas (C:=ccat (scell l cp' cl') i (λ_=>((sAt l i).cs p5 c5).toList))]
     ·exact hown8
     ·intro k hk
      unfold ccat scell;by_cases hki:k<i
      ·have hne:k≠i:=by omega
       dsimp only;rw[if_pos hki,if_neg hne,if_neg hne]
      ·obtain rfl:k=i:=by omega
       dsimp only;rw[if_neg hki,if_pos rfl,if_pos rfl]
    ·by_cases hki:k=i
     ·subst hki
      rw[if_pos rfl,if_pos rfl];exact⟨ho8,hn5⟩
     ·rw[if_neg hki,if_neg hki]
      have:=hown.coat k Zo;exact⟨Zbc hown7 hg8 (Zai this.1 hB7') Zd,this.2⟩
   case measure=>simp[intOf];omega
  ·obtain rfl:i=n:=by omega
   clear hrange hok;go_wp2
   go_ret
   exact⟨p',c',cp',cl',rfl,hown,hB⟩
theorem Zvy (l:List Srf) (hl:l.length<=16) (hs:∀s∈l,s.ok) (p:Option Addr) (c:Nat) (cp:Nat->Option Addr) (cl:Nat->Nat) (i:Nat) (hi:i<l.length) (k:Int) (w:World) (h:SrfsAt w p c l cp cl) :
  Calls Tryz.prog 221 #[.slice p l.length c,.int .i64 (i:Int),.int .i64 k] w λe w'=>e=.returned (.bool (hasS (sAt l i) k&&(decide (k≠9) || decide (i+1<l.length))))∧Below w.heap.size w w':=by
 have hsL:∀(s:Srf) p c,(Tryz.prog.info? 85).map (·.size)=some (s.cs p c).toList.length:=λ_ _ _=>Zk;obtain⟨b,off,rfl,hb,hrg⟩:=h.range Zo;have hrgi:=hrg i hi w (Yae _ _);have hcap:=h.row.1;have hhas:=λW (hW:Below w.heap.size w W)=>Zon (sAt l i) (Zix hs hi) (cp i) (cl i) k W ((h.coat i hi).below hW);clear hrg h;generalize hn:l.length=n at *;have e1:IntKind.i64.wrap ((n:Int)-1)=(n:Int)-1:=by rw[Ybi];omega
 have hwi:=λW=>Za5 (i:Int) 0 ((n:Int)-1) Zo Zo W;have hi':(i:Int)<n:=Zo;generalize hb1:hasS (sAt l i) k=b1 at *;have hsA:=hsL (sAt l i) (cp i) (cl i);generalize (sAt l i).cs (cp i) (cl i)=A at *;clear hb1;go_enter Tryz.func221,Tryz.ntmps221
 go_wp2_with first|(go_at_call 174;refine(hwi _).mono ?_;rintro e w5 ⟨rfl,h5⟩;rw[h5];clear h5 w5)|(refine Zbe (by rfl) 85 (.tmp 15) rfl b (off+i*22) rfl A.toList _ hrgi Tryz.underlying85 rfl hsA ?_)
 refine(hhas w (Yae _ _)).mono ?_;rintro e w1 ⟨rfl,hb1⟩;clear hhas hwi hrgi hsA hsL;cases b1 with
 | false =>
   go_wp2
   go_ret
   exact⟨rfl,hb1⟩
 | true =>
   go_wp2
   all_goals
    go_ret
    refine⟨?_,hb1⟩;show Ending.returned (Value.bool _)=Ending.returned (Value.bool _);congr 2
    clear hb1 hs;simp only[beq_iff_eq,beq_eq_false_iff_ne,ne_eq]at *;rw[Ycx];simp;try omega
theorem Zj6 {l:List Srf} {i:Nat} (hi:i<l.length):l[i]? = some (sAt l i):=by
 unfold sAt;rw[Yac,Yao hi];rfl
theorem Zne {l:List Srf} {i:Nat} {t:Srf} (hi:i<l.length) (k:Nat):sAt (l.set i t) k=if k=i then t else sAt l k:=by
 unfold sAt;rw[Yac,Yac];by_cases h:k=i
 ·subst h
  rw[if_pos rfl,List.getElem?_set_self hi];rfl
 ·rw[if_neg h,List.getElem?_set_ne (λe=>h e.symm)]
theorem Zs9 (l:List Srf) (hl:l.length<=16) (hs:∀s∈l,s.ok) (p:Option Addr) (c:Nat) (cp:Nat->Option Addr) (cl:Nat->Nat) (i:Nat) (hi:i<l.length) (k v:Int) (hv:In 32768000 v) (w:World) (h:SrfsAt w p c l cp cl) :
  Calls Tryz.prog 197 #[.slice p l.length c,.int .i64 (i:Int),.int .i64 k,.int .i64 v] w λe w'=>Below w.heap.size w w'∧(withS l (i,k,v)=none->e=.returned (.tuple #[.slice none 0 0,.bool false]))∧
   ∀m,withS l (i,k,v)=some m->∃p' c' cp' cl',e=.returned (.tuple #[.slice p' m.length c',.bool true])∧SrfsOwn w' w.heap.size p' c' m m.length cp' cl':=by
 have hsA:∀(s:Srf) p c,(Tryz.prog.info? 85).map (·.size)=some (s.cs p c).size:=λ_ _ _=>Zk;have hsL:∀(s:Srf) p c,(Tryz.prog.info? 85).map (·.size)=some (s.cs p c).toList.length:=λ_ _ _=>Zk;have hi0:(Tryz.prog.info? 85).map (·.size)=some srf0.size:=Zk;have hhas:=λW (hW:Below w.heap.size w W)=>Zvy l hl hs p c cp cl i hi k W (h.below hW);have hset:=λW (hW:Below w.heap.size w W)=>Zvx (sAt l i) (Zix hs hi) (cp i) (cl i) (h.nil i hi) k v hv W ((h.coat i hi).below hW);have hcopy:=λW (hW:Below w.heap.size w W)=>Zl0 l hl hs p c cp cl W (h.below hW);obtain⟨b,off,rfl,hb,hrg⟩:=h.range Zo;have hrgi:=λW hW=>hrg i hi W hW;have hcap:=h.row.1;have hget:=Zj6 hi;have hlen:∀t,(l.set i t).length=l.length:=λt=>List.length_set;have hsat:∀t k,sAt (l.set i t) k=if k=i then t else sAt l k:=λt k=>Zne hi k
 have hwith:withS l (i,k,v)=if k=9∧i+1=l.length then none else(setS (sAt l i) k v).map λt=>l.set i t:=by
  unfold withS;dsimp only;rw[hget]
 clear hrg h hget;generalize hn:l.length=n at *;have hi':(i:Int)<n:=Zo;by_cases hok:hasS (sAt l i) k=true∧¬(k=9∧i+1=n)
 ·have e1:(hasS (sAt l i) k&&(decide (k≠9) || decide (i+1<n)))=true:=by
   rw[hok.1,Bool.true_and,Ybo,decide_eq_true_eq,decide_eq_true_eq];have:=hok.2;omega
  rw[e1]at hhas;rw[if_neg hok.2]at hwith;go_enter Tryz.func197,Tryz.ntmps197
  go_wp2_with fail
  refine(hhas w (Yae _ _)).mono ?_;rintro e W1 ⟨rfl,hB1⟩;have hrg1:=hrgi W1 hB1;go_wp2_with (refine wpList_load_mid rfl 85 (.tmp 21) rfl b (off+i*22) rfl _ _ hrg1 Tryz.underlying85 rfl (hsL _ _ _) ?_)
  refine(hset W1 hB1).mono ?_;rintro e W2 ⟨hb2,hno,hyes⟩;have hB2:=Zaa hB1 hb2;cases hst:setS (sAt l i) k v with
  | none =>
    obtain rfl:=hno hst;rw[hst]at hwith;clear hno hyes hset hcopy hrgi;go_wp2_with first|(refine Zak rfl 85 rfl _ Za6 ?_;intro W3 B1 hle3 hB3 b1)|(refine Zab rfl 85 (.tmp 10) (.tmp 26) rfl B1 0 85 _ srf0 srf0 rfl rfl b1 hi0 (Yaa rfl) (by decide +kernel) rfl ?_;intro W4 hk4 b4)
    go_ret2
    exact⟨Zaa hB2 (hk4.below hB3 hle3 hB3.size),λ_=>rfl,λm hm=>by rw[hwith]at hm;cases hm⟩
  | some t =>
    obtain⟨p2,c2,rfl,hco2⟩:=hyes t hst;rw[hst]at hwith;clear hno hyes hset hrgi;go_wp2_with first|(refine Zak rfl 85 rfl _ Za6 ?_;intro W3 B1 hle3 hB3 b1)|(refine Zab rfl 85 (.tmp 10) (.tmp 26) rfl B1 0 85 _ (t.cs p2 c2) (t.cs p2 c2) rfl rfl b1 (hsA _ _ _) (Yaa rfl) (Zbu _ _ _) rfl ?_;intro W4 hk4 b4)
    have hb4:=hk4.below hB3 hle3 hB3.size;have hB4:=Zaa hB2 hb4;refine(hcopy W4 hB4).mono ?_;rintro e W5 ⟨p5,c5,cp5,cl5,rfl,hown5,hb5⟩;have hB5:=Zaa hB4 hb5;have b5:=b4.below hb5;have hrow5:=hown5.row;obtain⟨hl5,⟨h50,h51⟩|⟨g,cap,cur,hv5,hbg,hg5,hc5,hm5,hs5,ht5⟩⟩:=id hrow5
    ·omega
    obtain⟨rfl,_,rfl⟩:p5=some ⟨g,0,none⟩∧True∧cap=c5:=by
     cases hv5;exact⟨rfl,trivial,rfl⟩
    have bg:Box W5 g 85 cur:=⟨hg5⟩
    have hcz:(t.cs p2 c2).size=22:=rfl;have hin:i*22+22<=cap*22:=Zo;have hnew:cur.toList.take (i*22)++(t.cs p2 c2).toList++cur.toList.drop (i*22+(t.cs p2 c2).size)=(cur.toList.take (i*22)++(t.cs p2 c2).toList++cur.toList.drop (i*22+22)).toArray.toList:=by rw[hcz]
    have hlt5:i<cap:=Zo;clear hcopy;go_wp2_with first|(refine Zac rfl 85 (.tmp 10) rfl B1 rfl 85 _ b5 _ Tryz.underlying85 rfl (hsA _ _ _) ?_)|(refine Zab rfl 85 (.tmp 35) (.tmp 34) rfl g (i*22) 85 cur (t.cs p2 c2) _ rfl rfl bg (hsA _ _ _) (by rw[hcz,hs5];exact hin) (Zbu _ _ _) hnew ?_;intro W6 hk6 b6)
    go_ret2
    have hwb:w.heap.size<=g:=Yak hB4.size hbg;have hB6:=hk6.below hB5 hwb hB5.size;refine⟨hB6,(λhm=>by rw[hwith]at hm;cases hm),λm hm=>?_⟩;rw[hwith]at hm;cases hm;refine⟨some ⟨g,0,none⟩,cap,λq=>if q=i then p2 else cp5 q,λq=>if q=i then c2 else cl5 q,by rw[hlen];rfl,?_⟩;rw[hlen];refine⟨?_,λh=>(by cases h),λq hq=>?_⟩
    ·have hu:=Zhk (C:=scell l cp5 cl5) (t:=(t.cs p2 c2).toList) (λ_=>rfl) rfl (Zav hrow5 hB4.size) bg hi hnew b6
     rw[<-Zas (C:=cupd (scell l cp5 cl5) i (t.cs p2 c2).toList)]
     ·exact hu
     ·intro q hq
      unfold cupd scell;dsimp only;rw[hsat];by_cases hqi:q=i
      ·rw[if_pos hqi,if_pos hqi,if_pos hqi,if_pos hqi]
      ·rw[if_neg hqi,if_neg hqi,if_neg hqi,if_neg hqi]
    ·rw[hsat]
     by_cases hqi:q=i
     ·rw[if_pos hqi,if_pos hqi,if_pos hqi]
      exact⟨Zav (Zay (Zai hco2.1 (Zaa hb4 hb5)) bg Zd hk6) hB1.size,hco2.2⟩
     ·rw[if_neg hqi,if_neg hqi,if_neg hqi]
      have:=hown5.coat q hq;exact⟨Zav (Zay this.1 bg Zd hk6) hB4.size,this.2⟩
 ·have e1:(hasS (sAt l i) k&&(decide (k≠9) || decide (i+1<n)))=false:=by
   cases hh:hasS (sAt l i) k with
   | false=>rfl
   | true =>
     rw[Bool.true_and,Bool.or_eq_false_iff,decide_eq_false_iff_not,decide_eq_false_iff_not];have:=Classical.not_not.1 λh2=>hok ⟨hh,h2⟩;omega
  have hw0:withS l (i,k,v)=none:=by
   rw[hwith];split
   ·rfl
   ·rename_i h2
    have h3:¬hasS (sAt l i) k=true:=λhh=>hok ⟨hh,h2⟩;unfold setS;rw[if_neg λh=>h3 h.1];rfl
  rw[e1]at hhas;clear hset hcopy hrgi hwith;go_enter Tryz.func197,Tryz.ntmps197
  go_wp2_with fail
  refine(hhas w (Yae _ _)).mono ?_;rintro e W1 ⟨rfl,hB1⟩;go_wp2
  go_ret2
  exact⟨hB1,λ_=>rfl,λm hm=>by rw[hw0]at hm;cases hm⟩
def chgC (c:Chg):Array Value:=#[.int .i64 (c.1:Int),.int .i64 c.2.1,.int .i64 c.2.2]
def cAt (cs:List Chg) (i:Nat):Chg:=cs.getD i (0,0,0)
def ChgsAt (w:World) (p:Option Addr) (c:Nat) (cs:List Chg):Prop:=RdC w p cs.length c 3 (λi j=>(chgC (cAt cs i)).getD j undef)
theorem ChgsAt.below {w w':World} {p:Option Addr} {c:Nat} {cs:List Chg} (h:ChgsAt w p c cs) (hB:Below w.heap.size w w'):ChgsAt w' p c cs:=RdC.below h hB
theorem Zl1 (w:World):(Instr.alloc 247 true (.tuple #[])).run Tryz.prog w=.ok (.pointer (some ⟨w.heap.size,0,none⟩)) (w.alloc (.cells #[.int .i64 0,.int .i64 0,.int .i64 0] 247)):=by
 go_simp
theorem Zzk {w:World} {b off:Nat} {c:Chg} {i:Nat} (h:∀j,j<3->w.cell? ⟨b,off+i*3+j,none⟩=some ((chgC c).getD j undef)):w.rangeAt b (off+i*3) (chgC c).toList:=λj v hv=>by
 have hj:j<3:=(Yan.1 hv).1;refine(h j hj).trans ?_;rw[Yaq]at hv;rw[Yax,hv];rfl
theorem SrfsOwn.low {w:World} {base base':Nat} {p:Option Addr} {c:Nat} {l:List Srf} {i:Nat} {cp:Nat->Option Addr} {cl:Nat->Nat} (h:SrfsOwn w base p c l i cp cl) (hb:base'<=base):SrfsOwn w base' p c l i cp cl:=
 ⟨Zav h.row hb,h.nil,λk hk=>⟨Zav (h.coat k hk).1 hb,(h.coat k hk).2⟩⟩
theorem SrfsOwn.below {w w':World} {base:Nat} {p:Option Addr} {c:Nat} {l:List Srf} {i:Nat} {cp:Nat->Option Addr} {cl:Nat->Nat} (h:SrfsOwn w base p c l i cp cl) (hB:Below w.heap.size w w'):SrfsOwn w' base p c l i cp cl:=
 ⟨Zai h.row hB,h.nil,λk hk=>⟨Zai (h.coat k hk).1 hB,(h.coat k hk).2⟩⟩
theorem Zhm (l:List Srf) (hl:l.length<=16) (hs:∀s∈l,s.ok) (p:Option Addr) (c:Nat) (cp:Nat->Option Addr) (cl:Nat->Nat) (cs:List Chg) (hcn:cs.length<=12) (hci:∀i,i<cs.length->(cAt cs i).1<l.length∧In 32768000 (cAt cs i).2.2)
  (pc:Option Addr) (cc:Nat) (w:World) (h:SrfsAt w p c l cp cl) (hc:ChgsAt w pc cc cs) :
  Calls Tryz.prog 172 #[.slice p l.length c,.slice pc cs.length cc] w λe w'=>Below w.heap.size w w'∧(madeS l cs=none->e=.returned (.tuple #[.slice none 0 0,.bool false]))∧
   ∀m,madeS l cs=some m->∃p' c' cp' cl',e=.returned (.tuple #[.slice p' m.length c',.bool true])∧SrfsOwn w' w.heap.size p' c' m m.length cp' cl':=by
 have hzc:∀c:Chg,(Tryz.prog.info? 247).map (·.size)=some (chgC c).size:=λ_=>Zk;have hzl:∀c:Chg,(Tryz.prog.info? 247).map (·.size)=some (chgC c).toList.length:=λ_=>Zk;have h1c:∀c:Chg,(chgC c).all (·.oneCell')=true:=λc=>by simp[chgC,Value.oneCell']
 have hcopy:=λW (hW:Below w.heap.size w W)=>Zl0 l hl hs p c cp cl W (h.below hW);have hkept:∀{n:Nat} {m:List Srf},n<=cs.length->madeN l cs n=some m->KeptL l m:=λhn e=>Zfq hs (λi hi=>(hci i hi).2) hn e;have hfull:madeN l cs cs.length=madeS l cs:=rfl;generalize hS:madeS l cs=S at *;clear hS h;obtain⟨hcc,hcm,hcx⟩:=hc;have hdup:∀i m,madeN l cs i=some m->dupS cs i->madeN l cs (i+1)=none:=λi m e hd=>by
  show(madeN l cs i).bind _=_;rw[e,Yfq,if_pos hd]
 have hnew:∀i m,madeN l cs i=some m->¬dupS cs i->madeN l cs (i+1)=withS m (cAt cs i):=λi m e hd=>by
  show(madeN l cs i).bind _=_;rw[e,Yfq,if_neg hd];rfl
 generalize hn:cs.length=n at *;go_enter Tryz.func172,Tryz.ntmps172
 go_wp2_with fail
 refine(hcopy w (Yae _ _)).mono ?_;rintro e W1 ⟨p1,c1,cp1,cl1,rfl,hown1,hB1⟩;clear hcopy;go_wp2
 go_loopw [6,7] (λv x wr=>∃i:Nat,i<=n∧x=.int .i64 (i:Int)∧Below w.heap.size w wr∧∃m p' c' cp' cl',madeN l cs i=some m∧v=.slice p' m.length c'∧SrfsOwn wr w.heap.size p' c' m m.length cp' cl') (λ_ x _=>(n-intOf x).toNat)
 case atStart=>exact⟨0,Yat _,rfl,hB1,l,p1,c1,cp1,cl1,rfl,rfl,hown1⟩
 case round=>
  obtain⟨i,hi,rfl,hB,m,p',c',cp',cl',hm,rfl,hown⟩:=hrel;by_cases hin:i<n
  ·obtain⟨b,off,rfl,hb,hcell⟩:=hcx Zo
   have hi':(i:Int)<n:=Zo;have hce:=λW (hW:Below w.heap.size w W) k (hk:k<n) j (hj:j<3)=>(hW.cell (p:=⟨b,off+k*3+j,none⟩) hb).trans (hcell k j hk hj);have hrg:=Zzk (hce wr hB i hin);have hkm:=hkept Zo hm;clear hcell hcx;go_wp2_with first|(refine wpList_load_mid rfl 247 (.tmp 22) rfl b (off+i*3) rfl (chgC (cAt cs i)).toList _ hrg Tryz.underlying247 rfl (hzl _) ?_)|(refine Zak rfl 247 rfl _ Zl1 ?_;intro W2 B2 hle2 hB2 b2)|(refine Zab rfl 247 (.tmp 8) (.tmp 23) rfl B2 0 247 _ (chgC (cAt cs i)) (chgC (cAt cs i)) rfl rfl b2 (hzc _) (Yaa rfl) (h1c _) rfl ?_;intro W3 hk3 b3)
   have hw3:=hk3.below hB2 hle2 hB2.size;have hB3:=Zaa hB hw3;go_loopw [9] (λx w6=>∃j:Nat,j<=i∧x=.int .i64 (j:Int)∧(∀k,k<j->¬((cAt cs k).1=(cAt cs i).1∧(cAt cs k).2.1=(cAt cs i).2.1))∧∃q,w6=W3.drewN q) (λx _=>(i-intOf x).toNat)
   case atStart=>exact⟨0,Yat _,rfl,λk hk=>Zo,0,rfl⟩
   case round=>
    obtain⟨j,hj,rfl,hne,q,rfl⟩:=hrel;have hBq:Below w.heap.size w (W3.drewN q):=below_drewN hB3 q;have k0:W3.cell? ⟨B2,0,none⟩=some (.int .i64 ((cAt cs i).1:Int)):=b3.cell 0;have k1:W3.cell? ⟨B2,1,none⟩=some (.int .i64 (cAt cs i).2.1):=b3.cell 1;have k2:W3.cell? ⟨B2,2,none⟩=some (.int .i64 (cAt cs i).2.2):=b3.cell 2;have lq:=b3.lt;by_cases hji:j<i
    ·have a0:W3.cell? ⟨b,off+j*3+0,none⟩=some (.int .i64 ((cAt cs j).1:Int)):=hce _ hB3 j Zo 0 Zd
     have a1:W3.cell? ⟨b,off+j*3+1,none⟩=some (.int .i64 (cAt cs j).2.1):=hce _ hB3 j Zo 1 Zd;rw[Yce]at a0;have hji':(j:Int)<i:=Zo;have hjn':(j:Int)<n:=Zo;by_cases e0:(cAt cs j).1=(cAt cs i).1
     ·by_cases e1 : (cAt cs j).2.1 = (cAt cs i).2.1
      ·have hS0:S=none:=by rw[<-hfull];exact Zfp (show i+1<=n by omega) (hdup i m hm ⟨j,hji,e0,e1⟩)
       rw[e0]at a0;rw[e1]at a1;clear hce hkept hdup hnew hne;generalize (((cAt cs i).1:Nat):Int)=z0 at *;generalize (cAt cs i).2.1=z1 at *;go_wp2
       go_quiet (fail)
       go_wp2
       go_ret2
       exact⟨below_drewN hBq _,λ_=>rfl,λm hm=>by rw[hS0]at hm;cases hm⟩
      ·rw[e0]at a0
       have hne':∀k,k<j+1->¬((cAt cs k).1=(cAt cs i).1∧(cAt cs k).2.1=(cAt cs i).2.1):=λk hk=>by
        by_cases hkj:k=j
        ·subst hkj
         exact λh=>e1 h.2
        ·exact hne k Zo
       replace hne':=Yah hne';clear hce hkept hdup hnew hne;generalize (((cAt cs i).1:Nat):Int)=z0 at *;generalize (cAt cs i).2.1=z1 at *;generalize (cAt cs j).2.1=z2 at *;have e2:(z2==z1)=false:=beq_eq_false_iff_ne.2 e1;go_wp2
       go_quiet (fail)
       go_wp2
       go_roundw
       case rel=>exact⟨j+1,Zo,Zs,hne'.out,_,rfl⟩
       case measure=>simp[intOf];omega
     ·have hne':∀k,k<j+1->¬((cAt cs k).1=(cAt cs i).1∧(cAt cs k).2.1=(cAt cs i).2.1):=λk hk=>by
       by_cases hkj:k=j
       ·subst hkj
        exact λh=>e0 h.1
       ·exact hne k Zo
      replace hne':=Yah hne';have e2:(((cAt cs j).1:Int)==((cAt cs i).1:Int))=false:=beq_eq_false_iff_ne.2 Zo;have e3:¬(((cAt cs j).1:Int)=((cAt cs i).1:Int)):=Zo;clear hce hkept hdup hnew hne;generalize (((cAt cs i).1:Nat):Int)=z0 at *;generalize (((cAt cs j).1:Nat):Int)=z1 at *;go_wp2
      go_quiet (fail)
      go_wp2
      go_roundw
      case rel=>exact⟨j+1,Zo,Zs,hne'.out,_,rfl⟩
      case measure=>simp[intOf];omega
    ·obtain rfl:j=i:=by omega
     have hnd:¬dupS cs j:=by
      rintro⟨k,hk,h1,h2⟩;exact hne k hk ⟨h1,h2⟩
     have hstep:=hnew j m hm hnd;have hlen:=hkm.len;have hA:=hown.at Zo hkm.ok;have hlt:=(hci j hin).1;have hvv:=(hci j hin).2;have hW:=λW (hW:Below W3.heap.size W3 W)=>Zs9 m Zo hkm.ok p' c' cp' cl' (cAt cs j).1 Zo (cAt cs j).2.1 (cAt cs j).2.2 hvv W (hA.below (Zaa hw3 hW));have hmN:=@Zfp l cs (j+1) n Zo;clear hce hkept hdup hnew hne hci hkm hA hown hcc hcm hlt hvv hlen;generalize hc':cAt cs j=cj at *;go_wp2_with fail
     refine(hW _ (below_drewN (Yae _ _) q)).mono ?_;rintro e W4 ⟨hb4,hno,hyes⟩;have hB4:=Zaa hBq hb4;cases hst:withS m cj with
     | none =>
       obtain rfl:=hno hst;have hS0:S=none:=by rw[<-hfull];exact hmN (hstep.trans hst)
       go_wp2
       go_ret2
       exact⟨hB4,λ_=>rfl,λm hm=>by rw[hS0]at hm;cases hm⟩
     | some m2 =>
       obtain⟨p5,c5,cp5,cl5,rfl,hown5⟩:=hyes m2 hst;go_wp2
       go_roundw
       case rel=>exact⟨j+1,Zo,Zs,hB4,m2,p5,c5,cp5,cl5,hstep.trans hst,rfl,hown5.low hBq.size⟩
       case measure=>simp[intOf];omega
  ·obtain rfl:i=n:=by omega
   have hS0:S=some m:=by rw[<-hfull];exact hm
   have hn12:(i:Int)<=12:=Zo;clear hcx;go_wp2
   go_ret2
   refine⟨hB,(λh=>by rw[hS0]at h;cases h),λm' hm'=>?_⟩;rw[hS0]at hm';cases hm';exact⟨p',c',cp',cl',rfl,hown⟩
theorem Znf (s:Srf) (hs:s.ok) (h1:s.kind=1) (h2:s.glass = {data:=#[]}) (h3:s.thick=0) (h4:s.order=0) (h5:s.co=[]) (p:Option Addr) (c:Nat) (w:World) :
  Calls Tryz.prog 198 #[.agg (s.cs p c)] w λe w'=>e=.returned (.bool true)∧Below w.heap.size w w':=by
 have hi:(Tryz.prog.info? 85).map (·.size)=some (s.cs p c).size:=Zk;have hr:=λW=>Zct s hs p c W (by rw[h5];exact CoatAt.nil _ _ _);have g0:(s.cs p c)[0]? = some (.int .i64 1):=by rw[<-h1];rfl
 have g11:(s.cs p c)[11]? = some (.int .i64 0):=by rw[<-h4];rfl
 have g12:(s.cs p c)[12]? = some (.int .i64 0):=by rw[<-h3];rfl
 have g13:(s.cs p c)[13]? = some (.string {data:=#[]}):=by rw[<-h2];rfl
 have g21:(s.cs p c)[21]? = some (.slice p 0 c):=by
  have:(s.cs p c)[21]? = some (.slice p s.co.length c):=rfl;rw[this,h5];rfl
 clear h1 h2 h3 h4 h5 hs;generalize s.cs p c=A at *;go_enter Tryz.func198,Tryz.ntmps198
 go_wp2_with (refine Zd5 (T0:=85) λW hB hsz b0=>?_;refine Zac rfl 85 (.tmp 1) rfl w.heap.size rfl 85 A b0 _ Tryz.underlying85 rfl hi ?_)
 refine(hr W).mono ?_;rintro e W1 ⟨rfl,hb⟩;replace hB:=Zaa hB hb;replace b0:=b0.below hb;have c0:=(b0.cell 0).trans g0;have c11:=(b0.cell 11).trans g11;have c12:=(b0.cell 12).trans g12;have c13:=(b0.cell 13).trans g13;have c21:=(b0.cell 21).trans g21;have lw:=b0.lt;clear hr g0 g11 g12 g13 g21 hi;go_wp2
 go_ret
 exact⟨rfl,hB⟩
def lcs (nm:ByteArray) (di pu st pr:Int) (pf:Option Addr) (nf cf:Nat) (pw:Option Addr) (nw cw:Nat) (ps:Option Addr) (ns cs:Nat) (pc:Option Addr) (nc cc:Nat):Array Value:=
 #[.string nm,.int .i64 di,.int .i64 pu,.int .i64 st,.int .i64 pr,.slice pf nf cf,.slice pw nw cw,.slice ps ns cs,.slice pc nc cc]
theorem Zib (nm:ByteArray) (di pu pr:Int) (st:Nat) (pf:Option Addr) (nf cf:Nat) (pw:Option Addr) (nw cw:Nat) (pc:Option Addr) (nc cc:Nat) (l:List Srf) (hl:2<=l.length∧l.length<=16) (hs:∀s∈l,s.ok) (hst:st+2<=l.length) (hk:(sAt l st).kind≠3)
  (hm:(sAt l (l.length-1)).kind=1∧(sAt l (l.length-1)).glass = {data:=#[]}∧(sAt l (l.length-1)).thick=0∧(sAt l (l.length-1)).order=0∧(sAt l (l.length-1)).co=[])
  (p:Option Addr) (c:Nat) (cp:Nat->Option Addr) (cl:Nat->Nat) (w:World) (h:SrfsAt w p c l cp cl) :
  Calls Tryz.prog 177 #[.agg (lcs nm di pu (st:Int) pr pf nf cf pw nw cw p l.length c pc nc cc)] w λe w'=>e=.returned (.bool true)∧Below w.heap.size w w':=by
 have hsL:∀(s:Srf) p c,(Tryz.prog.info? 85).map (·.size)=some (s.cs p c).toList.length:=λ_ _ _=>Zk;obtain⟨b,off,rfl,hb,hrg⟩:=h.range Zo;have hcap:=h.row.1;have hright:=λi (hi:i<l.length) W (hW:Below w.heap.size w W)=>Zct (sAt l i) (Zix hs hi) (cp i) (cl i) W ((h.coat i hi).below hW);have him:=λW=>Znf (sAt l (l.length-1)) (Zix hs Zo) hm.1 hm.2.1 hm.2.2.1 hm.2.2.2.1 hm.2.2.2.2 (cp (l.length-1)) (cl (l.length-1)) W;have hkd:∀W,Below w.heap.size w W->W.cell? ⟨b,off+st*22,none⟩=some (.int .i64 (sAt l st).kind):=λW hW=>by
  have:=hrg st Zo W hW 0 _ rfl;simpa using this
 clear h;generalize hn:l.length=n at *;obtain⟨m,rfl⟩:∃m,n=m+1:=⟨n-1,Zo⟩
 rw[Ybf]at him hm;have e1:IntKind.i64.wrap ((m:Int)+1-2)=(m:Int)-1:=by rw[Ybi];omega
 have e2:IntKind.i64.wrap ((m:Int)+1-1)=(m:Int):=by rw[Ybi];omega
 have w1:=λW=>Za5 ((m:Int)+1) 2 16 Zo Zo W;have w2:=λW=>Za5 (st:Int) 0 ((m:Int)-1) Zo Zo W;have hk':((sAt l st).kind==3)=false:=beq_eq_false_iff_ne.2 hk;have hst':(st:Int)<(m:Int)+1:=Zo;have hmm:(m:Int)<(m:Int)+1:=Zo;have hmr:=hrg m Zo;have hsm:=hsL (sAt l m) (cp m) (cl m);generalize hkz:(sAt l st).kind=kz at *;replace hm:=Yah hm;replace hn:=Yah hn;unfold lcs;go_enter Tryz.func177,Tryz.ntmps177
 go_wp2_with fail
 refine Zbz λW hB hsz bS=>?_;have cS:=bS.cell;have lS:=bS.lt;have hkw:=hkd W hB;have hmw:=hmr W hB;have hbW:=Yaf hb hB.size;clear hkd hmr;refine(w1 W).mono ?_;rintro e w5 ⟨rfl,h5⟩;rw[h5];clear h5 w5;go_wp2_with first|(go_at_call 174;with_reducible refine(w2 _).mono ?_;rintro e w5 ⟨rfl,h5⟩;rw[h5];clear h5 w5)|(refine Zbe (by rfl) 85 (.tmp 34) rfl b (off+m*22) rfl _ _ hmw Tryz.underlying85 rfl hsm ?_)
 refine(him W).mono ?_;rintro e W2 ⟨rfl,hb2⟩;have hB2:=Zaa hB hb2;replace bS:=bS.below hb2;clear cS lS hkw hmw hbW him;have cS:=bS.cell;have lS:=bS.lt;go_wp2
 go_loopw [4] (λx wr=>∃i:Nat,i<=m+1∧x=.int .i64 (i:Int)∧Below W2.heap.size W2 wr) (λx _=>(m+1-intOf x).toNat)
 case atStart=>exact⟨0,Zo,rfl,Yae _ _⟩
 case round=>
  obtain⟨i,hi,rfl,hBr⟩:=hrel;have hBw:=Zaa hB2 hBr;have bSr:=bS.below hBr;have cSr:=bSr.cell;have lSr:=bSr.lt;clear cS lS;by_cases hin:i<m+1
  ·have hrgi:=hrg i hin wr hBw
   have hri:=hright i hin;have hi':(i:Int)<(m:Int)+1:=Zo;have hsi:=hsL (sAt l i) (cp i) (cl i);clear hrg hright;go_wp2_with (refine wpList_load_mid rfl 85 (.tmp 47) rfl b (off+i*22) rfl _ _ hrgi Tryz.underlying85 rfl hsi ?_)
   refine(hri wr hBw).mono ?_;rintro e W4 ⟨rfl,hb4⟩;go_wp2
   go_roundw
   case rel=>exact⟨i+1,Zo,Zs,Zaa hBr hb4⟩
   case measure=>simp[intOf];omega
  ·obtain rfl:i=m+1:=by omega
   have hi':¬(((m+1:Nat):Int)<(m:Int)+1):=Zo;clear hrg hright;go_wp2
   go_ret
   exact⟨rfl,hBw⟩
theorem Zl2 (nm:ByteArray) (di pu st pr:Int) (pf:Option Addr) (n cf:Nat) (pw:Option Addr) (nw cw:Nat) (ps:Option Addr) (ns cs:Nat) (pc:Option Addr) (nc cc:Nat) (X Y:Nat->Int) (hn:1<=n∧n<=5) (M:Int) (hM:M=if di=0 then 1000000 else 1000000000)
  (hr:∀i,i<n->In M (X i)∧In M (Y i)) (hd:∀i k,k<i->i<n->¬(X i=X k∧Y i=Y k)) (w:World) (h:RdC w pf n cf 2 (λi j=>if j=0 then .int .i64 (X i) else .int .i64 (Y i))) :
  Calls Tryz.prog 175 #[.agg (lcs nm di pu st pr pf n cf pw nw cw ps ns cs pc nc cc)] w λe w'=>e=.returned (.bool true)∧Below w.heap.size w w':=by
 obtain⟨hcap,_,hx⟩:=h;obtain⟨b,off,rfl,hb,hcell⟩:=hx Zo;have hce:=λW (hW:Below w.heap.size w W) k (hk:k<n) j (hj:j<2)=>(hW.cell (p:=⟨b,off+k*2+j,none⟩) hb).trans (hcell k j hk hj);clear hcell hx;have hcs:di=0∧M=1000000∨(di==0)=false∧M=1000000000:=by
  rw[hM];by_cases h0:di=0
  ·exact .inl ⟨h0,by rw[if_pos h0]⟩
  ·exact .inr ⟨beq_eq_false_iff_ne.2 h0,by rw[if_neg h0]⟩
 clear hM;replace hd:=Yah hd;unfold lcs;rcases hcs with ⟨rfl,rfl⟩|⟨hdi,rfl⟩
 all_goals
  go_enter Tryz.func175,Tryz.ntmps175
  go_wp2_with fail
  refine Zb3 λW hB hsz bS=>?_;have cS:=bS.cell;have lS:=bS.lt;have hbW:=Yaf hb hB.size;have ce0:∀k,k<n->W.cell? ⟨b,off+k*2,none⟩=some (.int .i64 (X k)):=λk hk=>by simpa using hce W hB k hk 0 Zd
  have ce1:∀k,k<n->W.cell? ⟨b,off+k*2+1,none⟩=some (.int .i64 (Y k)):=λk hk=>by simpa using hce W hB k hk 1 Zd
  clear hce;go_loopw [4] (λx wr=>∃i:Nat,i<=n∧x=.int .i64 (i:Int)∧∃q,wr=W.drewN q) (λx _=>(n-intOf x).toNat)
  case atStart=>exact⟨0,Zo,rfl,0,rfl⟩
  case round=>
   obtain⟨i,hi,rfl,q,rfl⟩:=hrel;by_cases hin:i<n
   ·have x0:=ce0 i hin
    have y0:=ce1 i hin;have hi':(i:Int)<n:=Zo;have q1:=λV=>Za5 (X i) _ _ (hr i hin).1.1 (hr i hin).1.2 V;have q2:=λV=>Za5 (Y i) _ _ (hr i hin).2.1 (hr i hin).2.2 V;clear hr;go_wp2_with (go_at_call 174;(first|with_reducible refine(q1 _).mono ?_|with_reducible refine(q2 _).mono ?_);rintro e w5 ⟨rfl,h5⟩;rw[h5];clear h5 w5)
    clear q1 q2;go_loopw [5] (λx w6=>∃j:Nat,j<=i∧x=.int .i64 (j:Int)∧∃q',w6=W.drewN q') (λx _=>(i-intOf x).toNat)
    case atStart=>exact⟨0,Zo,rfl,q,rfl⟩
    case round=>
     obtain⟨j,hj,rfl,q',rfl⟩:=hrel;by_cases hji:j<i
     ·have x1:=ce0 j Zo
      have y1:=ce1 j Zo;have hji':(j:Int)<i:=Zo;have hjn':(j:Int)<n:=Zo;have hne:=hd.out i j hji hin;clear ce0 ce1 hd;generalize X i=xi at *;generalize Y i=yi at *;generalize X j=xj at *;generalize Y j=yj at *;by_cases hx:xi=xj
      ·subst hx
       have hy:(yi==yj)=false:=beq_eq_false_iff_ne.2 λe=>hne ⟨rfl,e⟩;have hy':¬yi=yj:=λe=>hne ⟨rfl,e⟩;clear hne;go_wp2
       go_quiet (fail)
       go_wp2
       go_roundw
       case rel=>exact⟨j+1,Zo,Zs,_,rfl⟩
       case measure=>simp[intOf];omega
      ·have hx':(xi==xj)=false:=beq_eq_false_iff_ne.2 hx
       clear hne;go_wp2
       go_quiet (fail)
       go_wp2
       go_roundw
       case rel=>exact⟨j+1,Zo,Zs,_,rfl⟩
       case measure=>simp[intOf];omega
     ·obtain rfl:j=i:=by omega
      clear ce0 ce1 hd;go_wp2
      go_roundw
      case rel=>exact⟨j+1,Zo,Zs,_,rfl⟩
      case measure=>simp[intOf];omega
   ·obtain rfl:i=n:=by omega
    have w1:=λV=>Za5 (i:Int) 1 5 Zo Zo V;clear ce0 ce1 hd hr;go_wp2_with (go_at_call 174;with_reducible refine(w1 _).mono ?_;rintro e w5 ⟨rfl,h5⟩;rw[h5];clear h5 w5)
    go_ret
    exact⟨rfl,below_drewN hB _⟩
end Go.Proofs.W
