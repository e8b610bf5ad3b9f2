/- The drafted optics of chapter 13: what it is and that it is valid. Part 12 of 14. No condition beside the row. -/
import Derived.Test.YtpfpiecljfimjaaGreatDoorD01
import Derived.Test.YtpfpiecljfimjaaGreatDoorD11
set_option linter.unusedVariables false
set_option linter.unusedSimpArgs false
set_option maxRecDepth 100000
set_option maxHeartbeats 4000000
namespace Go.Mono
open Go.RowKit
theorem Zfa {z:Int} (h1 : -9223372036854775808<=z) (h2:z<=9223372036854775807):IntKind.i64.wrap z=z:=by
 simp[IntKind.wrap,IntKind.bits,IntKind.signed];omega
theorem Zfs {l:List Srf} {c:Chg}:∀(r done:List Chg),(madeS l (dConf l done r++[c])≠none->dConf l done (r++[c])=dConf l done r++[c])∧(madeS l (dConf l done r++[c])=none->dConf l done (r++[c])=dConf l done r)
 | [], done => by
   have e0:dConf l done []=done:=by unfold dConf;rfl
   have e1:dConf l done ([]++[c])=if(madeS l (done++[c])).isSome then done++[c] else done:=by
    show dConf l done (c::[])=_;unfold dConf;simp only[show ∀d,dConf l d []=d from λd=>by unfold dConf;rfl]
   rw[e0,e1];constructor
   ·intro h
    rw[if_pos (Option.isSome_iff_ne_none.2 h)]
   ·intro h
    rw[h];rfl
 | x :: r, done => by
   have e:∀y,dConf l done (x::y)=if(madeS l (done++[x])).isSome then dConf l (done++[x]) y else dConf l done y:=λy=>by
    rw[dConf]
   rw[Ydi,e,e];split
   ·exact Zfs r _
   ·exact Zfs r _
noncomputable def LD.confN (d:LD) (x:List (Int×Int×Int)) (k:Nat):List Chg:=dConf d.srfs [] ((x.take k).map d.chg)
theorem LD.confN_zero (d:LD) (x:List (Int×Int×Int)):d.confN x 0=[]:=by unfold LD.confN;rw[List.take_zero,Yfp,dConf]
theorem LD.confN_succ {d:LD} {x:List (Int×Int×Int)} {k:Nat} (hk:k<x.length):(madeS d.srfs (d.confN x k++[d.chg (x.getD k (0,0,0))])≠none->d.confN x (k+1)=d.confN x k++[d.chg (x.getD k (0,0,0))])∧(madeS d.srfs (d.confN x k++[d.chg (x.getD k (0,0,0))])=none->d.confN x (k+1)=d.confN x k):=by
 have e:(x.take (k+1)).map d.chg=(x.take k).map d.chg++[d.chg (x.getD k (0,0,0))]:=by
  rw[Yfh hk,List.map_append,Yac,Yao hk];rfl
 unfold LD.confN;rw[e];exact Zfs _ _
theorem LD.confN_end (d:LD) (x:List (Int×Int×Int)) {k:Nat} (hk:k=min x.length 4):d.confN x k=d.conf x:=by
 unfold LD.confN LD.conf;congr 2
 rw[hk];by_cases h:x.length<=4
 ·rw[Nat.min_eq_left h,Ycm (Yab _),Ycm h]
 ·rw[Nat.min_eq_right Zo]
theorem LD.confN_len (d:LD) (x:List (Int×Int×Int)) (k:Nat):(d.confN x k).length<=k:=by
 have:=Ze7 (l:=d.srfs) ((x.take k).map d.chg) [];simp only[Ydf,Ybt,Ycq]at this;unfold LD.confN;omega
theorem LD.confN_mem (d:LD) (x:List (Int×Int×Int)) (k:Nat) (c:Chg) (h:c∈d.confN x k):∃y∈x,c=d.chg y:=by
 unfold LD.confN at h;rcases Ze8 _ _ _ h with h|h
 ·cases h
 ·obtain⟨y,hy,rfl⟩:=Ydl.1 h
  exact⟨y,Yfu hy,rfl⟩
end Go.Mono
namespace Go.Proofs.W
open Go.RowKit Go.Mono
theorem Zmv:(Tryz.prog.info? 188).map (λi=>(i.zero,i.size,i.bytes))=some (some (.agg #[.int .i64 0,.int .i64 0,.int .i64 0]),3,24):=Zk
theorem Zmw:(Tryz.prog.info? 183).map (λi=>(i.zero,i.size,i.bytes))=some (some (.agg #[.string {data:=#[]},.slice none 0 0]),2,40):=Zk
theorem Zsm (w:World):(Instr.alloc 186 true (.tuple #[])).run Tryz.prog w=.ok (.pointer (some ⟨w.heap.size,0,none⟩)) (w.alloc (.cells #[.int .u8 0,.int .u8 0,.int .i16 0] 186)):=by
 go_simp
theorem Zlf (w:World):(Instr.alloc 183 true (.tuple #[])).run Tryz.prog w=.ok (.pointer (some ⟨w.heap.size,0,none⟩)) (w.alloc (.cells #[.string {data:=#[]},.slice none 0 0] 183)):=by
 go_simp
def chgL (cs:List Chg) (k:Nat):List Value:=(chgC (cAt cs k)).toList
theorem Zsn (c:Chg):∀u∈(chgC c).toList,u.oneCell'=true:=λu hu=>by
 simp[chgC]at hu;rcases hu with rfl|rfl|rfl<;>rfl
def ChgOwn (w:World) (base:Nat) (p:Option Addr) (c:Nat) (cs:List Chg):Prop:=
 w.ownsRow base 188 3 (.slice p cs.length c) cs.length (crow (chgL cs) cs.length)∧(p=none->cs.length=0∧c=0)
theorem ChgOwn.at {w:World} {base:Nat} {p:Option Addr} {c:Nat} {cs:List Chg} (h:ChgOwn w base p c cs) (hl:cs.length<=1000):ChgsAt w p c cs:=
 Zay (C:=chgL cs) (λ_=>rfl) (λi j hi hj=>by
  unfold chgL;rw[Yac,Yaq,Yax]) h.1 hl
theorem ChgOwn.low {w:World} {base base':Nat} {p:Option Addr} {c:Nat} {cs:List Chg} (h:ChgOwn w base p c cs) (hb:base'<=base):ChgOwn w base' p c cs:=⟨Zau h.1 hb,h.2⟩
theorem ChgOwn.below {w w':World} {base:Nat} {p:Option Addr} {c:Nat} {cs:List Chg} (h:ChgOwn w base p c cs) (hB:Below w.heap.size w w'):ChgOwn w' base p c cs:=⟨Zak h.1 hB,h.2⟩
theorem ChgOwn.keep {w w':World} {base:Nat} {p:Option Addr} {c:Nat} {cs:List Chg} {R:Nat} {T:TypeId} {A:Array Value} (h:ChgOwn w base p c cs) (b:Box w R T A) (hT:T≠188) (hk:KeepBut R w.heap.size w w'):ChgOwn w' base p c cs:=
 ⟨Zax h.1 b hT hk,h.2⟩
theorem Zw4 (cs:List Chg) (x:Chg):∀k,k<cs.length+1->ccat (chgL cs) cs.length (λ_=>(chgC x).toList) k=chgL (cs++[x]) k:=λk hk=>by
 unfold ccat;by_cases h:k<cs.length
 ·rw[if_pos h]
  unfold chgL cAt;rw[Yac,Yac,Ybb h]
 ·obtain rfl:k=cs.length:=by omega
  rw[if_neg h];unfold chgL cAt;rw[Yac,Ybc (Yab _),Ydt];rfl
theorem Zn8 (ty:TypeId) (V:World) (base:Nat) (v:Value) (n:Nat) (C:Nat->List Value) (hown:V.ownsRow base 188 3 v n (crow C n)) (q:Option Addr) (m c:Nat) (H:Nat->List Value) (hH:∀i,(H i).length=3) (hH1:∀i,i<m->∀u∈H i,u.oneCell'=true)
  (hq:RdC V q m c 3 (λi j=>(H i).getD j undef)) (hnil:q=none->m=0∧c=0) (hbase:base<=V.heap.size) (hnm:n+m<=1000) :
  ∃p' c' W,(Builtin.append_ #[181,181] ty #[v,.slice q m c]).run Tryz.prog V=.ok (.slice p' (n+m) c') W∧W.ownsRow base 188 3 (.slice p' (n+m) c') (n+m) (crow (ccat C n H) (n+m))∧Below base V W∧V.grownBy W v.ownBlock∧(p'=none->n+m=0∧c'=0):=by
 obtain⟨fi,hfi,hfz,hfs,hfb⟩:=Zbb Zmv;obtain⟨p',c',W,h1,h2,h3,h4⟩:=Zsb (P:=Tryz.prog) (Tryz.underlying181) hfi hfz hfs hfb rfl Zd ty hown hH hH1 hq hnil hbase hnm Zo;exact⟨p',c',W,h1,h2,(Yae _ _).grown h3 hbase λk e'=>(Zbx hown e').2.1,h3,h4⟩
theorem Zps {w:World} {base:Nat} {v:Value} {n size:Nat} {e:TypeId} {vals:List Value} (h:w.ownsRow base e size v n vals) (o:Obj):(w.alloc o).ownsRow base e size v n vals:=Zak h ((Yae _ _).alloc (Yab _) _)
theorem Zlg (C H:Nat->List Value) (n:Nat):crow (ccat C 0 H) n=crow H n:=Zas λk hk=>by unfold ccat;rw[if_neg Zo,Nat.sub_zero]
theorem Zw5 {w:World} {base base':Nat} {p:Option Addr} {c:Nat} {E:List Chg} {C:Chg} (h:w.ownsRow base 188 3 (.slice p (E.length+1) c) (E.length+1) (crow (ccat (chgL E) E.length (λ_=>(chgC C).toList)) (E.length+1))) (hn:p=none->E.length+1=0∧c=0) (hb:base'<=base):ChgOwn w base' p c (E++[C]):=by
 rw[Zas (Zw4 E C)]at h;unfold ChgOwn;rw[show(E++[C]).length=E.length+1 by simp];exact⟨Zau h hb,hn⟩
theorem Zjl (ty:TypeId) (V:World) (base:Nat) (p:Option Addr) (c:Nat) (E:List Chg) (C:Chg) (hE:E.length<=900) (hown:V.ownsRow base 188 3 (.slice p E.length c) E.length (crow (chgL E) E.length)) (B:Nat) (b:Box V B 188 (chgC C)) (hbase:base<=V.heap.size) :
  ∃p' c' W,(Builtin.append_ #[181,181] ty #[.slice p E.length c,.slice (some ⟨B,0,none⟩) 1 1]).run Tryz.prog V=.ok (.slice p' (E.length+1) c') W∧(∀base',base'<=base->ChgOwn W base' p' c' (E++[C]))∧Below base V W:=by
 obtain⟨p',c',W,h1,h2,h3,_,h4⟩:=Zn8 ty V base _ E.length (chgL E) hown (some ⟨B,0,none⟩) 1 1 (λ_=>(chgC C).toList) (λ_=>rfl) (λ_ _=>Zsn _) (Zb0 b rfl) (λh=>by cases h) hbase Zo;exact⟨p',c',W,h1,λbase' hb=>Zw5 h2 h4 hb,h3⟩
theorem Zjm (ty:TypeId) (V:World) (base B:Nat) (b:Box V B 188 #[]) (hB:base<=B) (p:Option Addr) (c:Nat) (E:List Chg) (hE:E.length<=900) {bq:Nat} (hown:ChgOwn V bq p c E) (hbase:base<=V.heap.size) :
  ∃p' c' W,(Builtin.append_ #[181,181] ty #[.slice (some ⟨B,0,none⟩) 0 0,.slice p E.length c]).run Tryz.prog V=.ok (.slice p' E.length c') W∧W.ownsRow base 188 3 (.slice p' E.length c') E.length (crow (chgL E) E.length)∧Below base V W∧V.grownBy W (some B):=by
 obtain⟨p',c',W,h1,h2,h3,h4,_⟩:=Zn8 ty V base _ 0 (chgL E) (Zcw b hB Zd (λ_=>rfl) rfl) p E.length c (chgL E) (λ_=>rfl) (λ_ _=>Zsn _) (Zeb (λ_=>rfl) hown.1 Zo) hown.2 hbase Zo;rw[Yba]at h1 h2;rw[Zlg]at h2;exact⟨p',c',W,h1,h2,h3,h4⟩
def cfC (nm:Nat->ByteArray) (cs:Nat->List Chg) (pp:Nat->Option Addr) (cq:Nat->Nat) (k:Nat):List Value:=[.string (nm k),.slice (pp k) (cs k).length (cq k)]
structure ConfsOwn (w:World) (base:Nat) (p:Option Addr) (c n:Nat) (nm:Nat->ByteArray) (cs:Nat->List Chg) (pp:Nat->Option Addr) (cq:Nat->Nat):Prop where
 row:w.ownsRow base 183 2 (.slice p n c) n (crow (cfC nm cs pp cq) n)
 nil:p=none->n=0∧c=0
 chg:∀k,k<n->ChgOwn w base (pp k) (cq k) (cs k)
theorem ConfsOwn.at {w:World} {base:Nat} {p:Option Addr} {c n:Nat} {nm:Nat->ByteArray} {cs:Nat->List Chg} {pp:Nat->Option Addr} {cq:Nat->Nat} (h:ConfsOwn w base p c n nm cs pp cq) (hn:n<=1000) (hl:∀k,k<n->(cs k).length<=1000):ConfsAt w p c n nm cs pp cq where
 row:=Zay (C:=cfC nm cs pp cq) (λ_=>rfl) (λi j hi hj=>by
  rcases(by omega:j=0∨j=1) with rfl|rfl
  ·rw[if_pos rfl];rfl
  ·rw[if_neg Zd];rfl) h.row hn
 chg:=λi hi=>(h.chg i hi).at (hl i hi)
theorem ConfsOwn.below {w w':World} {base:Nat} {p:Option Addr} {c n:Nat} {nm:Nat->ByteArray} {cs:Nat->List Chg} {pp:Nat->Option Addr} {cq:Nat->Nat} (h:ConfsOwn w base p c n nm cs pp cq) (hB:Below w.heap.size w w'):ConfsOwn w' base p c n nm cs pp cq:=
 ⟨Zak h.row hB,h.nil,λk hk=>(h.chg k hk).below hB⟩
theorem ConfsOwn.low {w:World} {base base':Nat} {p:Option Addr} {c n:Nat} {nm:Nat->ByteArray} {cs:Nat->List Chg} {pp:Nat->Option Addr} {cq:Nat->Nat} (h:ConfsOwn w base p c n nm cs pp cq) (hb:base'<=base):ConfsOwn w base' p c n nm cs pp cq:=
 ⟨Zau h.row hb,h.nil,λk hk=>(h.chg k hk).low hb⟩
theorem ConfsOwn.keep {w w':World} {base:Nat} {p:Option Addr} {c n:Nat} {nm:Nat->ByteArray} {cs:Nat->List Chg} {pp:Nat->Option Addr} {cq:Nat->Nat} {R:Nat} {T:TypeId} {A:Array Value} (h:ConfsOwn w base p c n nm cs pp cq) (b:Box w R T A) (hT:T≠183∧T≠188) (hk:KeepBut R w.heap.size w w'):ConfsOwn w' base p c n nm cs pp cq:=
 ⟨Zax h.row b hT.1 hk,h.nil,λk hi=>(h.chg k hi).keep b hT.2 hk⟩
theorem Zw6 (nm:ByteArray) (p:Option Addr) (n c:Nat):∀u∈[Value.string nm,.slice p n c],u.oneCell'=true:=λu hu=>by
 simp at hu;rcases hu with rfl|rfl<;>rfl
def nmD (i:Nat):ByteArray:=if i=0 then nmNear else nmFar
theorem Zjn (A:Array Value) (d:LD) (hd:d.ok) (q:LDP) (g8:A[8]? = some (.slice q.qc d.configs.length q.kc)) (p:Option Addr) (c:Nat) (cp:Nat->Option Addr) (cl:Nat->Nat) (w:World) (hl:LDAt w d q) (h:SrfsAt w p c d.srfs cp cl) :
  Calls Tryz.prog 71 #[.agg A,.slice p d.srfs.length c] w λe w'=>∃p' c' pp cq,e=.returned (.slice p' (min d.configs.length 2) c')∧ConfsOwn w' w.heap.size p' c' (min d.configs.length 2) nmD (λi=>d.conf (d.configs.getD i [])) pp cq∧Below w.heap.size w w':=by
 have hsr:=LD.srfs_ok hd;have hraw:=LD.raw_ok hd;obtain⟨hcap,hbig,hx⟩:=hl.configs;have hputs:=hl.puts;have hns1:1<=d.srfs.length:=Zo;have hns16:d.srfs.length<=16:=Zo;have hcfg:∀i,i<d.configs.length->∀y∈d.configs.getD i [],U8 y.1∧U8 y.2.1∧R16 y.2.2:=λi hi y hy=>by
  rw[Yac,Yao hi]at hy;exact hd.configs _ (Ybw hi) y hy
 have hchg:∀y,U8 y.1∧U8 y.2.1∧R16 y.2.2->(d.chg y).1<d.srfs.length∧In 32768000 (d.chg y).2.2:=λy ⟨_,_,h3⟩=>by
  obtain⟨h4,h5⟩:=h3;unfold LD.chg;refine⟨?_,?_,?_⟩
  ·dsimp only
   have h2:=Ybu y.1 (show(0:Int)<d.srfs.length by omega);have h3:=Ycc y.1 (show(d.srfs.length:Int)≠0 by omega);omega
  ·dsimp only;omega
  ·dsimp only;omega
 have hmem:=λ(x:List (Int×Int×Int)) k c (h:c∈d.confN x k)=>d.confN_mem x k c h;have hmade:=λ(cs:List Chg) (hcn:cs.length<=12) hci (pc:Option Addr) (cc:Nat) (W:World) (hW:Below w.heap.size w W) (hc:ChgsAt W pc cc cs)=>Zhb d.srfs hns16 hsr.1 p c cp cl cs hcn hci pc cc W (h.below hW) hc;obtain⟨fi,hfi,hfz,hfs,hfb⟩:=Zbb Zmw;have htf:Tryz.prog.underlying 36=some (.slice 183):=Tryz.underlying36;have hz2:∀(nm:ByteArray) p n c,(Tryz.prog.info? 183).map (·.size)=some (#[Value.string nm,.slice p n c]:Array Value).size:=λ_ _ _ _=>Zk;have hzp:∀y,(Tryz.prog.info? 186).map (·.size)=some (putC y).size:=λ_=>Zk;have hzpl:∀y,(Tryz.prog.info? 186).map (·.size)=some (putC y).toList.length:=λ_=>Zk;have hsuc:=λ(x:List (Int×Int×Int)) k (hk:k<x.length)=>LD.confN_succ (d:=d) hk;have hend:=λ(x:List (Int×Int×Int)) k (hk:k=min x.length 4)=>d.confN_end x hk;have hzero:=λ(x:List (Int×Int×Int))=>d.confN_zero x;have hclen:=λ(x:List (Int×Int×Int)) k=>d.confN_len x k;clear hl hsr hraw;replace hchg:=Yah hchg;replace hmem:=Yah hmem;replace hsuc:=Yah hsuc;replace hend:=Yah hend;replace hzero:=Yah hzero;replace hclen:=Yah hclen;obtain⟨css,hcss⟩:∃css:Nat->List Chg,css=λi=>d.conf (d.configs.getD i []):=⟨_,rfl⟩
 rw[<-hcss];have hcssl:∀i,i<d.configs.length->(css i).length<=4:=λi hi=>by
  rw[hcss];exact(Zhe hd (hcfg i hi)).1
 generalize hn:d.configs.length=n at *;generalize hns:d.srfs.length=ns at *;go_enter Tryz.func71,Tryz.ntmps71
 go_wp2_with fail
 refine Zb1 λW hB hsz bS=>?_;go_wp2
 go_loopw [5,6] (λv x wr=>∃i:Nat,i<=min n 2∧x=.int .i64 (i:Int)∧Below W.heap.size W wr∧∃p' c' pp cq,v=.slice p' i c'∧ConfsOwn wr W.heap.size p' c' i nmD css pp cq) (λ_ x _=>(min n 2-intOf x).toNat)
 case atStart=>exact⟨0,Yat _,rfl,Yae _ _,none,0,λ_=>none,λ_=>0,rfl,⟨Yaj _ _ _ _,λ_=>⟨rfl,rfl⟩,λk hk=>Zo⟩⟩
 case round=>
  obtain⟨i,hi,rfl,hBr,p',c',pp,cq,rfl,hown⟩:=hrel;have bSr:=bS.below hBr;have cS:=(bSr.cell 8).trans g8;have lS:=bSr.lt;have hBw:=Zaa hB hBr;by_cases hin:i<n
  ·have hi':(i:Int)<n:=by omega
   by_cases hi2:i<2
   ·have hi2':(i:Int)<2:=by omega
    obtain⟨b,off,hq,hb,hcell⟩:=hx Zo;rw[hq]at cS;have x0:wr.cell? ⟨b,off+i,none⟩=some (.slice (q.pp i) (d.configs.getD i []).length (q.cp i)):=by simpa using(hBw.cell (p:=⟨b,off+i*1+0,none⟩) hb).trans (hcell i 0 hin Zd)
    have hpi:=hputs i hin;have hbr:=Yaf hb hBw.size;have hcfi:=hcfg i hin;clear hcell hx hputs hcfg;have hxe:∀k,k=min (d.configs.getD i []).length 4->d.confN (d.configs.getD i []) k=css i:=λk hk=>by rw[hcss];exact hend.out _ k hk
    replace hxe:=Yah hxe;generalize hX:d.configs.getD i []=X at *;have hnm:∀h,(([Value.string {data:=#[110,101,97,114]},Value.string {data:=#[102,97,114]}]:List Value)[i]'h)=.string (nmD i):=λh=>by
     rcases(by omega:i=0∨i=1) with rfl|rfl<;>rfl
    generalize hnmi:nmD i=nmi at *;go_wp2_with first|(refine Zan rfl 183 rfl _ Zlf ?_;intro V2 Bc hle2 hB2 b2)|(refine Zab rfl 183 (.tmp 7) (.tmp 28) rfl Bc 0 183 _ (#[.string nmi,.slice none 0 0]) (#[.string nmi,.slice none 0 0]) rfl rfl b2 (hz2 _ _ _ _) (Yaa rfl) (by simp[Value.oneCell']) rfl ?_;intro V3 hk3 b3)
    have hBa:Below wr.heap.size wr (wr.alloc (.cells #[Value.string {data:=#[110,101,97,114]},Value.string {data:=#[102,97,114]}] 9)):=(Yae _ _).alloc (Yab _) _;have hsa:=hBa.size;have hB2':=Zaa hBa hB2;have hle2':wr.heap.size<=Bc:=Zo;have hV3:=hk3.below hB2' hle2' hB2'.size;have hcf0:=hzero.out X;clear hB2 hk3 b2 hBa hB2' hle2 hnm hsa;generalize hEs:d.confN X 0=E0 at hcf0;subst hcf0;generalize wr=w5 at *;go_loopw [8] (λx w8=>∃k:Nat,k<=min X.length 4∧x=.int .i64 (k:Int)∧Below w5.heap.size w5 w8∧∃p2 c2,Box w8 Bc 183 #[.string nmi,.slice p2 (d.confN X k).length c2]∧ChgOwn w8 w5.heap.size p2 c2 (d.confN X k)) (λx _=>(min X.length 4-intOf x).toNat)
    case atStart=>exact⟨0,Yat _,rfl,hV3,none,0,by rw[hEs];exact b3,by rw[hEs];exact⟨Yaj _ _ _ _,λ_=>⟨rfl,rfl⟩⟩⟩
    case round=>
     clear b3 hV3 V3;obtain⟨k,hk,rfl,hB8,p2,c2,bc,hco⟩:=hrel;have bS8:=bSr.below hB8;have cS8:=(bS8.cell 8).trans g8;rw[hq]at cS8;have lS8:=bS8.lt;have hBw8:=Zaa hBw hB8;have x8:wr.cell? ⟨b,off+i,none⟩=some (.slice (q.pp i) X.length (q.cp i)):=(hB8.cell (p:=⟨b,off+i,none⟩) hbr).trans x0;have lb8:=Yaf hbr hB8.size;by_cases hkn:k<X.length
     focus
      have hkn':(k:Int)<X.length:=Zo;by_cases hk4:k<4
      ·have hk4':(k:Int)<4:=by omega
       obtain⟨bp,op,hqp,hbp,hcp⟩:=hpi.2.2 Zo;rw[hqp]at x8;have hcp':=λj (hj:j<3)=>(hBw8.cell (p:=⟨bp,op+k*3+j,none⟩) hbp).trans (hcp k j hkn hj);have hym:=hcfi (X.getD k (0,0,0)) (by rw[Yac,Yao hkn];exact Ybw hkn);have hs1:=hsuc.out X k hkn;have hlk:=hclen.out X k;have hrg:wr.rangeAt bp (op+k*3) (putC (X.getD k (0,0,0))).toList:=λj v hv=>by
        have hj:j<3:=(Yan.1 hv).1;refine(hcp' j hj).trans ?_;rw[Yaq]at hv;dsimp only;rw[Yax,hv];rfl
       have hEm:∀c∈d.confN X k,c.1<ns∧In 32768000 c.2.2:=λc hc=>by
        obtain⟨y,hy,rfl⟩:=hmem.out X k c hc;exact hchg.out y (hcfi y hy)
       have hCm:=hchg.out _ hym;clear hcp hcp' hpi hcfi hxe hmem hchg;replace hs1:=Yah hs1;replace hEm:=Yah hEm;replace hCm:=Yah hCm;generalize hY:X.getD k (0,0,0)=Y at *;generalize hE:d.confN X k=E at *;generalize hEE:d.confN X (k+1)=E1 at *;obtain⟨y0,y1,y2⟩:=Y;obtain⟨⟨g00,g01⟩,⟨g10,g11⟩,⟨g20,g21⟩⟩:=hym;dsimp only at g00 g01 g10 g11 g20 g21;go_wp2_with first|(refine wpList_load_mid rfl 186 (.tmp 49) rfl bp (op+k*3) rfl (putC (y0,y1,y2)).toList _ hrg Tryz.underlying186 rfl (hzpl _) ?_)|(refine Zan rfl 186 rfl _ Zsm ?_;intro V9 Bx hle9 hB9 b9)|(refine Zab rfl 186 (.tmp 9) (.tmp 50) rfl Bx 0 186 _ (putC (y0,y1,y2)) (putC (y0,y1,y2)) rfl rfl b9 (hzp _) (Yaa rfl) (by simp[putC,Value.oneCell']) rfl ?_;intro VA hkA bx)
       have hBA:=hkA.below hB9 hle9 hB9.size;have hneB:Bc≠Bx:=by have:=bc.lt;omega
       have bcA:Box VA Bc 183 #[.string nmi,.slice p2 E.length c2]:=bc.below hBA;have hcoA:=hco.below hBA;have hBA8:=Zaa hB8 hBA;have hlE:E.length<=4:=Zo;have u0:VA.cell? ⟨Bc,1,none⟩=some (.slice p2 E.length c2):=bcA.cell 1;have u1:VA.cell? ⟨Bx,0,none⟩=some (.int .u8 y0):=bx.cell 0;have u2:VA.cell? ⟨Bx,1,none⟩=some (.int .u8 y1):=bx.cell 1;have u3:VA.cell? ⟨Bx,2,none⟩=some (.int .i16 y2):=bx.cell 2;have lBc:=bcA.lt;have lBx:=bx.lt;have hS:∀w',Below VA.heap.size VA w'->w'.cell? ⟨Bc,1,none⟩=some (.slice p2 E.length c2)∧w'.cell? ⟨Bx,0,none⟩=some (.int .u8 y0)∧w'.cell? ⟨Bx,1,none⟩=some (.int .u8 y1)∧w'.cell? ⟨Bx,2,none⟩=some (.int .i16 y2)∧Below VA.heap.size VA w':=λw' h=>⟨(h.cell (p:=⟨Bc,1,none⟩) lBc).trans u0,(h.cell (p:=⟨Bx,0,none⟩) lBx).trans u1,(h.cell (p:=⟨Bx,1,none⟩) lBx).trans u2,(h.cell (p:=⟨Bx,2,none⟩) lBx).trans u3,h⟩
       refine wp_region_held_drew (S:=λw'=>w'.cell? ⟨Bc,1,none⟩=some (.slice p2 E.length c2)∧w'.cell? ⟨Bx,0,none⟩=some (.int .u8 y0)∧w'.cell? ⟨Bx,1,none⟩=some (.int .u8 y1)∧w'.cell? ⟨Bx,2,none⟩=some (.int .i16 y2)∧Below VA.heap.size VA w') Zx (hS _ (Yae _ _).drew) (λhHeld=>?_);generalize VA.drew=X0 at *;have hX0:=hHeld.2.2.2.2;have hXs:=hX0.size;have hns0:ns≠0:=Zo;have hw0:IntKind.i64.wrap y0=y0:=Zfa Zo Zo;have hw1:IntKind.i64.wrap y1=y1:=Zfa Zo Zo;have hw2:IntKind.i64.wrap y2=y2:=Zfa Zo Zo;have ht0:y0.tmod (ns:Int)=y0%(ns:Int):=Ybr g00;have ht1:y1.tmod 17=y1%17:=Ybr g10;have hw3:IntKind.i64.wrap (1+y1%17)=1+y1%17:=Zfa Zo Zo;have hw4:IntKind.i64.wrap (1000*y2)=1000*y2:=Zfa Zo Zo;refine tk 1 (some 52) ?_;refine tk 2 (some 53) ?_;refine tk 4 (some 55) ?_;refine tk 5 (some 56) ?_;refine tk 6 (some 57) ?_;refine tk 7 (some 58) ?_;refine tk 8 (some 59) ?_;refine tk 9 (some 60) ?_;refine tk 10 (some 61) ?_;refine tk 11 (some 62) ?_;refine tk 12 (some 63) ?_;refine tk 13 (some 64) ?_;refine tk 14 (some 65) ?_;refine tk 15 (some 66) ?_;refine tk 16 (some 67) ?_;refine tk 17 (some 68) ?_;refine tk 18 (some 69) ?_;refine tk 19 (some 70) ?_;have hCA:(#[.int .i64 (y0%(ns:Int)),.int .i64 (1+y1%17),.int .i64 (1000*y2)]:Array Value)=chgC (d.chg (y0,y1,y2)):=by
        have:((y0%(ns:Int)).toNat:Int)=y0%(ns:Int):=Int.toNat_of_nonneg (Ycc _ Zo);unfold LD.chg chgC;dsimp only;rw[hns,this]
       generalize hCd:d.chg (y0,y1,y2)=C at *;clear hw0 hw1 hw2 hw3 hw4 ht0 ht1;refine Mono.join_at (fuel':=1) (listed':=#[true,true,true,true,true,true,true,true,true,true,true,true,true,true,true,true,true,true,true,true,true,true,false]) (λ(x:World×Option Addr×Nat×Value×Value×Value) a=>((((a.put (some 51) x.2.2.2.1).put (some 54) x.2.2.2.2.1).put (some 71) x.2.2.2.2.2).put (some 72) (.slice x.2.1 (E.length+1) x.2.2.1))) (λx=>x.1) (λx=>Below VA.heap.size VA x.1∧ChgOwn x.1 VA.heap.size x.2.1 x.2.2.1 (E++[C])) ?_ ?_;rotate_left
       ·intro hJ
        refine Mono.fork2 0 20 ?_ ?_
        ·intro K hK
         refine Mono.arma (some 51) hK (.slice (some ⟨X0.heap.size,0,none⟩) 0 0) ((X0.alloc (.cells #[] 188))) (hS _ (Zad hX0 _)) (λhHeld=>Mono.pt ?_);clear hK K;refine Mono.fork2 3 20 ?_ ?_
         ·intro K hK
          obtain⟨p3,c3,W1',hr,ho,hb3,_⟩:=Zjm 181 (X0.alloc (.cells #[] 188)) X0.heap.size _ (Box.new _ _ _) (Yab _) p2 c2 E Zo (hcoA.below (Zad hX0 _)) (by rw[Yav];omega);refine Mono.arma (some 54) hK (.slice p3 E.length c3) W1' (hS _ ((Zad hX0 _).trans (hb3.mono hXs))) (λhHeld=>Mono.pt ?_) rfl Zx (Zbu (.tmp 51) (.tmp 53) 181 181 rfl _ _ rfl rfl hr);clear hK K hr;refine Mono.sta 20 (some 71) (.slice (some ⟨W1'.heap.size,0,none⟩) 1 1) ((W1'.alloc (.cells #[.int .i64 (y0%(ns:Int)),.int .i64 (1+y1%17),.int .i64 (1000*y2)] 188))) (hS _ (Zad hHeld.2.2.2.2 _)) (λhHeld=>Mono.pt ?_);have hs1:=hb3.size;rw[Yav]at hs1;obtain⟨p4,c4,W2',hr,ho2,hb4⟩:=Zjl 181 (W1'.alloc (.cells #[.int .i64 (y0%(ns:Int)),.int .i64 (1+y1%17),.int .i64 (1000*y2)] 188)) X0.heap.size p3 c3 E C Zo (Zps ho _) W1'.heap.size (hCA▸Box.new _ _ _) (by rw[Yav];omega);refine Mono.sta 21 (some 72) (.slice p4 (E.length+1) c4) W2' (hS _ (hHeld.2.2.2.2.trans (hb4.mono hXs))) (λhHeld=>Mono.pt ?_) rfl rfl Zx Zx (Zbu (.tmp 54) (.tmp 71) 181 181 rfl _ _ rfl rfl hr);clear hr;refine Mono.meet (hJ.out (W2',p4,c4,.slice (some ⟨X0.heap.size,0,none⟩) 0 0,.slice p3 E.length c3,.slice (some ⟨W1'.heap.size,0,none⟩) 1 1) ⟨hHeld.2.2.2.2,ho2 _ hXs⟩)
         ·intro K hK
          refine Mono.arma (some 71) hK (.slice (some ⟨(X0.alloc (.cells #[] 188)).heap.size,0,none⟩) 1 1) (((X0.alloc (.cells #[] 188)).alloc (.cells #[.int .i64 (y0%(ns:Int)),.int .i64 (1+y1%17),.int .i64 (1000*y2)] 188))) (hS _ (Zad (Zad hX0 _) _)) (λhHeld=>Mono.pt ?_);clear hK K;obtain⟨p3,c3,W1',hr,ho,hb3,hg3⟩:=Zjm 181 ((X0.alloc (.cells #[] 188)).alloc (.cells #[.int .i64 (y0%(ns:Int)),.int .i64 (1+y1%17),.int .i64 (1000*y2)] 188)) X0.heap.size _ ((Box.new X0 _ _).alloc _) (Yab _) p2 c2 E Zo (hcoA.below (Zad (Zad hX0 _) _)) (by rw[Yav,Yav];omega);refine Mono.sta 3 (some 54) (.slice p3 E.length c3) W1' (hS _ (hHeld.2.2.2.2.trans (hb3.mono hXs))) (λhHeld=>Mono.pt ?_) rfl rfl Zx Zx (Zbu (.tmp 51) (.tmp 53) 181 181 rfl _ _ rfl rfl hr);clear hr;have bg0:=Box.new (X0.alloc (.cells #[] 188)) 188 #[.int .i64 (y0%(ns:Int)),.int .i64 (1+y1%17),.int .i64 (1000*y2)];have bg:Box W1' (X0.alloc (.cells #[] 188)).heap.size 188 #[.int .i64 (y0%(ns:Int)),.int .i64 (1+y1%17),.int .i64 (1000*y2)]:=⟨(hg3.block _ bg0.lt (by rw[Yav];show some (X0.heap.size+1)≠some X0.heap.size;simp)).trans bg0.blk⟩
          have hs1:=hb3.size;rw[Yav,Yav]at hs1;obtain⟨p4,c4,W2',hr,ho2,hb4⟩:=Zjl 181 W1' X0.heap.size p3 c3 E C Zo ho (X0.alloc (.cells #[] 188)).heap.size (hCA▸bg) Zo;refine Mono.sta 21 (some 72) (.slice p4 (E.length+1) c4) W2' (hS _ (hHeld.2.2.2.2.trans (hb4.mono hXs))) (λhHeld=>Mono.pt ?_) rfl rfl Zx Zx (Zbu (.tmp 54) (.tmp 71) 181 181 rfl _ _ rfl rfl hr);clear hr;refine Mono.meet (hJ.out (W2',p4,c4,.slice (some ⟨X0.heap.size,0,none⟩) 0 0,.slice p3 E.length c3,.slice (some ⟨(X0.alloc (.cells #[] 188)).heap.size,0,none⟩) 1 1) ⟨hHeld.2.2.2.2,ho2 _ hXs⟩)
        ·intro K hK
         refine Mono.arma (some 71) hK (.slice (some ⟨X0.heap.size,0,none⟩) 1 1) ((X0.alloc (.cells #[.int .i64 (y0%(ns:Int)),.int .i64 (1+y1%17),.int .i64 (1000*y2)] 188))) (hS _ (Zad hX0 _)) (λhHeld=>Mono.pt ?_);clear hK K;refine Mono.sta 0 (some 51) (.slice (some ⟨(X0.alloc (.cells #[.int .i64 (y0%(ns:Int)),.int .i64 (1+y1%17),.int .i64 (1000*y2)] 188)).heap.size,0,none⟩) 0 0) (((X0.alloc (.cells #[.int .i64 (y0%(ns:Int)),.int .i64 (1+y1%17),.int .i64 (1000*y2)] 188)).alloc (.cells #[] 188))) (hS _ (Zad hHeld.2.2.2.2 _)) (λhHeld=>Mono.pt ?_);have hXg:VA.heap.size<=(X0.alloc (.cells #[.int .i64 (y0%(ns:Int)),.int .i64 (1+y1%17),.int .i64 (1000*y2)] 188)).heap.size:=by rw[Yav];omega
         obtain⟨p3,c3,W1',hr,ho,hb3,_⟩:=Zjm 181 ((X0.alloc (.cells #[.int .i64 (y0%(ns:Int)),.int .i64 (1+y1%17),.int .i64 (1000*y2)] 188)).alloc (.cells #[] 188)) (X0.alloc (.cells #[.int .i64 (y0%(ns:Int)),.int .i64 (1+y1%17),.int .i64 (1000*y2)] 188)).heap.size _ (Box.new _ _ _) (Yab _) p2 c2 E Zo (hcoA.below (Zad (Zad hX0 _) _)) (by rw[Yav (X0.alloc (.cells #[.int .i64 (y0%(ns:Int)),.int .i64 (1+y1%17),.int .i64 (1000*y2)] 188))];omega);refine Mono.sta 3 (some 54) (.slice p3 E.length c3) W1' (hS _ (hHeld.2.2.2.2.trans (hb3.mono hXg))) (λhHeld=>Mono.pt ?_) rfl rfl Zx Zx (Zbu (.tmp 51) (.tmp 53) 181 181 rfl _ _ rfl rfl hr);clear hr;have bg:=((Box.new X0 188 #[.int .i64 (y0%(ns:Int)),.int .i64 (1+y1%17),.int .i64 (1000*y2)]).alloc (.cells #[] 188)).low hb3 (by rw[Yav];omega);have hs1:=hb3.size;rw[Yav (X0.alloc (.cells #[.int .i64 (y0%(ns:Int)),.int .i64 (1+y1%17),.int .i64 (1000*y2)] 188))]at hs1;obtain⟨p4,c4,W2',hr,ho2,hb4⟩:=Zjl 181 W1' (X0.alloc (.cells #[.int .i64 (y0%(ns:Int)),.int .i64 (1+y1%17),.int .i64 (1000*y2)] 188)).heap.size p3 c3 E C Zo ho X0.heap.size (hCA▸bg) Zo;refine Mono.sta 21 (some 72) (.slice p4 (E.length+1) c4) W2' (hS _ (hHeld.2.2.2.2.trans (hb4.mono hXg))) (λhHeld=>Mono.pt ?_) rfl rfl Zx Zx (Zbu (.tmp 54) (.tmp 71) 181 181 rfl _ _ rfl rfl hr);clear hr;refine Mono.meet (hJ.out (W2',p4,c4,.slice (some ⟨(X0.alloc (.cells #[.int .i64 (y0%(ns:Int)),.int .i64 (1+y1%17),.int .i64 (1000*y2)] 188)).heap.size,0,none⟩) 0 0,.slice p3 E.length c3,.slice (some ⟨X0.heap.size,0,none⟩) 1 1) ⟨hHeld.2.2.2.2,ho2 _ hXg⟩)
       intro x hx;obtain⟨Z7,p7,c7,va7,vb7,vc7⟩:=x;obtain⟨hZ,ho7⟩:=hx;dsimp only at hZ ho7 ⊢;have hHeld:=hS _ hZ;refine Mono.pt ?_;refine tk 22 (some 10) ?_;refine wpAnyH_done Zx ?_ _;clear hS hX0 hXs u0 u1 u2 u3;have hleM:w5.heap.size<=VA.heap.size:=hBA8.size;have hBwZ:Below w.heap.size w Z7:=Zaa (Zaa hBw8 hBA) hZ;have hB5Z:=Zaa hBA8 hZ;have bcZ:=bcA.below hZ;have hcoZ:=hcoA.below hZ;have hlC:(E++[C]).length=E.length+1:=Zs;have hall:∀j,j<(E++[C]).length->(cAt (E++[C]) j).1<ns∧In 32768000 (cAt (E++[C]) j).2.2:=λj hj=>by
        have hm:cAt (E++[C]) j∈E++[C]:=by
         unfold cAt;rw[Yac,Yao hj];exact Ybw hj
        rcases Ycn.1 hm with hm|hm
        ·exact hEm.out _ hm
        ·rw[Ycd.1 hm];exact hCm.out
       have hmk:=hmade (E++[C]) Zo hall p7 c7 Z7 hBwZ (ho7.at Zo);rw[hlC]at hmk;replace hlC:=Yah hlC;clear hall hcoA hBA8 hHeld bx bcA lBc lBx b9 hB9 hkA hle9 hEm hCm hCA;go_wp2_with fail
       refine hmk.mono ?_;rintro e WM ⟨hbM,hno,hyes⟩;have bcM:=bcZ.below hbM;have hB5M:=Zaa hB5Z hbM;have ho7M:=ho7.below hbM;have hcoM:=hcoZ.below hbM;cases hms:madeS d.srfs (E++[C]) with
       | none =>
         obtain rfl:=hno hms;have hE1:E1=E:=hs1.out.2 hms;clear hno hyes hmk hs1;go_wp2
         go_roundw
         case rel=>exact⟨k+1,Zo,Zs,hB5M,p2,c2,by rw[hEE,hE1];exact bcM,by rw[hEE,hE1];exact hcoM⟩
         case measure=>simp[intOf];omega
       | some m =>
         obtain⟨p9,c9,cp9,cl9,rfl,_⟩:=hyes m hms;have hE1:E1=E++[C]:=hs1.out.1 (by rw[hms];exact λh=>by cases h);clear hno hyes hmk hs1;have hkN:=(KeepBut.refl Bc WM).set 1 (.slice p7 (E.length+1) c7);have bcN:Box (WM.setCell ⟨Bc,1,none⟩ (.slice p7 (E.length+1) c7)) Bc 183 #[.string nmi,.slice p7 (E.length+1) c7]:=bcM.set 1 _;have fM:=bcM.frozen 1;have cM:=bcM.cell 1;go_wp2
         have hB5N:=hkN.below hB5M hle2' hB5M.size;have ho7N:=ho7M.keep bcM Zd hkN;go_roundw
         case rel=>exact⟨k+1,Zo,Zs,hB5N,p7,c7,by rw[hEE,hE1,hlC.out];exact bcN,by rw[hEE,hE1];exact ho7N.low hleM⟩
         case measure=>simp[intOf];omega
      obtain rfl:k=4:=Zo;have hxe':=hxe.out 4 Zo;rw[hxe']at bc hco
     rotate_left
     focus
      obtain rfl:k=X.length:=Zo;have hxe':=hxe.out X.length Zo;rw[hxe']at bc hco
     all_goals
      have hownR:=hown.below hB8;have hBRw:=Zaa hBr hB8;clear hxe hxe' hsuc hend hzero hclen hcfi hpi hmem hchg;go_wp2_with first|(refine Zac rfl 183 (.tmp 7) rfl Bc rfl 183 _ bc _ Tryz.underlying183 rfl (hz2 _ _ _ _) ?_)|(refine Zaz (ps:=#[(0,.agg #[.string nmi,.slice p2 (css i).length c2])]) 36 1 #[(0,.tmp 83)] rfl rfl (by simp;rfl) (Zds htf hfi hfz hfs Zd Zd _ rfl) ?_;intro V7 B7 hle7 hB7 b7;have hown7:=Zak hownR.row hB7;have hBV:=Zaa hBRw hB7)|(refine Zao rfl (.tmp 82) (.tmp 84) (ts:=36) (te:=183) rfl htf hfi hfz hfs hfb rfl Zd rfl rfl hown7 (H:=λ_=>[.string nmi,.slice p2 (css i).length c2]) (λ_=>rfl) (λ_ _=>Zw6 _ _ _ _) (Zb0 b7 rfl) (λh=>by cases h) hBV.size Zo Zo ?_;intro p8 c8 V8 hown8 hg8 hn8)
      have hB9:=Below.appended hown7 hg8 hBV (Yab _);have hco8:ChgOwn V8 W.heap.size p2 c2 (css i):=⟨Zau (Zbc hown7 hg8 (Zak hco.1 hB7) Zd) hBr.size,hco.2⟩
      go_roundw
      case rel=>
       refine⟨i+1,Zo,Zs,hB9,p8,c8,λk=>if k=i then p2 else pp k,λk=>if k=i then c2 else cq k,rfl,⟨?_,hn8,λj hj=>?_⟩⟩
       ·rw[<-Zas (C:=ccat (cfC nmD css pp cq) i (λ_=>[.string nmi,.slice p2 (css i).length c2]))]
        ·exact hown8
        ·intro j hj
         unfold ccat cfC;by_cases hji:j<i
         ·have hne:j≠i:=by omega
          dsimp only;rw[if_pos hji,if_neg hne,if_neg hne]
         ·obtain rfl:j=i:=by omega
          dsimp only;rw[if_neg hji,if_pos rfl,if_pos rfl,hnmi]
       ·by_cases hji:j=i
        ·subst hji
         rw[if_pos rfl,if_pos rfl];exact hco8
        ·rw[if_neg hji,if_neg hji]
         have:=hownR.chg j Zo;exact⟨Zbc hown7 hg8 (Zak this.1 hB7) Zd,this.2⟩
      case measure=>simp[intOf];omega
   ·obtain rfl:i=2:=by omega
    have hmn:min n 2=2:=Zo;clear hx hputs hcfg hmem hchg hsuc hend hzero hclen;go_wp2
    go_ret
    exact⟨p',c',pp,cq,by rw[hmn];rfl,by rw[hmn];exact hown.low hB.size,hBw⟩
  ·obtain rfl:i=n:=by omega
   have hmn:min i 2=i:=Zo;clear hx hputs hcfg hmem hchg hsuc hend hzero hclen;go_wp2
   go_ret
   exact⟨p',c',pp,cq,by rw[hmn];rfl,by rw[hmn];exact hown.low hB.size,hBw⟩
end Go.Proofs.W
