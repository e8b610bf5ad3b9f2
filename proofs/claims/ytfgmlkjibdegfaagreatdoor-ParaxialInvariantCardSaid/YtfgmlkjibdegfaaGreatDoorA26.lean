/- Contracts of package paraxial,and a verified evaluator. Part 26 of 28. No condition beside the row. -/
import Derived.WalkMore
import Derived.Outline
import Derived.Defers
import Derived.Recover
import Derived.Laws.Pointers
import Derived.Test.YtfgmlkjibdegfaaGreatDoorA21
import Derived.Test.YtfgmlkjibdegfaaGreatDoorA22
import Derived.Test.YtfgmlkjibdegfaaGreatDoorA23
import Derived.Test.YtfgmlkjibdegfaaGreatDoorA24
import Derived.Test.YtfgmlkjibdegfaaGreatDoorA25
set_option linter.unusedVariables false
set_option linter.unusedSimpArgs false
set_option maxRecDepth 100000
set_option maxHeartbeats 4000000
namespace Go.Proofs.W
open Go.RowKit Go.Mono
section
open Go.Ex
def pK (m:Nat):Nat->Value
 | 0=>.map (some m)
 | _=>.bool false
theorem pK1 (m:Nat):∀i,(pK m i).oneCell'=true
 | 0=>rfl
 | _+1=>rfl
def powRun (o:Oper) (get:Operand->Option SV):Option SV:=
 match o.op with
 | .load t x => if Nat.beq t 173 then match get x with
   | some (.a (.one (.val (.pointer (some ⟨0,0,none⟩)))))=>some (.a (.one (.tok 0)))
   | _=>none
   else none
 | .lookup t x k false => if Nat.beq t 173 then match get x, get k with
   | some (.a (.one (.tok 0))),some (.a (.one (.val (.int .i64 (.ofNat 1)))))=>some (.a (.one (.clo 281 [])))
   | some (.a (.one (.tok 0))),some (.a (.one (.val (.int .i64 (.ofNat 2)))))=>some (.a (.one (.clo 281 [])))
   | some (.a (.one (.tok 0))),some (.a (.one (.val (.int .i64 (.ofNat 3)))))=>some (.a (.one (.clo 282 [])))
   | some (.a (.one (.tok 0))),some (.a (.one (.val (.int .i64 (.ofNat 4)))))=>some (.a (.one (.clo 283 [])))
   | _,_=>none
   else none
 | _=>none
def powF {K:Nat->Value} {hK:∀i,(K i).oneCell'=true} {w0:World} {m:Nat} (h:PowsAt w0 m) (h0:K 0=.map (some m):=by rfl):Fct (qDen K hK) Tryz.prog w0 (λ_=>False) where
 run:=powRun
 sound:=by
  intro o get x hr ρ wc w ev hfr hg;unfold powRun at hr;split at hr
  ·rename_i t x' ho
   split at hr
   ·rename_i ht
    obtain rfl:=Ybe ht;split at hr
    ·rename_i hx
     cases hr;have e1:ev x'=.pointer (some ⟨0,0,none⟩):=by simpa using(hg _ _ hx).1
     have hc:w.cell? ⟨0,0,none⟩=some (.map (some m)):=(Zeo (hfr.block 0 h.pos id) 0).trans h.cell;refine⟨.map (some m),?_,(show[Value.map (some m)]=[K 0] by rw[h0])⟩;unfold execOp;rw[ho];simp only[e1,Instr.loadAt,loadVar,Yar,Instr.sureAddr,Yau,Yag,Zf2 (P:=Tryz.prog) (t:=173) (b:=false) Zk,Ybq,if_false];rw[run_load,hc];rfl
    ·cases hr
   ·cases hr
  ·rename_i t y k ho
   split at hr
   ·rename_i ht
    obtain rfl:=Ybe ht;have hb:w.heap[m]? = w0.heap[m]?:=hfr.block m h.lt id;obtain⟨l1,l2,l3,l4⟩:=h.look w hb
    have go:∀{z:Int} {g:Nat},get y=some (.a (.one (.tok 0)))->get k=some (.a (.one (.val (.int .i64 z))))->(Instr.lookup 173 (.map (some m)) (.int .i64 z) false).run Tryz.prog w=.ok (.func (.func g) #[] #[]) w->
      ∃v,(execOp ev o).run Tryz.prog w=.ok (.value v) w∧denV (qDen K hK) ρ wc (.a (.one (.clo g []))) v:=by
     intro z g hy hk hl;have e1:ev y=.map (some m):=by
      have:[ev y]=[K 0]:=hg _ _ hy;rw[h0]at this;simpa using this
     have e2:ev k=.int .i64 z:=by simpa using(hg _ _ hk).1
     refine⟨_,?_,[],rfl,rfl⟩;unfold execOp;simp only[ho,e1,e2,Yar,hl,Yag,Yau]
    split at hr
    ·rename_i hy hk;cases hr;exact go hy hk l1
    ·rename_i hy hk;cases hr;exact go hy hk l2
    ·rename_i hy hk;cases hr;exact go hy hk l3
    ·rename_i hy hk;cases hr;exact go hy hk l4
    ·cases hr
   ·cases hr
  ·cases hr
end
end Go.Proofs.W
namespace Go.Mono
open Go.RowKit
theorem LgV.tail {m:Nat} {w:World} {v:Value} {z:Int} (h:LgV m w v z):∃p n c,v=.agg #[.bool (decide (z<0)),.slice p n c]∧(z≠0↔0<n):=by
 obtain⟨p,n,c,f,rfl,h1,h2,h3,h4⟩:=h;refine⟨p,n,c,rfl,?_⟩;have:=h2.pos;rw[h3]at this;omega
end Go.Mono
namespace Go.Proofs.W
open Go.RowKit Go.Mono
theorem Zov {v1 v2:Value} {n d:Int} (w:World) (h1:LgV 3 w v1 n) (h2:LgV 3 w v2 d) (hd:0<d) :
  Calls Tryz.prog 137 #[v1,v2] w λe w'=>∃C,e=.returned (.tuple #[.agg C,.int .i64 0])∧QtV 3 w' (.agg C) (Rat.divInt n d)∧Below w.heap.size w w':=by
 have hr1:=λ(X:World) (hX:Ext w X)=>Zcr X ((h1.ext hX).mono Zd);have hr2:=λ(X:World) (hX:Ext w X)=>Zcr X ((h2.ext hX).mono Zd);have hc:=λ(X:World) (hX:Ext w X)=>Zc3 X (h1.ext hX) (h2.ext hX) hd Zd;obtain⟨p1,n1,c1,rfl,_⟩:=h1.tail;obtain⟨p2,n2,c2,rfl,hn2⟩:=h2.tail;have hn2':((n2:Int)==0)=false:=by have:=hn2.1 (Zo);simp;omega
 generalize decide (n<0)=s1 at *;generalize decide (d<0)=s2 at *;clear h1 h2 hn2;go_enter Tryz.func137,Tryz.ntmps137
 go_wp2_with fail
 refine Zby λW hB hs b0 b1 bO=>?_;refine(hr1 W (.of_below hB)).mono ?_;rintro e W2 ⟨rfl,hb⟩;replace b0:=b0.below hb;replace b1:=b1.below hb;replace bO:=bO.below hb;replace hB:=Zaa hB hb;have cb0:=b0.cell;have lb0:=b0.lt;have fb0:=b0.frozen;have cb1:=b1.cell;have lb1:=b1.lt;have fb1:=b1.frozen;clear hb hr1 hs;go_wp2_with fail
 refine(hr2 W2 (.of_below hB)).mono ?_;rintro e W3 ⟨rfl,hb⟩;replace b0:=b0.below hb;replace b1:=b1.below hb;replace bO:=bO.below hb;replace hB:=Zaa hB hb;clear cb0 lb0 fb0 cb1 lb1 fb1;have cb0:=b0.cell;have lb0:=b0.lt;have fb0:=b0.frozen;have cb1:=b1.cell;have lb1:=b1.lt;have fb1:=b1.frozen;clear hb hr2;go_wp2_with fail
 refine(hc W3 (.of_below hB)).mono ?_;rintro e W4 ⟨V,rfl,hV,hb4⟩;obtain⟨C,rfl,zC,oC⟩:=hV.cells;replace bO:=bO.below hb4;replace hB:=Zaa hB hb4;go_wp2_with first|(refine Zab rfl 54 (.tmp 4) (.tmp 22) rfl (w.heap.size+1+1) 0 54 _ C C rfl rfl bO (by rw[zC];exact Zan) (Ybl (by rw[zC];rfl)) oC (Zah (by rw[zC];rfl)) ?_;intro W6 hk b2)
 refine bodyPost_ret (b2.resultsT rfl _ _ rfl Tryz.underlying54 rfl (by rw[zC];exact Zan)) rfl ?_;exact⟨_,rfl,hV.ext (hk.ext bO Zd),hk.below hB Zo hB.size⟩
theorem Zv1 (n d:Int) (w:World) (hd:0<d) (a1 : -9223372036854775808<=n) (a2:n<=9223372036854775807) (b2:d<=9223372036854775807) :
  Calls Tryz.prog 89 #[.int .i64 n,.int .i64 d] w λe w'=>∃C,e=.returned (.tuple #[.agg C,.int .i64 0])∧QtV 3 w' (.agg C) (Rat.divInt n d)∧Below w.heap.size w w':=by
 go_enter Tryz.func89,Tryz.ntmps89
 go_wp2_with fail
 refine Zbv λW hB hs bO=>?_;refine(Zeb n W a1 a2).mono ?_;rintro e W2 ⟨v1,rfl,h1,hb⟩;replace bO:=bO.below hb;replace hB:=Zaa hB hb;clear hb;go_wp2_with fail
 refine(Zeb d W2 Zo b2).mono ?_;rintro e W3 ⟨v2,rfl,h2,hb⟩;replace bO:=bO.below hb;replace hB:=Zaa hB hb;replace h1:=h1.below hb;clear hb;go_wp2_with fail
 refine(Zov W3 h1 h2 hd).mono ?_;rintro e W4 ⟨C,rfl,hV,hb⟩;obtain⟨_,e,zC,oC⟩:=hV.cells;cases e;replace bO:=bO.below hb;replace hB:=Zaa hB hb;clear hb h1 h2;go_wp2_with first|(refine Zab rfl 54 (.tmp 4) (.tmp 11) rfl w.heap.size 0 54 _ C C rfl rfl bO (by rw[zC];exact Zan) (Ybl (by rw[zC];rfl)) oC (Zah (by rw[zC];rfl)) ?_;intro W6 hk b2)
 refine bodyPost_ret (b2.resultsT rfl _ _ rfl Tryz.underlying54 rfl (by rw[zC];exact Zan)) rfl ?_;exact⟨_,rfl,hV.ext (hk.ext bO Zd),hk.below hB Zo hB.size⟩
section
attribute [local go_sem] Oper.semAt_some
def ordAt (back:Bool) (m i:Nat):Int:=if back=true then(m:Int)-1-i else i
theorem Zow (F:Fence) (n:Nat) (hF:F.fn 93) (hro:F.round=none) (hn:2<=n) (m:Nat) (hm:m<=16) (Bn Bb:Nat) (back:Bool) :
  IterAll F n Tryz.prog 93 #[] #[.pointer (some ⟨Bn,0,none⟩),.pointer (some ⟨Bb,0,none⟩)] m (λi=>#[.int .i64 (ordAt back m i)])
   (λV=>V.cell? ⟨Bn,0,none⟩=some (.int .i64 (m:Int))∧V.cell? ⟨Bb,0,none⟩=some (.bool back)):=by
 intro l J W hK hJ hY h0;refine callsIn_of_wp Tryz.func93 rfl hF ?_ hro;simp only[Tryz.ntmps93,Yfl,Ybm,Ydf,Nat.reduceAdd,Nat.reduceSub,Yes,Yer,Yfm,Yey,Ydp,Ydi];obtain⟨hm1,hb1⟩:=hK _ _ h0;have l1:=block_lt_of_cell hm1;have l2:=block_lt_of_cell hb1;gi_wp2
 gi_loopw [7] (λx wr=>∃k:Nat,k<=m∧x=.int .i64 (k:Int)∧J k wr) (λx _=>(m-intOf x).toNat)
 case atStart=>exact⟨0,Yat _,rfl,h0⟩
 case round=>
  obtain⟨k,hk,rfl,hj⟩:=hrel;obtain⟨hm2,hb2⟩:=hK _ _ hj;have l3:=block_lt_of_cell hm2;have l4:=block_lt_of_cell hb2;clear hm1 hb1 l1 l2;by_cases hkn:k<m
  ·obtain⟨fn,tmps,assign,body,hy,hR⟩:=hY k wr hj hkn
   have hkn':(k:Int)<m:=Zo;have w1:IntKind.i64.wrap ((m:Int)-1)=(m:Int)-1:=by rw[Ybi];omega
   have w2:IntKind.i64.wrap ((m:Int)-1-k)=(m:Int)-1-k:=by rw[Ybi];omega
   clear hY;cases back with
   | true =>
     rw[show ordAt true m k=(m:Int)-1-k from rfl]at hy;gi_wp2
     refine⟨λ_=>Zo,hR.mono ?_⟩;rintro e W3 ⟨rfl,hJ3⟩;gi_wp2
     go_roundw
     case rel=>exact⟨k+1,Zo,Zs,hJ3⟩
     case measure=>simp[intOf];omega
   | false =>
     rw[show ordAt false m k=(k:Int) from rfl]at hy;gi_wp2
     refine⟨λ_=>Zo,hR.mono ?_⟩;rintro e W3 ⟨rfl,hJ3⟩;gi_wp2
     go_roundw
     case rel=>exact⟨k+1,Zo,Zs,hJ3⟩
     case measure=>simp[intOf];omega
  ·obtain rfl:k=m:=by omega
   gi_wp2
   go_end0
   exact⟨⟨_,rfl⟩,hj⟩
end
end Go.Proofs.W
namespace Go.Mono
open Go.RowKit

end Go.Mono
namespace Go.Proofs.W
open Go.RowKit Go.Mono
theorem Zxl (p q:Addr) (w:World) :
  CallsD Tryz.prog 90 #[.pointer (some p),.pointer (some q)] .returning w λe u' w'=>e=.returned (.tuple #[])∧u'=.returning∧w'=w:=by
 refine callsD_of_wpS Tryz.func90 rfl λc₀ cs hu=>?_;simp only[Tryz.ntmps90,Yfl,Ybm,Ydf,Nat.reduceAdd,Nat.reduceSub,Yes,Yer,Yfm,Yey,Ydp,Ydi];apply wpS_seq;apply wpS_region;simp[wpOpsS,go_sem,recoverD,hu,Exit.thenS];apply wpS_of_wp;go_hide hQ
 go_wp2
 subst hQ;cases c₀;simp_all [bodyPostS,results,Tryz.results90]
theorem Zlz (g:Nat) (caps:Array Value) (eg:∀args w,(callFunc g args).run Tryz.prog w=.ok (.enter g args) w) (w:World) (Post:Value->World->Prop)
  (hst:∀v w1 u0 u1 c0 c1,Box w1 w.heap.size 58 c0->Box w1 (w.heap.size+1) 59 c1->Post v w1->Post v ((w1.setCell ⟨w.heap.size,0,none⟩ u0).setCell ⟨w.heap.size+1,0,none⟩ u1))
  (hg:∀W,Below w.heap.size w W->w.heap.size+2<=W.heap.size->Calls Tryz.prog g caps W λe w'=>∃p n c,e=.returned (.slice p n c)∧Post (.slice p n c) w'∧Below W.heap.size W w') :
  Calls Tryz.prog 43 #[.func (.func g) #[] caps] w λe w'=>∃p n c,e=.returned (.tuple #[.slice p n c,.int .i64 0])∧Post (.slice p n c) w'∧Below w.heap.size w w':=by
 have hmf:∀(fn:Fn) (first cap:Array Value) (w:World),(Instr.makeFunc fn first cap).run Tryz.prog w=.ok (.func fn first cap) w:=λ_ _ _ _=>rfl;go_enter_defers Tryz.func43,Tryz.ntmps43
 go_wp2_with fail
 refine Zbi λW hB hs b0 b1=>?_;refine(hg W hB hs).mono ?_;rintro e W1 ⟨p,n,c,rfl,hp,hb⟩;replace hB:=Zaa hB hb;replace b0:=b0.below hb;replace b1:=b1.below hb;have c0:=b0.cell;have f0:=b0.frozen;have c1:=b1.cell;have f1:=b1.frozen;have hne:w.heap.size≠w.heap.size+1:=Zo;go_wp2
 have e0:=((b0.set 0 (.slice p n c)).other ⟨w.heap.size+1,0,none⟩ (.int .i64 0) hne).cell 0;have e1:=((b1.other ⟨w.heap.size,0,none⟩ (.slice p n c) (Ne.symm hne)).set 0 (.int .i64 0)).cell 0;have eB:Below w.heap.size w ((W1.setCell ⟨w.heap.size,0,none⟩ (.slice p n c)).setCell ⟨w.heap.size+1,0,none⟩ (.int .i64 0)):=(hB.setCell (p:=⟨w.heap.size,0,none⟩) (Yab _) _).setCell (p:=⟨w.heap.size+1,0,none⟩) Zs _;refine leaves_cons (f:=90) (args:=#[.pointer (some ⟨w.heap.size,0,none⟩),.pointer (some ⟨w.heap.size+1,0,none⟩)]) Zs (by simp[go_sem]) ?_;refine(Zxl _ _ _).mono ?_;rintro e u' w'' ⟨rfl,rfl,rfl⟩;refine⟨_,by simp[results,Tryz.results43,go_sem,e0,e1],p,n,c,rfl,hst _ _ _ _ _ _ b0 b1 hp,eB⟩
section
open Go.Ex
theorem Zvz {w:World} {m:Nat} (sp:List (Ctr (qDen (pK m) (pK1 m)) Tryz.prog w (λ_=>False))) (fx:List (Fct (qDen (pK m) (pK1 m)) Tryz.prog w (λ_=>False))) {f:FuncId} {d:Nat}
  (hev:(evF Tryz.prog sp fx d [] f [] [] 0 0 []).map (λr=>(r.v,r.obl,r.pan))=some (.a (.one (.val (.bool true))),[],none)) :
  Calls Tryz.prog f #[] w λe w'=>e=.returned (.bool true)∧Below w.heap.size w w':=by
 refine(Zqi (D:=qDen (pK m) (pK1 m)) (d:=d) (orc:=[]) (args:=[]) Ziu sp fx (.a (.one (.val (.bool true)))) [] hev trivial (vals:=[]) rfl).mono ?_;rintro e w' ⟨v,ρ',rfl,hv,hb⟩;obtain rfl:v=.bool true:=by simpa using hv.1
 exact⟨rfl,hb⟩
theorem Zto (w:World) (m:Nat) (hp:PowsAt w m):Calls Tryz.prog 11 #[] w λe w'=>e=.returned (.bool true)∧Below w.heap.size w w':=
 Zvz (d:=40) (cOCheck w _::spC w (λ_=>False)) [powF hp] Zk
end
section
open Go.Ex
variable {K:Nat->Value} {hK:∀i,(K i).oneCell'=true}
def cR4Add (S:Side) (w0:World) (X:Nat->Prop):Ctr (qDen K hK) Tryz.prog w0 X:=binSpec S.cl w0 X 97 (λa b=>a+b) (λa b=>S.fit (a+b)) λa b u v L w hs hL h1 h2=>(Ztt w h1.qt h2.qt (S.hfit _ _ hs hL)).mono λe w' ⟨C,e1,hC,hb⟩=>⟨_,e1,hC.qv,hb⟩
def cR4Mul (S:Side) (w0:World) (X:Nat->Prop):Ctr (qDen K hK) Tryz.prog w0 X:=binSpec S.cl w0 X 100 (λa b=>a*b) (λa b=>S.fit (a*b)) λa b u v L w hs hL h1 h2=>(Ztu w h1.qt h2.qt (S.hfit _ _ hs hL)).mono λe w' ⟨C,e1,hC,hb⟩=>⟨_,e1,hC.qv,hb⟩
def ofR4 (args:List SA) (bk:List (Nat×Blk)) (orc:List (Option Bool)):Option (SV×List Prop×List (Option Bool)):=
 match args with
 | [x, y] => match intOf (some (.a x)), intOf (some (.a y)) with
   | some (.i64,n,_),some (.i64,d,_)=>some (.tup [.agg [.quo (Rat.divInt n d)],okV],[inR n,inR d,0<d],orc)
   | _,_=>none
 | _=>none
def cR4Of (w0:World) (X:Nat->Prop):Ctr (qDen K hK) Tryz.prog w0 X:=.plain 89 ofR4<|by
    intro args bk orc v obl orc' hr hobl ρ w vals hfr hb hargs;unfold ofR4 at hr;split at hr
    ·rename_i x y
     split at hr
     ·rename_i n s d s' hx hy
      cases hr;obtain⟨v1,r1,rfl,h1,v2,r2,rfl,h2,h3⟩:=hargs;obtain rfl:r2=[]:=h3;obtain rfl:=Zdy (D:=qDen K hK) (ρ:=ρ) (w:=w) hx h1;obtain rfl:=Zdy (D:=qDen K hK) (ρ:=ρ) (w:=w) hy h2;obtain⟨a1,a2⟩:=hobl (inR n) Zs;obtain⟨b1,b2⟩:=hobl (inR d) Zs;refine(Zv1 n d w (hobl (0<d) Zs) a1 a2 b2).mono ?_;rintro e w' ⟨C,rfl,hC,hbl⟩;exact⟨_,rfl,⟨[_,.int .i64 0],rfl,_,_,rfl,den_quo.2 (hC.mono Zd).qv,_,_,rfl,⟨rfl,rfl⟩,rfl⟩,hbl⟩
     ·cases hr
    ·cases hr
end
end Go.Proofs.W
