/- Contracts of package paraxial,and a verified evaluator. Part 27 of 28. No condition beside the row. -/
import Derived.Test.YtfgmlkjibdegfaaGreatDoorA12
import Derived.Test.YtfgmlkjibdegfaaGreatDoorA22
import Derived.Test.YtfgmlkjibdegfaaGreatDoorA24
import Derived.Test.YtfgmlkjibdegfaaGreatDoorA25
import Derived.Test.YtfgmlkjibdegfaaGreatDoorA26
set_option linter.unusedVariables false
set_option linter.unusedSimpArgs false
set_option maxRecDepth 100000
set_option maxHeartbeats 4000000
namespace Go.Mono
open Go.RowKit
section
theorem Zlr {P:Program} {S:World->Prop} {oi:Oper} {a:Act} (ty:TypeId) (x ix:Operand) (ok:Bool) (ho:oi.op=.lookup ty x ix ok) (m kv v:Value) (hx:a.eval x=m) (hk:a.eval ix=kv)
  (hrun:∀w,S w->(Instr.lookup ty m kv ok).run P w=.ok v w):∀w,S w->(execOp a.eval oi).run P w=.ok (.value v) w:=λw hS=>by
 unfold execOp;simp only[ho,hx,hk,Yar,hrun w hS,Yag,Yau]
section
variable {P:Program} {ops:Array Oper} {Q:Exit->Act->World->Prop} {md:Region.Mode} {S:World->Prop}
theorem Zi0 (B:Nat) (T:TypeId) (i:Nat) {o:Oper} (hi:ops[i]? = some o) (hg:o.guard=none) (hd:o.dst=none) {ty:TypeId} {x y:Operand} (ho:o.op=.store ty x y) (off:Nat) (cells cs new:Array Value) {a:Act} {fuel:Nat} {listed:Array Bool} {w:World}
  (hr:Region.ready md ops listed=[i]) (hS:∀w i u,S w->S (w.setCell ⟨B,i,none⟩ u)) (hx:a.eval x=.pointer (some ⟨B,off,none⟩)) (hy:a.eval y=.agg cells)
  (hb:Box w B T cs) (hs:S w) (hi2:(P.info? ty).map (·.size)=some cells.size) (hoff:off+cells.size<=cs.size) (h1:cells.all (·.oneCell')=true)
  (hn:cs.toList.take off++cells.toList++cs.toList.drop (off+cells.size)=new.toList)
  (h:∀w',KeepBut B w.heap.size w w'->Box w' B T new->S w'->wpAnyH P md ops Q S fuel (listed.setIfInBounds i true) a w'):wpAnyH P md ops Q S (fuel+1) listed a w:=by
 refine wpAnyH_all hr Zs λj hj=>?_;obtain rfl:j=i:=by simpa using hj
 unfold wpOp;rw[hi];have hw:Region.wanted o (yielded ops a.tmps)=true:=by simp[Region.wanted,hg]
 simp only[hw,if_true];left
 have hb2:=Box.setCells cells.toList off w cs hb (by simpa using hoff);have hb3:Box (w.setCells B off cells.toList) B T new:=by simpa[hn]using hb2
 have hs2:=Zbr hS cells.toList off w hs;refine wp_store_mid ty x y ho B off cells hx hy (hb.there off cells.size hoff) hi2 h1 ?_;rw[hd];exact⟨hs2,h _ ((KeepBut.refl _ _).setCells _ _ _) hb3 hs2⟩
end
def CB (R:Nat) (W w:World):Prop:=(∀b o,b<W.heap.size->b≠R->w.cell? ⟨b,o,none⟩=W.cell? ⟨b,o,none⟩)∧KeepBut R W.heap.size W w
theorem CB.set {R:Nat} {W:World} (w:World) (i:Nat) (u:Value) (h:(∀b o,b<W.heap.size->b≠R->w.cell? ⟨b,o,none⟩=W.cell? ⟨b,o,none⟩)∧KeepBut R W.heap.size W w) :
  (∀b o,b<W.heap.size->b≠R->(w.setCell ⟨R,i,none⟩ u).cell? ⟨b,o,none⟩=W.cell? ⟨b,o,none⟩)∧KeepBut R W.heap.size W (w.setCell ⟨R,i,none⟩ u):=KeepBut.S (h.2.set i u)
theorem Zls {R:Nat} {W w:World} (h:KeepBut R W.heap.size W w):(∀b o,b<W.heap.size->b≠R->w.cell? ⟨b,o,none⟩=W.cell? ⟨b,o,none⟩)∧KeepBut R W.heap.size W w:=KeepBut.S h
end
end Go.Mono
namespace Go.Proofs.W
open Go.RowKit Go.Mono
structure PowsAt (w:World) (m:Nat):Prop where
 lt:m<w.heap.size
 pos:0<w.heap.size
 cell:w.cell? ⟨0,0,none⟩=some (.map (some m))
 look:∀w':World,w'.heap[m]? = w.heap[m]?->(Instr.lookup 173 (.map (some m)) (.int .i64 1) false).run Tryz.prog w'=.ok (.func (.func 281) #[] #[]) w'∧(Instr.lookup 173 (.map (some m)) (.int .i64 2) false).run Tryz.prog w'=.ok (.func (.func 281) #[] #[]) w'∧
  (Instr.lookup 173 (.map (some m)) (.int .i64 3) false).run Tryz.prog w'=.ok (.func (.func 282) #[] #[]) w'∧(Instr.lookup 173 (.map (some m)) (.int .i64 4) false).run Tryz.prog w'=.ok (.func (.func 283) #[] #[]) w'
theorem PowsAt.below {w w':World} {m:Nat} (h:PowsAt w m) (hB:Below w.heap.size w w'):PowsAt w' m:=
 ⟨Yaf h.lt hB.size,Yaf h.pos hB.size,(hB.cell (p:=⟨0,0,none⟩) h.pos).trans h.cell,λw2 h2=>h.look w2 (h2.trans (hB.block m h.lt))⟩
theorem PowsAt.kind {w:World} {m:Nat} (h:PowsAt w m) {kd:Int} (k1:1<=kd) (k2:kd<=4):∀w':World,w'.heap[m]? = w.heap[m]?->(Instr.lookup 173 (.map (some m)) (.int .i64 kd) false).run Tryz.prog w'=.ok (.func (.func (if kd=3 then 282 else if kd=4 then 283 else 281)) #[] #[]) w':=λw' hw=>by
 obtain⟨h1,h2,h3,h4⟩:=h.look w' hw;rcases(by omega:kd=1∨kd=2∨kd=3∨kd=4) with rfl|rfl|rfl|rfl
 ·exact h1
 ·exact h2
 ·exact h3
 ·exact h4
theorem Zok (kd:Int):∀args w,(callFunc (if kd=3 then 282 else if kd=4 then 283 else 281) args).run Tryz.prog w=.ok (.enter (if kd=3 then 282 else if kd=4 then 283 else 281) args) w:=by
 by_cases h3:kd=3
 ·rw[if_pos h3];exact Go.Proofs.enters_of Tryz.func282 Zk rfl
 ·rw[if_neg h3]
  by_cases h4:kd=4
  ·rw[if_pos h4];exact Go.Proofs.enters_of Tryz.func283 Zk rfl
  ·rw[if_neg h4];exact Go.Proofs.enters_of Tryz.func281 Zk rfl
structure PowFits (a:Lns) (k s:Nat):Prop where
 f1:Fits (a.step k s)
 f2:Fits (a.cv s*a.step k s)
 f3:Fits (a.gr k s)
 f4:Fits (a.cv s*a.step k s-a.gr k s)
theorem Zvy (a:Lns) (ha:a.opt) (q:Plc) (hchk:Chk a q) (s k:Nat) (w:World) (h:OptAt w a q) (s1:s<a.ns) (k1:k<a.nw) (hf:PowFits a k s) :
  Calls Tryz.prog (if(a.S s).kind=3 then 282 else if(a.S s).kind=4 then 283 else 281) #[.agg (a.vvals q k),.int .i64 (s:Int)] w λe w'=>∃C,e=.returned (.agg C)∧QV w' (.agg C) (a.pow k s)∧Below w.heap.size w w':=by
 by_cases h3:(a.S s).kind=3
 ·rw[if_pos h3]
  have e:a.pow k s=Rat.divInt 0 1:=by unfold Lns.pow;rw[if_pos h3]
  rw[e];exact Zvw _ _ w
 ·rw[if_neg h3]
  by_cases h4:(a.S s).kind=4
  ·rw[if_pos h4]
   have e:a.pow k s=a.cv s:=by unfold Lns.pow;rw[if_neg h3,if_pos h4]
   rw[e];have:=(ha.base.sok s s1).curv;exact Ztm a q s k w h s1 this.1 this.2
  ·rw[if_neg h4]
   have e:a.pow k s=a.cv s*a.step k s-a.gr k s:=by unfold Lns.pow;rw[if_neg h3,if_neg h4]
   rw[e];exact Zq5 a ha q hchk s k w h s1 k1 hf.f1 hf.f2 hf.f3 hf.f4
theorem Ztn (a:Lns) (ha:a.opt) (q:Plc) (hchk:Chk a q) (s k:Nat) (w:World) (h:OptAt w a q) (s1:s<a.ns) (k1:k<a.nw) (hf:PowFits a k s) (m:Nat) (hp:PowsAt w m) :
  Calls Tryz.prog 50 #[.agg (a.vvals q k),.int .i64 (s:Int)] w λe w'=>∃C,e=.returned (.agg C)∧QV w' (.agg C) (a.pow k s)∧Below w.heap.size w w':=by
 obtain⟨b,off,hps,hbl,hcell⟩:=h.surfs.2.2 Zo;have f0:w.cell? ⟨b,off+s*22,none⟩=some (.int .i64 (a.S s).kind):=hcell s 0 s1 Zo;have hc:=λW (hW:Below w.heap.size w W)=>Zvy a ha q hchk s k W (h.below hW) s1 k1 hf;have eg:=Zok (a.S s).kind;have hlk:=hp.kind (ha.base.sok s s1).k1 (ha.base.sok s s1).k2;have hpc:=hp.cell;have hpl:=hp.lt;simp only[Lns.vvals]at hc ⊢;rw[hps]at hc ⊢;have s1':(s:Int)<a.ns:=Zo;have hp0:=hp.pos;clear hcell hf;generalize (a.S s).kind=kd at *;generalize (if kd=3 then 282 else if kd=4 then 283 else 281)=g at *;go_enter Tryz.func50,Tryz.ntmps50
 go_wp2_with fail
 refine Zeh λW hB hs bV bR=>?_;have cV:=bV.cell;have lV:=bV.lt;replace f0:=(hB.cell (p:=⟨b,off+s*22,none⟩) hbl).trans f0;have lb:=Yaf hbl hB.size;have nb:b≠w.heap.size+1:=Zo;have nV:w.heap.size≠w.heap.size+1:=Zo;have n0:0≠w.heap.size+1:=Zo;have l0:0<W.heap.size:=Zo;replace hpc:=(hB.cell (p:=⟨0,0,none⟩) hp0).trans hpc;have hlk':∀w',((∀b o,b<W.heap.size->b≠w.heap.size+1->w'.cell? ⟨b,o,none⟩=W.cell? ⟨b,o,none⟩)∧KeepBut (w.heap.size+1) W.heap.size W w')->(Instr.lookup 173 (.map (some m)) (.int .i64 kd) false).run Tryz.prog w'=.ok (.func (.func g) #[] #[]) w':=λw' hS=>
  hlk w' ((hS.2.block m Zo Zo).trans (hB.block m hpl))
 have hSt:=λ(w':World) (i:Nat) (u:Value)=>CB.set (R:=w.heap.size+1) (W:=W) w' i u;replace hSt:=Yah hSt;replace hlk':=Yah hlk';clear hlk;refine wp_region_held_drew (S:=λw'=>(∀b o,b<W.heap.size->b≠w.heap.size+1->w'.cell? ⟨b,o,none⟩=W.cell? ⟨b,o,none⟩)∧KeepBut (w.heap.size+1) W.heap.size W w') Zk (Zls (KeepBut.refl _ _).drew) (λhHeld=>?_);refine tk 0 (some 5) ?_;refine tk 1 (some 6) ?_;refine tk 2 (some 7) ?_;refine tk 3 (some 8) ?_;refine tk 4 (some 9) ?_;refine tk 5 (some 10) ?_;refine tk 6 (some 11) ?_;refine tk 7 (some 12) ?_;refine tk 8 (some 13) ?_;refine tl 9 (some 14) rfl (.func (.func g) #[] #[]) (Zlr 173 _ _ false rfl (.map (some m)) (.int .i64 kd) _ rfl rfl hlk'.out) ?_;refine tk 10 (some 15) ?_;refine tk 11 (some 16) ?_;refine Mono.st 12 ?_;intro K hK;go_simp
 (refine(hc _ ?_).mono ?_;(exact hHeld.2.below hB Zo hB.size);rintro e W2 ⟨C,rfl,R,hb⟩)
 refine kp hK (Zls (hHeld.2.call hb)) (λhHeld=>?_);clear hK K;obtain⟨C',hC',hC,h1⟩:=R.cells;cases hC';have hi:(Tryz.prog.info? 54).map (·.size)=some C.size:=by rw[hC];exact Zan
 have bR2:=bR.drew.below hb;refine Zi0 (w.heap.size+1) 54 13 rfl rfl rfl rfl 0 C _ C Zk hSt.out rfl rfl bR2 hHeld hi (Ybl (by rw[hC];rfl)) h1 (Zah (by rw[hC];rfl)) (λW3 hk3 b3 hHeld3=>?_);refine wpAnyH_done Zk ?_ _;go_wp2
 refine bodyPost_ret (b3.results rfl _ _ rfl Tryz.underlying54 rfl hi) rfl ?_;exact⟨C,rfl,R.ext (hk3.ext bR2 Zd),hHeld3.2.below hB Zo hB.size⟩
section
open Go.Ex
def pK (m:Nat):Nat->Value
 | 0=>.map (some m)
 | _=>.bool false
theorem pK1 (m:Nat):∀i,(pK m i).oneCell'=true
 | 0=>rfl
 | _+1=>rfl
def powRun (o:Oper) (get:Operand->Option SV):Option SV:=
 match o.op with
 | .load t x => if Nat.beq t 173 then match get x with
   | some (.a (.one (.val (.pointer (some ⟨0,0,none⟩)))))=>some (.a (.one (.tok 0)))
   | _=>none
   else none
 | .lookup t x k false => if Nat.beq t 173 then match get x, get k with
   | some (.a (.one (.tok 0))),some (.a (.one (.val (.int .i64 (.ofNat 1)))))=>some (.a (.one (.clo 281 [])))
   | some (.a (.one (.tok 0))),some (.a (.one (.val (.int .i64 (.ofNat 2)))))=>some (.a (.one (.clo 281 [])))
   | some (.a (.one (.tok 0))),some (.a (.one (.val (.int .i64 (.ofNat 3)))))=>some (.a (.one (.clo 282 [])))
   | some (.a (.one (.tok 0))),some (.a (.one (.val (.int .i64 (.ofNat 4)))))=>some (.a (.one (.clo 283 [])))
   | _,_=>none
   else none
 | _=>none
def powF {K:Nat->Value} {hK:∀i,(K i).oneCell'=true} {w0:World} {m:Nat} (h:PowsAt w0 m) (h0:K 0=.map (some m):=by rfl):Fct (qDen K hK) Tryz.prog w0 (λ_=>False) where
 run:=powRun
 sound:=by
  intro o get x hr ρ wc w ev hfr hg;unfold powRun at hr;split at hr
  ·rename_i t x' ho
   split at hr
   ·rename_i ht
    obtain rfl:=Ybe ht;split at hr
    ·rename_i hx
     cases hr;have e1:ev x'=.pointer (some ⟨0,0,none⟩):=by simpa using(hg _ _ hx).1
     have hc:w.cell? ⟨0,0,none⟩=some (.map (some m)):=(Zeo (hfr.block 0 h.pos id) 0).trans h.cell;refine⟨.map (some m),?_,(show[Value.map (some m)]=[K 0] by rw[h0])⟩;unfold execOp;rw[ho];simp only[e1,Instr.loadAt,loadVar,Yar,Instr.sureAddr,Yau,Yag,Zf2 (P:=Tryz.prog) (t:=173) (b:=false) Zk,Ybq,if_false];rw[run_load,hc];rfl
    ·cases hr
   ·cases hr
  ·rename_i t y k ho
   split at hr
   ·rename_i ht
    obtain rfl:=Ybe ht;have hb:w.heap[m]? = w0.heap[m]?:=hfr.block m h.lt id;obtain⟨l1,l2,l3,l4⟩:=h.look w hb
    have go:∀{z:Int} {g:Nat},get y=some (.a (.one (.tok 0)))->get k=some (.a (.one (.val (.int .i64 z))))->(Instr.lookup 173 (.map (some m)) (.int .i64 z) false).run Tryz.prog w=.ok (.func (.func g) #[] #[]) w->
      ∃v,(execOp ev o).run Tryz.prog w=.ok (.value v) w∧denV (qDen K hK) ρ wc (.a (.one (.clo g []))) v:=by
     intro z g hy hk hl;have e1:ev y=.map (some m):=by
      have:[ev y]=[K 0]:=hg _ _ hy;rw[h0]at this;simpa using this
     have e2:ev k=.int .i64 z:=by simpa using(hg _ _ hk).1
     refine⟨_,?_,[],rfl,rfl⟩;unfold execOp;simp only[ho,e1,e2,Yar,hl,Yag,Yau]
    split at hr
    ·rename_i hy hk;cases hr;exact go hy hk l1
    ·rename_i hy hk;cases hr;exact go hy hk l2
    ·rename_i hy hk;cases hr;exact go hy hk l3
    ·rename_i hy hk;cases hr;exact go hy hk l4
    ·cases hr
   ·cases hr
  ·cases hr
end
section
open Go.Ex
theorem Zvz {w:World} {m:Nat} (sp:List (Ctr (qDen (pK m) (pK1 m)) Tryz.prog w (λ_=>False))) (fx:List (Fct (qDen (pK m) (pK1 m)) Tryz.prog w (λ_=>False))) {f:FuncId} {d:Nat}
  (hev:(evF Tryz.prog sp fx d [] f [] [] 0 0 []).map (λr=>(r.v,r.obl,r.pan))=some (.a (.one (.val (.bool true))),[],none)) :
  Calls Tryz.prog f #[] w λe w'=>e=.returned (.bool true)∧Below w.heap.size w w':=by
 refine(Zqi (D:=qDen (pK m) (pK1 m)) (d:=d) (orc:=[]) (args:=[]) Ziu sp fx (.a (.one (.val (.bool true)))) [] hev trivial (vals:=[]) rfl).mono ?_;rintro e w' ⟨v,ρ',rfl,hv,hb⟩;obtain rfl:v=.bool true:=by simpa using hv.1
 exact⟨rfl,hb⟩
theorem Zto (w:World) (m:Nat) (hp:PowsAt w m):Calls Tryz.prog 11 #[] w λe w'=>e=.returned (.bool true)∧Below w.heap.size w w':=
 Zvz (d:=40) (cOCheck w _::spC w (λ_=>False)) [powF hp] Zk
end
end Go.Proofs.W
namespace Go.Mono
def Lns.tr (a:Lns) (k:Nat) (y u:Rat):Nat->Rat×Rat
 | 0=>(y,u)
 | s + 1 =>
   let r:=a.tr k y u s
   let y2:=if s=0 then r.1 else r.1+(Rat.divInt (1*(a.S (s-1)).thick) 1000000*r.2)/a.nI k (s-1)
   (y2,r.2-Rat.divInt 1 1*(y2*a.pow k s))
def Lns.stp (a:Lns) (k s:Nat) (r:Rat×Rat):Rat×Rat:=
 let y2:=if s=0 then r.1 else r.1+(Rat.divInt (1*(a.S (s-1)).thick) 1000000*r.2)/a.nI k (s-1)
 (y2,r.2-Rat.divInt 1 1*(y2*a.pow k s))
def Lns.unstp (a:Lns) (k s:Nat) (r:Rat×Rat):Rat×Rat:=
 let u2:=r.2-Rat.divInt (-1) 1*(r.1*a.pow k s)
 (if s=0 then r.1 else r.1+(Rat.divInt (-1*(a.S (s-1)).thick) 1000000*u2)/a.nI k (s-1),u2)
def Lns.bkn (a:Lns) (ns k:Nat) (y u:Rat):Nat->Rat×Rat
 | 0=>(y,u)
 | i+1=>a.unstp k (ns-1-i) (a.bkn ns k y u i)
abbrev Lns.bk (a:Lns) (k:Nat) (y u:Rat) (i:Nat):Rat×Rat:=a.bkn a.ns k y u i
theorem Lns.tr_stp (a:Lns) (k:Nat) (y u:Rat) (s:Nat):a.tr k y u (s+1)=a.stp k s (a.tr k y u s):=rfl
theorem Lns.bk_stp (a:Lns) (k:Nat) (y u:Rat) (i:Nat):a.bk k y u (i+1)=a.unstp k (a.ns-1-i) (a.bk k y u i):=rfl
end Go.Mono
namespace Go.Proofs.W
open Go.RowKit Go.Mono
structure TrFits (a:Lns) (k:Nat) (y u:Rat):Prop where
 pow:∀s,s<a.ns->PowFits a k s
 num:∀s,s<a.ns->(a.nI k s).num≠0
 m1:∀s,s+1<a.ns->Fits (Rat.divInt (1*(a.S s).thick) 1000000*(a.tr k y u (s+1)).2)
 m2:∀s,s+1<a.ns->Fits ((Rat.divInt (1*(a.S s).thick) 1000000*(a.tr k y u (s+1)).2)/a.nI k s)
 m3:∀s,s+1<a.ns->Fits ((a.tr k y u (s+1)).1+((Rat.divInt (1*(a.S s).thick) 1000000*(a.tr k y u (s+1)).2)/a.nI k s))
 b1:∀s,s<a.ns->Fits ((a.tr k y u (s+1)).1*a.pow k s)
 b2:∀s,s<a.ns->Fits (Rat.divInt 1 1*((a.tr k y u (s+1)).1*a.pow k s))
 b3:∀s,s<a.ns->Fits ((a.tr k y u (s+1)).2)
structure BkFits (a:Lns) (k:Nat) (y u:Rat):Prop where
 pow:∀s,s<a.ns->PowFits a k s
 num:∀s,s<a.ns->(a.nI k s).num≠0
 b1:∀i s,s+i+1=a.ns->Fits ((a.bk k y u i).1*a.pow k s)
 b2:∀i s,s+i+1=a.ns->Fits (Rat.divInt (-1) 1*((a.bk k y u i).1*a.pow k s))
 b3:∀i s,s+i+1=a.ns->Fits ((a.bk k y u i).2-Rat.divInt (-1) 1*((a.bk k y u i).1*a.pow k s))
 m1:∀i t,t+1+i+1=a.ns->Fits (Rat.divInt (-1*(a.S t).thick) 1000000*((a.bk k y u i).2-Rat.divInt (-1) 1*((a.bk k y u i).1*a.pow k (t+1))))
 m2:∀i t,t+1+i+1=a.ns->Fits ((Rat.divInt (-1*(a.S t).thick) 1000000*((a.bk k y u i).2-Rat.divInt (-1) 1*((a.bk k y u i).1*a.pow k (t+1))))/a.nI k t)
 m3:∀i t,t+1+i+1=a.ns->Fits ((a.bk k y u i).1+((Rat.divInt (-1*(a.S t).thick) 1000000*((a.bk k y u i).2-Rat.divInt (-1) 1*((a.bk k y u i).1*a.pow k (t+1))))/a.nI k t))
end Go.Proofs.W
namespace Go.Mono
theorem Ov.cast {N D D':Nat} {x:Rat} (h:Ov N D x) (e:D=D'):Ov N D' x:=e▸h
theorem Ov.fits {N D k:Nat} {x:Rat} (h:Ov N D x) (hk:k<=5399) (hN:N<=10 ^ k) (hD:D<=10 ^ k):Fits x:=Hs.fits (Hs.of_ov h hN hD) hk
theorem Ze5 {z:Int} {n:Nat} (h1 : -(n:Int)<=z) (h2:z<=n):z.natAbs<=n:=Zo
theorem Lns.opt.ix_ov {a:Lns} (ha:a.opt) {k s:Nat} (hs:s<a.ns) (hk:k<a.nw):∃m:Nat,10000000<=m∧m<=40000000∧(a.ix s k*a.sgn (s+1)).natAbs=m:=by
 have h:=ha.ir s k hs hk;rcases a.sgn_cases (s+1) with e|e<;>rw[e]
 ·exact⟨(a.ix s k).natAbs,Zo,Zo,Zo⟩
 ·exact⟨(a.ix s k).natAbs,Zo,Zo,Zo⟩
theorem Lns.opt.nI_ov {a:Lns} (ha:a.opt) {k s:Nat} (hs:s<a.ns) (hk:k<a.nw):Ov 40000000 10000000 (a.nI k s):=by
 obtain⟨m,h1,h2,h3⟩:=ha.ix_ov hs hk;exact Ov.of _ 10000000 Zd _ Zo
theorem Lns.opt.nI_num {a:Lns} (ha:a.opt) {k s:Nat} (hs:s<a.ns) (hk:k<a.nw):(a.nI k s).num≠0:=by
 obtain⟨m,h1,h2,h3⟩:=ha.ix_ov hs hk;intro h;have h0:=Rat.num_eq_zero.1 h;unfold Lns.nI at h0;rw[show(10000000:Int)=((10000000:Nat):Int) from rfl,Rat.divInt_ofNat,Rat.mkRat_eq_zero Zd]at h0;omega
theorem Lns.opt.nI_inv {a:Lns} (ha:a.opt) {k s:Nat} (hs:s<a.ns) (hk:k<a.nw):∃m:Nat,0<m∧m<=40000000∧Ov 10000000 m (a.nI k s)⁻¹:=by
 obtain⟨m,h1,h2,h3⟩:=ha.ix_ov hs hk;refine⟨m,Zo,h2,?_⟩;unfold Lns.nI;rw[Rat.inv_divInt];rcases Int.natAbs_eq (a.ix s k*a.sgn (s+1)) with e|e
 ·rw[e,h3]
  exact Ov.of _ m Zo _ Zd
 ·rw[e,h3]
  have:Rat.divInt 10000000 (-(m:Int))=Rat.divInt (-10000000) (m:Int):=by
   rw[Rat.divInt_neg']
  rw[this];exact Ov.of _ m Zo _ Zd
theorem Lns.opt.nB_ov {a:Lns} (ha:a.opt) {k s:Nat} (hs:s<a.ns) (hk:k<a.nw):Ov 40000000 10000000 (a.nB k s):=by
 unfold Lns.nB;split
 ·exact((Ov.of 1 1 Zd 1 Zd).scale 10000000 Zd).mono Zd
 ·exact ha.nI_ov Zo hk
theorem Lns.opt.cv_ov {a:Lns} (ha:a.opt) {s:Nat} (hs:s<a.ns):Ov 1000000000 1000000000 (a.cv s):=by
 have h:=(ha.base.sok s hs).curv;exact Ov.of _ 1000000000 Zd _ (Ze5 h.1 h.2)
theorem Lns.opt.step_ov {a:Lns} (ha:a.opt) {k s:Nat} (hs:s<a.ns) (hk:k<a.nw):Ov 80000000 10000000 (a.step k s):=
 (ha.nI_ov hs hk).sub_same (ha.nB_ov hs hk)
theorem Lns.opt.gr_ov {a:Lns} (ha:a.opt) {k s:Nat} (hs:s<a.ns) (hk:k<a.nw):Ov (6000000000*2500000) (10000000*10000000) (a.gr k s):=by
 have ho:=(ha.base.sok s hs).order;have hp:=(ha.base.sok s hs).p0;have hl:=ha.base.wl k hk;have h1:(2*(a.S s).order*(a.S s).p0).natAbs<=6000000000:=by
  rw[Yde];have e1:(2*(a.S s).order).natAbs<=6:=Ze5 (by have:=ho.1;omega) (by have:=ho.2;omega);have e2:((a.S s).p0).natAbs<=1000000000:=Ze5 hp.1 hp.2;exact Yak (Ybv e1 e2) Zd
 exact(Ov.of _ 10000000 Zd _ h1).mul (Ov.of _ 10000000 Zd _ Zo)
theorem Lns.opt.cs_ov {a:Lns} (ha:a.opt) {k s:Nat} (hs:s<a.ns) (hk:k<a.nw):Ov (1000000000*80000000) (1000000000*10000000) (a.cv s*a.step k s):=
 (ha.cv_ov hs).mul (ha.step_ov hs hk)
theorem Lns.opt.curved_ov {a:Lns} (ha:a.opt) {k s:Nat} (hs:s<a.ns) (hk:k<a.nw):Ov (10 ^ 19) (10 ^ 16) (a.cv s*a.step k s-a.gr k s):=by
 have h1:=(ha.cs_ov hs hk).cast (show 1000000000*10000000=10 ^ 16 by decide);have h2:=((ha.gr_ov hs hk).scale 100 Zd).cast (show 10000000*10000000*100=10 ^ 16 by decide);exact(h1.sub_same h2).mono Zd
theorem Lns.opt.pow_ov {a:Lns} (ha:a.opt) {k s:Nat} (hs:s<a.ns) (hk:k<a.nw):Ov (10 ^ 19) (10 ^ 16) (a.pow k s):=by
 unfold Lns.pow;split
 ·exact((Ov.of 0 1 Zd 0 Zd).scale (10 ^ 16) Zd).mono Zd |>.cast Zd
 ·split
  ·exact(((ha.cv_ov hs).scale 10000000 Zd).mono Zd).cast Zd
  ·exact ha.curved_ov hs hk
theorem Zgh {a b:Nat} (h:a<=b):10 ^ a<=10 ^ b:=Nat.pow_le_pow_right Zd h
theorem Lns.opt.gap_ov {a:Lns} (ha:a.opt) {s:Nat} (hs:s<a.ns) (j:Int) (hj:j.natAbs=1):Ov 1000000000 1000000 (Rat.divInt (j*(a.S s).thick) 1000000):=by
 have h:=(ha.base.sok s hs).thick;refine Ov.of _ 1000000 Zd _ ?_;rw[Yde,hj,Nat.one_mul];exact Ze5 h.1 h.2
theorem Lns.opt.move_ov {a:Lns} (ha:a.opt) {k s:Nat} (hs:s<a.ns) (hk:k<a.nw) (j:Int) (hj:j.natAbs=1) {N D:Nat} {y u:Rat} (hy:Ov N D y) (hu:Ov N D u) :
  ∃D',D'<=D*10 ^ 14∧D ∣ D'∧D'/D<=10 ^ 14∧Ov (10 ^ 9*N) (10 ^ 6*D) (Rat.divInt (j*(a.S s).thick) 1000000*u)∧Ov (N*10 ^ 16) D' ((Rat.divInt (j*(a.S s).thick) 1000000*u)/a.nI k s)∧Ov (N*10 ^ 17) D' (y+(Rat.divInt (j*(a.S s).thick) 1000000*u)/a.nI k s)∧Ov (N*10 ^ 14) D' u:=by
 obtain⟨m,m0,m1,hm⟩:=ha.nI_inv hs hk;have hD:=hy.1;have h1:=(ha.gap_ov hs j hj).mul hu;have e:1000000*D*m=D*(1000000*m):=by rw[Ycu 1000000 D,Yfv]
 have h2:Ov (N*10 ^ 16) (D*(1000000*m)) ((Rat.divInt (j*(a.S s).thick) 1000000*u)/a.nI k s):=by
  rw[Yew];refine((h1.mul hm).cast e).mono ?_;rw[Ycu 1000000000 N,Yfv];exact Yci _ Zd
 have hk':1000000*m<=10 ^ 14:=by
  have:(10:Nat) ^ 14=100000000000000:=Zd;omega
 have hy2:=(hy.scale (1000000*m) Zo).mono (Yci N hk');have hu2:=(hu.scale (1000000*m) Zo).mono (Yci N hk');refine⟨D*(1000000*m),Yci _ hk',Nat.dvd_mul_right _ _,?_,h1,h2,?_,hu2⟩
 ·rw[Nat.mul_div_cancel_left _ hD];exact hk'
 ·refine(hy2.add_same h2).mono ?_
  rw[<-Nat.mul_add];exact Yci _ Zd
theorem Lns.opt.bend_ov {a:Lns} (ha:a.opt) {k s:Nat} (hs:s<a.ns) (hk:k<a.nw) {N M D:Nat} {y u:Rat} (hy:Ov N D y) (hu:Ov M D u) (j:Rat) (hj:j=1∨j = -1) :
  Ov (N*10 ^ 19) (D*10 ^ 16) (y*a.pow k s)∧Ov (N*10 ^ 19) (D*10 ^ 16) (j*(y*a.pow k s))∧Ov (M*10 ^ 16+N*10 ^ 19) (D*10 ^ 16) (u-j*(y*a.pow k s)):=by
 have h1:=hy.mul (ha.pow_ov hs hk);have h2:Ov (N*10 ^ 19) (D*10 ^ 16) (j*(y*a.pow k s)):=by
  rcases hj with rfl|rfl
  ·rw[Rat.one_mul];exact h1
  ·rw[Rat.neg_mul,Rat.one_mul];exact h1.neg
 exact⟨h1,h2,(hu.scale _ Zd).sub_same h2⟩
theorem Lns.opt.tr_ov {a:Lns} (ha:a.opt) {k:Nat} (hk:k<a.nw) {y u:Rat} {K:Nat} {D0:Nat} (hD0:D0<=10 ^ K) (hy:Ov (10 ^ K) D0 y) (hu:Ov (10 ^ K) D0 u) :
  ∀s,s<=a.ns->∃D,D<=10 ^ (K+30*s)∧Ov (10 ^ (K+37*s)) D (a.tr k y u s).1∧Ov (10 ^ (K+37*s)) D (a.tr k y u s).2
 | 0,_=>⟨D0,hD0,hy,hu⟩
 | s + 1, hs => by
   obtain⟨D,hD,h1,h2⟩:=Lns.opt.tr_ov ha hk hD0 hy hu s Zo;obtain⟨D',hD',h3,h4⟩:∃D',D'<=D*10 ^ 14∧Ov (10 ^ (K+37*s)*10 ^ 17) D' (a.tr k y u (s+1)).1∧Ov (10 ^ (K+37*s)*10 ^ 17) D' (a.tr k y u s).2:=by
    rw[show(a.tr k y u (s+1)).1=(if s=0 then(a.tr k y u s).1 else(a.tr k y u s).1+(Rat.divInt (1*(a.S (s-1)).thick) 1000000*(a.tr k y u s).2)/a.nI k (s-1)) from rfl];split
    ·exact⟨D,Yfd _ (show 0<10 ^ 14 by decide),h1.mono (Yfd _ (show 0<10 ^ 17 by decide)),h2.mono (Yfd _ (show 0<10 ^ 17 by decide))⟩
    ·obtain⟨D',g1,_,_,_,_,g2,g3⟩:=ha.move_ov (s:=s-1) Zo hk 1 rfl h1 h2
     exact⟨D',g1,g2,g3.mono (Yci _ (show 10 ^ 14<=10 ^ 17 by decide))⟩
   obtain⟨_,_,h5⟩:=ha.bend_ov (s:=s) Zo hk h3 h4 (Rat.divInt 1 1) (.inl (by decide +kernel));have e1:(10:Nat) ^ (K+37*(s+1))=10 ^ (K+37*s)*10 ^ 37:=by rw[<-Ydn];congr 1
   have e2:(10:Nat) ^ (K+30*(s+1))=10 ^ (K+30*s)*10 ^ 30:=by rw[<-Ydn];congr 1
   refine⟨D'*10 ^ 16,?_,?_,?_⟩
   ·rw[e2]
    have:=Ybv hD (Yab (10 ^ 14));have h6:=Ybv (Yak hD' this) (Yab (10 ^ 16));rw[Yfv]at h6;exact h6
   ·rw[e1]
    refine(h3.scale (10 ^ 16) Zd).mono ?_;rw[Yfv];exact Yci _ Zd
   ·rw[e1]
    refine Ov.mono (show Ov _ _ (a.tr k y u (s+1)).2 from h5) ?_;rw[Yfv,Yfv,<-Nat.mul_add];exact Yci _ Zd
theorem Hs.two {k:Nat} {x y:Rat} (hx:Hs k x) (hy:Hs k y):∃D,D<=10 ^ (k+k)∧Ov (10 ^ (k+k)) D x∧Ov (10 ^ (k+k)) D y:=by
 refine⟨x.den*y.den,?_,?_,?_⟩
 ·rw[Ydn];exact Ybv hx.2 hy.2
 ·refine(hx.ov.scale y.den y.den_pos).mono ?_
  rw[Ydn];exact Yci _ hy.2
 ·refine((hy.ov.scale x.den x.den_pos).cast (Ycu _ _)).mono ?_
  rw[Ydn];exact Yci _ hx.2
end Go.Mono
namespace Go.Proofs.W
open Go.RowKit Go.Mono
theorem Zl3 {a:Lns} (ha:a.opt) {k s:Nat} (hs:s<a.ns) (hk:k<a.nw):PowFits a k s:=by
 exact⟨(ha.step_ov hs hk).fits (k:=30) Zd Zd Zd,(ha.cs_ov hs hk).fits (k:=30) Zd Zd Zd,(ha.gr_ov hs hk).fits (k:=30) Zd Zd Zd,(ha.curved_ov hs hk).fits (k:=30) Zd Zd Zd⟩
theorem Zoz {a:Lns} (ha:a.opt) {k:Nat} (hk:k<a.nw) {y u:Rat} {K:Nat} (hK:K<=4000) {D0:Nat} (hD0:D0<=10 ^ K) (hy:Ov (10 ^ K) D0 y) (hu:Ov (10 ^ K) D0 u):TrFits a k y u:=by
 have hn:=ha.base.ns;have tr:=λs hs=>ha.tr_ov hk hD0 hy hu s hs;have b':∀s c {n:Nat},n<=10 ^ (K+37*s)*10 ^ c->c<=20->n<=10 ^ (K+37*s+20):=λs c n h hc=>by
  rw[<-Ydn]at h;exact Yak h (Zgh Zo)
 have e30:∀s,(10:Nat) ^ (K+30*s)<=10 ^ (K+37*s):=λs=>Zgh Zo;refine⟨λs hs=>Zl3 ha hs hk,λs hs=>ha.nI_num hs hk,λs hs=>?_,λs hs=>?_,λs hs=>?_,λs hs=>?_,λs hs=>?_,λs hs=>?_⟩
 ·obtain⟨D,hD,h1,h2⟩:=tr (s+1) Zo
  obtain⟨D',g1,_,_,g2,g3,g4,_⟩:=ha.move_ov (s:=s) Zo hk 1 rfl h1 h2;refine g2.fits (k:=K+37*(s+1)+20) Zo (b' (s+1) 9 (by rw[Ycu];exact Yab _) Zd) (b' (s+1) 6 ?_ Zd);rw[Ycu];exact Ybd _ (Yak hD (e30 _))
 ·obtain⟨D,hD,h1,h2⟩:=tr (s+1) Zo
  obtain⟨D',g1,_,_,g2,g3,g4,_⟩:=ha.move_ov (s:=s) Zo hk 1 rfl h1 h2;exact g3.fits (k:=K+37*(s+1)+20) Zo (b' (s+1) 16 (Yab _) Zd) (b' (s+1) 14 (Yak g1 (Ybd _ (Yak hD (e30 _)))) Zd)
 ·obtain⟨D,hD,h1,h2⟩:=tr (s+1) Zo
  obtain⟨D',g1,_,_,g2,g3,g4,_⟩:=ha.move_ov (s:=s) Zo hk 1 rfl h1 h2;exact g4.fits (k:=K+37*(s+1)+20) Zo (b' (s+1) 17 (Yab _) Zd) (b' (s+1) 14 (Yak g1 (Ybd _ (Yak hD (e30 _)))) Zd)
 ·obtain⟨D,hD,h1,h2⟩:=tr (s+1) Zo
  obtain⟨g1,_,_⟩:=ha.bend_ov (s:=s) hs hk h1 h2 1 (.inl rfl);exact g1.fits (k:=K+37*(s+1)+20) Zo (b' (s+1) 19 (Yab _) Zd) (b' (s+1) 16 (Ybd _ (Yak hD (e30 _))) Zd)
 ·obtain⟨D,hD,h1,h2⟩:=tr (s+1) Zo
  obtain⟨_,g1,_⟩:=ha.bend_ov (s:=s) hs hk h1 h2 (Rat.divInt 1 1) (.inl (by decide +kernel));exact g1.fits (k:=K+37*(s+1)+20) Zo (b' (s+1) 19 (Yab _) Zd) (b' (s+1) 16 (Ybd _ (Yak hD (e30 _))) Zd)
 ·obtain⟨D,hD,h1,h2⟩:=tr (s+1) Zo
  exact h2.fits (k:=K+37*(s+1)+20) Zo (b' (s+1) 0 (by rw[Nat.pow_zero,Yfk];exact Yab _) Zd) (b' (s+1) 0 (by rw[Nat.pow_zero,Yfk];exact Yak hD (e30 _)) Zd)
end Go.Proofs.W
namespace Go.Mono
theorem Zyf (t:Int):Rat.divInt (-1*t) 1000000 = -Rat.divInt (1*t) 1000000:=by
 rw[Rat.neg_divInt,Yga,Int.neg_mul,Yga]
theorem Lns.unstp_stp (a:Lns) (k s:Nat) (r:Rat×Rat):a.unstp k s (a.stp k s r)=r:=by
 obtain⟨y,u⟩:=r;unfold unstp stp;dsimp only;rw[Zyf,show Rat.divInt 1 1=1 by decide +kernel,show Rat.divInt (-1) 1 = -1 by decide +kernel];simp only[Yew];generalize a.pow k s=p;generalize (a.nI k (s-1))⁻¹=n;generalize Rat.divInt (1*(a.S (s-1)).thick) 1000000=g;split
 ·congr 1;grind
 ·congr 1<;>grind
theorem Lns.stp_unstp (a:Lns) (k s:Nat) (r:Rat×Rat):a.stp k s (a.unstp k s r)=r:=by
 obtain⟨y,u⟩:=r;unfold unstp stp;dsimp only;rw[Zyf,show Rat.divInt 1 1=1 by decide +kernel,show Rat.divInt (-1) 1 = -1 by decide +kernel];simp only[Yew];generalize a.pow k s=p;generalize (a.nI k (s-1))⁻¹=n;generalize Rat.divInt (1*(a.S (s-1)).thick) 1000000=g;split
 ·congr 1;grind
 ·congr 1<;>grind
theorem Lns.bk_tr (a:Lns) (k:Nat) (y u:Rat):∀i,i<=a.ns->a.bk k (a.tr k y u a.ns).1 (a.tr k y u a.ns).2 i=a.tr k y u (a.ns-i)
 | 0,_=>rfl
 | i + 1, hi => by
   rw[a.bk_stp,a.bk_tr k y u i Zo];obtain⟨s,hs⟩:∃s,a.ns-i=s+1:=⟨a.ns-i-1,Zo⟩
   rw[hs,a.tr_stp,show a.ns-1-i=s by omega,a.unstp_stp,show a.ns-(i+1)=s by omega]
theorem Lns.tr_bk (a:Lns) (k:Nat) (y u:Rat):∀s,s<=a.ns->a.tr k (a.bk k y u a.ns).1 (a.bk k y u a.ns).2 s=a.bk k y u (a.ns-s)
 | 0,_=>rfl
 | s + 1, hs => by
   rw[a.tr_stp,a.tr_bk k y u s Zo];obtain⟨i,hi⟩:∃i,a.ns-s=i+1:=⟨a.ns-s-1,Zo⟩
   rw[hi,a.bk_stp,show a.ns-1-i=s by omega,a.stp_unstp,show a.ns-(s+1)=i by omega]
theorem Zyl (N a b c:Nat) (h:a+b=c):N*10 ^ a*10 ^ b=N*10 ^ c:=by rw[Yfv,<-Ydn,h]
theorem Lns.opt.unbend_ov {a:Lns} (ha:a.opt) {k s:Nat} (hs:s<a.ns) (hk:k<a.nw) {N D:Nat} {y u:Rat} (hy:Ov N D y) (hu:Ov N D u) :
  Ov (N*10 ^ 20) (D*10 ^ 16) (y*a.pow k s)∧Ov (N*10 ^ 20) (D*10 ^ 16) (Rat.divInt (-1) 1*(y*a.pow k s))∧Ov (N*10 ^ 20) (D*10 ^ 16) (u-Rat.divInt (-1) 1*(y*a.pow k s))∧Ov (N*10 ^ 20) (D*10 ^ 16) y:=by
 obtain⟨h1,h2,h3⟩:=ha.bend_ov hs hk hy hu (Rat.divInt (-1) 1) (.inr (by decide +kernel));have e:=Yci N (show 10 ^ 19<=10 ^ 20 by decide);refine⟨h1.mono e,h2.mono e,h3.mono ?_,(hy.scale (10 ^ 16) Zd).mono (Yci N Zd)⟩;rw[<-Nat.mul_add];exact Yci N Zd
theorem Lns.opt.bk_ov {a:Lns} (ha:a.opt) {k:Nat} (hk:k<a.nw) {y u:Rat} {K:Nat} {D0:Nat} (hD0:D0<=10 ^ K) (hy:Ov (10 ^ K) D0 y) (hu:Ov (10 ^ K) D0 u) :
  ∀i,i<=a.ns->∃D,D<=10 ^ (K+30*i)∧Ov (10 ^ (K+37*i)) D (a.bk k y u i).1∧Ov (10 ^ (K+37*i)) D (a.bk k y u i).2
 | 0,_=>⟨D0,hD0,hy,hu⟩
 | i + 1, hi => by
   obtain⟨D,hD,h1,h2⟩:=Lns.opt.bk_ov ha hk hD0 hy hu i Zo;obtain⟨_,_,h3,h4⟩:=ha.unbend_ov (s:=a.ns-1-i) Zo hk h1 h2;have e1:(10:Nat) ^ (K+37*(i+1))=10 ^ (K+37*i)*10 ^ 20*10 ^ 17:=by rw[Zyl _ _ _ 37 rfl,<-Ydn];congr 1
   have e2:(10:Nat) ^ (K+30*(i+1))=10 ^ (K+30*i)*10 ^ 16*10 ^ 14:=by rw[Zyl _ _ _ 30 rfl,<-Ydn];congr 1
   have hD2:=Ybd (10 ^ 16) hD;rw[e1,e2,a.bk_stp];unfold Lns.unstp;dsimp only;split
   ·exact⟨D*10 ^ 16,Yak hD2 (Yfd _ Zd),h4.mono (Yfd _ Zd),h3.mono (Yfd _ Zd)⟩
   ·obtain⟨D',g1,_,_,_,_,g2,g3⟩:=ha.move_ov (s:=a.ns-1-i-1) Zo hk (-1) rfl h4 h3
    exact⟨D',Yak g1 (Ybd _ hD2),g2,g3.mono (Yci _ Zd)⟩
end Go.Mono
namespace Go.Proofs.W
open Go.RowKit Go.Mono
theorem Zx2 {a:Lns} (ha:a.opt) {k:Nat} (hk:k<a.nw) {y u:Rat} {K:Nat} (hK:K<=4000) {D0:Nat} (hD0:D0<=10 ^ K) (hy:Ov (10 ^ K) D0 y) (hu:Ov (10 ^ K) D0 u):BkFits a k y u:=by
 have hn:=ha.base.ns;have bk:=λi hi=>ha.bk_ov hk hD0 hy hu i hi;have fit:∀i c {N D:Nat} {x:Rat},i<=a.ns->Ov N D x->N<=10 ^ (K+37*i)*10 ^ c->D<=10 ^ (K+37*i)*10 ^ c->c<=40->Fits x:=λi c {N D x} hi h h1 h2 hc=>by
  rw[<-Ydn]at h1 h2;exact h.fits (k:=K+37*i+c) Zo h1 h2
 have dd:∀i {D:Nat} c,D<=10 ^ (K+30*i)->16<=c->D*10 ^ 16<=10 ^ (K+37*i)*10 ^ c:=λi D c h hc=>Ybv (Yak h (Zgh Zo)) (Zgh hc);have st:∀i t,t+1+i+1=a.ns->∃N D,N=10 ^ (K+37*i)*10 ^ 20∧D<=10 ^ (K+37*i)*10 ^ 16∧Ov N D (a.bk k y u i).1∧Ov N D ((a.bk k y u i).2-Rat.divInt (-1) 1*((a.bk k y u i).1*a.pow k (t+1))):=λi t h=>by
  obtain⟨D,hD,h1,h2⟩:=bk i Zo;obtain⟨_,_,h3,h4⟩:=ha.unbend_ov (s:=t+1) Zo hk h1 h2;exact⟨_,_,rfl,dd i 16 hD Zd,h4,h3⟩
 have c20:∀i b,b<=20->10 ^ (K+37*i)*10 ^ 20*10 ^ b<=10 ^ (K+37*i)*10 ^ 40:=λi b hb=>by
  rw[Zyl _ 20 b _ rfl];exact Yci _ (Zgh Zo)
 have c16:∀i b {D:Nat},D<=10 ^ (K+37*i)*10 ^ 16->b<=20->D*10 ^ b<=10 ^ (K+37*i)*10 ^ 40:=λi b D h hb=>by
  have:=Ybd (10 ^ b) h;rw[Zyl _ 16 b _ rfl]at this;exact Yak this (Yci _ (Zgh Zo))
 refine⟨λs hs=>Zl3 ha hs hk,λs hs=>ha.nI_num hs hk,λi s h=>?_,λi s h=>?_,λi s h=>?_,λi t h=>?_,λi t h=>?_,λi t h=>?_⟩
 ·obtain⟨D,hD,h1,h2⟩:=bk i Zo
  exact fit i 20 Zo (ha.unbend_ov (s:=s) Zo hk h1 h2).1 (Yab _) (dd i 20 hD Zd) Zd
 ·obtain⟨D,hD,h1,h2⟩:=bk i Zo
  exact fit i 20 Zo (ha.unbend_ov (s:=s) Zo hk h1 h2).2.1 (Yab _) (dd i 20 hD Zd) Zd
 ·obtain⟨D,hD,h1,h2⟩:=bk i Zo
  exact fit i 20 Zo (ha.unbend_ov (s:=s) Zo hk h1 h2).2.2.1 (Yab _) (dd i 20 hD Zd) Zd
 ·obtain⟨N,D,rfl,hD,h1,h2⟩:=st i t h
  obtain⟨D',g1,_,_,g2,g3,g4,_⟩:=ha.move_ov (s:=t) Zo hk (-1) rfl h1 h2;exact fit i 40 Zo g2 (by rw[Ycu];exact c20 i 9 Zd) (by rw[Ycu];exact c16 i 6 hD Zd) Zd
 ·obtain⟨N,D,rfl,hD,h1,h2⟩:=st i t h
  obtain⟨D',g1,_,_,g2,g3,g4,_⟩:=ha.move_ov (s:=t) Zo hk (-1) rfl h1 h2;exact fit i 40 Zo g3 (c20 i 16 Zd) (Yak g1 (c16 i 14 hD Zd)) Zd
 ·obtain⟨N,D,rfl,hD,h1,h2⟩:=st i t h
  obtain⟨D',g1,_,_,g2,g3,g4,_⟩:=ha.move_ov (s:=t) Zo hk (-1) rfl h1 h2;exact fit i 40 Zo g4 (c20 i 17 Zd) (Yak g1 (c16 i 14 hD Zd)) Zd
end Go.Proofs.W
namespace Go.Ex
open Go.RowKit Go.Mono
def srfU (s:Srf) (p:Option Addr) (c:Nat) (l:List U):List U:=
 .sym s.kind::.sym s.curv::.sym s.conic::.sym s.curvx::.sym s.conicx::.sym s.a0::.sym s.a1::.sym s.a2::.sym s.a3::.sym s.p0::.sym s.p1::.sym s.order::.sym s.thick::.val (.string s.glass)::.sym s.semi::.sym s.hole::.sym s.dx::.sym s.dy::.sym s.ax::.sym s.ay::.sym s.az::.val (.slice p s.co.length c)::l
def srfsU (a:Lns) (q:Plc):Nat->Nat->List U
 | _,0=>[]
 | s,n+1=>srfU (a.S s) (q.cp s) (q.cl s) (srfsU a q (s+1) n)
theorem Zyk {D:Den} {ρ:Nm} {w:World} {s:Srf} {p:Option Addr} {c:Nat} {l:List U}:∀{cs:List Value},denL D ρ w (srfU s p c l) cs↔∃ds,cs=(s.cs p c).toList++ds∧denL D ρ w l ds:=by
 intro cs;constructor
 ·rintro⟨_,d0,rfl,h0,_,d1,rfl,h1,_,d2,rfl,h2,_,d3,rfl,h3,_,d4,rfl,h4,_,d5,rfl,h5,_,d6,rfl,h6,_,d7,rfl,h7,_,d8,rfl,h8,_,d9,rfl,h9,_,d10,rfl,h10,_,d11,rfl,h11,_,d12,rfl,h12,_,d13,rfl,⟨h13,_⟩,_,d14,rfl,h14,_,d15,rfl,h15,_,d16,rfl,h16,_,d17,rfl,h17,_,d18,rfl,h18,_,d19,rfl,h19,_,d20,rfl,h20,_,d21,rfl,⟨h21,_⟩,h⟩
  refine⟨d21,?_,h⟩;cases h0;cases h1;cases h2;cases h3;cases h4;cases h5;cases h6;cases h7;cases h8;cases h9;cases h10;cases h11;cases h12;cases h13;cases h14;cases h15;cases h16;cases h17;cases h18;cases h19;cases h20;cases h21;rfl
 ·rintro⟨ds,rfl,h⟩
  exact⟨[_],_,rfl,rfl,[_],_,rfl,rfl,[_],_,rfl,rfl,[_],_,rfl,rfl,[_],_,rfl,rfl,[_],_,rfl,rfl,[_],_,rfl,rfl,[_],_,rfl,rfl,[_],_,rfl,rfl,[_],_,rfl,rfl,[_],_,rfl,rfl,[_],_,rfl,rfl,[_],_,rfl,rfl,[_],_,rfl,⟨rfl,rfl⟩,[_],_,rfl,rfl,[_],_,rfl,rfl,[_],_,rfl,rfl,[_],_,rfl,rfl,[_],_,rfl,rfl,[_],_,rfl,rfl,[_],_,rfl,rfl,[_],_,rfl,⟨rfl,rfl⟩,h⟩
def srfsC (a:Lns) (q:Plc) (s n:Nat):List Value:=(List.range' s n).flatMap λi=>((a.S i).cs (q.cp i) (q.cl i)).toList
theorem Zxx {D:Den} {ρ:Nm} {w:World} {a:Lns} {q:Plc}:∀(n s:Nat) {cs:List Value},denL D ρ w (srfsU a q s n) cs↔cs=srfsC a q s n
 | 0,s,cs=>Iff.rfl
 | n + 1, s, cs => by
   unfold srfsU;rw[Zyk,srfsC,List.range'_succ,List.flatMap_cons];constructor
   ·rintro⟨ds,rfl,h⟩
    rw[(Zxx n (s+1)).1 h];rfl
   ·rintro rfl
    exact⟨_,rfl,(Zxx n (s+1)).2 rfl⟩
theorem Zx1 (a:Lns) (q:Plc):∀(n s i j:Nat),i<n->j<22->(srfsC a q s n)[i*22+j]? = some (((a.S (s+i)).cs (q.cp (s+i)) (q.cl (s+i))).getD j undef)
 | 0,_,_,_,h,_=>absurd h Zo
 | n + 1, s, i, j, hi, hj => by
   have e:srfsC a q s (n+1)=((a.S s).cs (q.cp s) (q.cl s)).toList++srfsC a q (s+1) n:=by unfold srfsC;rw[List.range'_succ,List.flatMap_cons]
   have h22:((a.S s).cs (q.cp s) (q.cl s)).toList.length=22:=rfl;rw[e];match i with
   | 0 =>
     rw[Yez,Yba,Ybb Zo,Yce,Yaq,Yax,Yby (show j<((a.S s).cs (q.cp s) (q.cl s)).size from hj)];rfl
   | i + 1 =>
     rw[Ybc Zo,h22,show(i+1)*22+j-22=i*22+j by omega,Zx1 a q n (s+1) i j Zo hj,show s+1+i=s+(i+1) by omega]
theorem Zx7 {w:World} {b o:Nat} {v:Value} (h:w.cell? ⟨b,o,none⟩=some v):b<w.heap.size:=
 Nat.lt_of_not_le λhle=>by
  have:=Yfj hle;simp[World.cell?,this]at h
def optU (a:Lns) (q:Plc) (ns k:Nat):List U:=[.val (.string a.nm),.sym a.di,.sym a.pu,.sym a.st,.sym a.pr,.val (.slice q.pf a.nf q.cf),.val (.slice q.pw a.nw q.cw),.slc k 0 ns q.cs,.val (.slice q.pc 0 q.cc),.val (.slice q.pi a.ns q.ci)]
theorem Zx8 {D:Den} {ρ:Nm} {w:World} {a:Lns} {q:Plc} {ns k:Nat} (hns:a.ns=ns) {cs:List Value}:denL D ρ w (optU a q ns k) cs↔∃B,ρ k=some B∧cs=(a.ovals {q with ps:=some ⟨B.blk,B.base,none⟩}).toList:=by
 subst hns;constructor
 ·rintro⟨_,d0,rfl,⟨h0,_⟩,_,d1,rfl,h1,_,d2,rfl,h2,_,d3,rfl,h3,_,d4,rfl,h4,_,d5,rfl,⟨h5,_⟩,_,d6,rfl,⟨h6,_⟩,_,d7,rfl,⟨B,hB,h7⟩,_,d8,rfl,⟨h8,_⟩,_,d9,rfl,⟨h9,_⟩,h⟩
  refine⟨B,hB,?_⟩;cases h0;cases h1;cases h2;cases h3;cases h4;cases h5;cases h6;cases h7;cases h8;cases h9;obtain rfl:d9=[]:=h;rfl
 ·rintro⟨B,hB,rfl⟩
  exact⟨[_],_,rfl,⟨rfl,rfl⟩,[_],_,rfl,rfl,[_],_,rfl,rfl,[_],_,rfl,rfl,[_],_,rfl,rfl,[_],_,rfl,⟨rfl,rfl⟩,[_],_,rfl,⟨rfl,rfl⟩,[_],_,rfl,⟨B,hB,rfl⟩,[_],_,rfl,⟨rfl,rfl⟩,[_],_,rfl,⟨rfl,rfl⟩,rfl⟩
end Go.Ex
namespace Go.Proofs.W
open Go.RowKit Go.Mono
section
open Go.Ex
theorem Zxb {a:Lns} (ha:a.opt) (q:Plc):Chk a q:=λW h=>Zqy a ha q W h
def srfB (a:Lns) (q:Plc) (ns:Nat):Blk:=⟨117,srfsU a q 0 ns,true,false,false⟩
def seesO (a:Lns) (q:Plc) (ns:Nat) (l:List U) (bk:List (Nat×Blk)):Option (List Prop):=
 match l with
 | [_,_,_,_,_,_,_,.slc k _ _ _,_,_]=>(bk.look k).map λb=>[l=optU a q ns k,b=srfB a q ns]
 | _=>none
theorem Zx9 {D:Den} {w:World} {a:Lns} {q:Plc} {ns:Nat} (hns:a.ns=ns) (h0:2<=ns) (ho:OptAt w a q) {l:List U} {bk:List (Nat×Blk)} {L:List Prop} (h:seesO a q ns l bk=some L) (hL:∀p∈L,p) {ρ:Nm} (hb:BkOk D ρ w w bk) {cs:List Value} (hd:denL D ρ w l cs) :
  ∃q',cs=(a.ovals q').toList∧OptAt w a q':=by
 unfold seesO at h;split at h
 ·rename_i k _ _ _ _ _
  obtain⟨b,hk,e⟩:=Yad.1 h;subst e;have e1:=hL _ (Ycl ..);have e2:b=srfB a q ns:=hL _ Zs;subst e2;rw[e1]at hd;obtain⟨B,hB,rfl⟩:=(Zx8 hns).1 hd;obtain⟨B',cs',hB',hH,hC,_⟩:=hb _ _ hk rfl;rw[hB]at hB';cases hB';obtain rfl:=(Zxx ns 0).1 hC;refine⟨_,rfl,⟨⟨ho.fields,ho.waves,?_,ho.coat⟩,ho.index,ho.row⟩⟩;obtain⟨h1,h2,_⟩:=ho.surfs;have hc:=λi j (hi:i<a.ns) (hj:j<22)=>hH.cell (Zx1 a q ns 0 i j Zo hj);refine⟨h1,h2,λ_=>⟨B.blk,B.base,rfl,Zx7 (hc 0 0 Zo Zd),λi j hi hj=>?_⟩⟩;have:=hc i j hi hj;rw[Yba]at this;rw[Ybj];exact this
 ·cases h
def viewOf (l:List U):Option (List U×Int):=
 match l with
 | [a, b, c, d, e, f, g, h, i, j, x] => match Ex.intOf (some (.a (.one x))) with
   | some (.i64,k,_)=>some ([a,b,c,d,e,f,g,h,i,j],k)
   | _=>none
 | _=>none
theorem Zye {D:Den} {ρ:Nm} {w:World} {l m:List U} {k:Int} (h:viewOf l=some (m,k)) {cs:List Value} (hd:denL D ρ w l cs):∃ds,cs=ds++[.int .i64 k]∧denL D ρ w m ds:=by
 unfold viewOf at h;split at h
 ·split at h
  ·rename_i hx
   cases h;obtain⟨c0,d0,rfl,h0,c1,d1,rfl,h1,c2,d2,rfl,h2,c3,d3,rfl,h3,c4,d4,rfl,h4,c5,d5,rfl,h5,c6,d6,rfl,h6,c7,d7,rfl,h7,c8,d8,rfl,h8,c9,d9,rfl,h9,c10,d10,rfl,h10,hd⟩:=hd;obtain rfl:d10=[]:=hd;obtain⟨v,rfl⟩:∃v,c10=[v]:=by
    unfold Ex.intOf at hx;split at hx
    ·rename_i e;cases e;exact⟨_,h10.1⟩
    ·rename_i e;cases e;exact⟨_,h10⟩
    ·rename_i e;cases e;exact⟨_,h10⟩
    ·cases hx
   obtain rfl:=Zdy (D:=D) (ρ:=ρ) (w:=w) hx h10;exact⟨c0++(c1++(c2++(c3++(c4++(c5++(c6++(c7++(c8++(c9++[]))))))))),Zs,c0,_,rfl,h0,c1,_,rfl,h1,c2,_,rfl,h2,c3,_,rfl,h3,c4,_,rfl,h4,c5,_,rfl,h5,c6,_,rfl,h6,c7,_,rfl,h7,c8,_,rfl,h8,c9,_,rfl,h9,rfl⟩
  ·cases h
 ·cases h
variable {K:Nat->Value} {hK:∀i,(K i).oneCell'=true}
def ofRunT (args:List SA) (bk:List (Nat×Blk)) (orc:List (Option Bool)):Option (SV×List Prop×List (Option Bool)):=
 match args with
 | [x, y] => match Ex.intOf (some (.a x)), Ex.intOf (some (.a y)) with
   | some (.i64,n,_),some (.i64,d,_)=>some (.tup [.agg [.quo (Rat.divInt n d)],okV],[inR n,inR d,d≠0],orc)
   | _,_=>none
 | _=>none
def cOfT (w0:World) (X:Nat->Prop):Ctr (qDen K hK) Tryz.prog w0 X:=.plain 77 ofRunT<|by
    intro args bk orc v obl orc' hr hobl ρ w vals hfr hb hargs;unfold ofRunT at hr;split at hr
    ·rename_i x y
     split at hr
     ·rename_i n s d s' hx hy
      cases hr;obtain⟨v1,r1,rfl,h1,v2,r2,rfl,h2,h3⟩:=hargs;obtain rfl:r2=[]:=h3;obtain rfl:=Zdy (D:=qDen K hK) (ρ:=ρ) (w:=w) hx h1;obtain rfl:=Zdy (D:=qDen K hK) (ρ:=ρ) (w:=w) hy h2;obtain⟨a1,a2⟩:=hobl (inR n) Zs;obtain⟨b1,b2⟩:=hobl (inR d) Zs;refine(Zup n d (hobl (d≠0) Zs) w a1 a2 b1 b2).mono ?_;rintro e w' ⟨r,rfl,hr,hbl⟩;exact⟨_,rfl,⟨[r,.int .i64 0],rfl,_,_,rfl,den_quo.2 hr,_,_,rfl,⟨rfl,rfl⟩,rfl⟩,hbl⟩
     ·cases hr
    ·cases hr
def surfRun (a:Lns) (q:Plc) (ns:Nat) (f:Nat->Nat->Rat) (ob:Nat->Nat->List Prop) (args:List SA) (bk:List (Nat×Blk)) (orc:List (Option Bool)):Option (SV×List Prop×List (Option Bool)):=
 match args with
 | [.agg l, x] => match viewOf l, Ex.intOf (some (.a x)) with
   | some (m,k),some (.i64,s,_)=>(seesO a q ns m bk).map λL=>(.a (.agg [.quo (f k.toNat s.toNat)]),L++(0<=k∧k<a.nw)::(0<=s∧s<(ns:Int))::ob k.toNat s.toNat,orc)
   | _,_=>none
 | _=>none
def surfCtr {a:Lns} (ha:a.opt) {q:Plc} {ns:Nat} (hns:a.ns=ns) {w0:World} (ho:OptAt w0 a q) (g:FuncId) (f:Nat->Nat->Rat) (ob:Nat->Nat->List Prop)
    (hg:∀q' k s w,OptAt w a q'->Below w0.heap.size w0 w->k<a.nw->s<a.ns->(∀p∈ob k s,p)->Calls Tryz.prog g #[.agg (a.vvals q' (k:Int)),.int .i64 (s:Int)] w λe w'=>∃C,e=.returned (.agg C)∧QV w' (.agg C) (f k s)∧Below w.heap.size w w'):Ctr (qDen K hK) Tryz.prog w0 (λ_=>False):=.plain g (surfRun a q ns f ob)<|by
 intro args bk orc v obl orc' hr hobl ρ w vals hfr hb hargs;unfold surfRun at hr;split at hr
 ·rename_i l x
  split at hr
  ·rename_i m k s b hm hx
   obtain⟨L,hL,e⟩:=Yad.1 hr;cases e;obtain⟨v1,r1,rfl,⟨cs,rfl,d1⟩,v2,r2,rfl,d2,h3⟩:=hargs;obtain rfl:r2=[]:=h3;obtain rfl:=Zdy (D:=qDen K hK) (ρ:=ρ) (w:=w) hx d2;obtain⟨ds,rfl,d3⟩:=Zye hm d1;have hn2:=ha.base.ns.1;obtain⟨q',rfl,ho'⟩:=Zx9 hns Zo (ho.below hfr.below) hL (λp hp=>hobl p (Ycy _ hp)) hb d3;obtain⟨k0,k1⟩:=hobl (0<=k∧k<a.nw) Zs;obtain⟨s0,s1⟩:=hobl (0<=s∧s<(ns:Int)) Zs;obtain⟨sn,rfl⟩:∃sn:Nat,s=sn:=⟨s.toNat,Zo⟩
   obtain⟨kn,rfl⟩:∃kn:Nat,k=kn:=⟨k.toNat,Zo⟩
   simp only[Ycb]at hobl;refine(hg q' kn sn w ho' hfr.below Zo Zo (λp hp=>hobl p (by simp[hp]))).mono ?_;rintro e w' ⟨C,rfl,hC,hbl⟩;refine⟨_,rfl,?_,hbl⟩;rw[Ycb,Ycb];exact den_quo.2 hC
  ·cases hr
 ·cases hr
def obPow (a:Lns) (k s:Nat):List Prop:=[PowFits a k s]
def cIdxN {a:Lns} (ha:a.opt) {q:Plc} {ns:Nat} (hns:a.ns=ns) {w0:World} (ho:OptAt w0 a q):Ctr (qDen K hK) Tryz.prog w0 (λ_=>False):=
 surfCtr ha hns ho 66 a.nI (λ_ _=>[]) λq' k s w h _ k1 s1 _=>Ziz a ha q' (Zxb ha q') s k w h s1 k1
def cPowN {a:Lns} (ha:a.opt) {q:Plc} {ns m:Nat} (hns:a.ns=ns) {w0:World} (ho:OptAt w0 a q) (hp:PowsAt w0 m):Ctr (qDen K hK) Tryz.prog w0 (λ_=>False):=
 surfCtr ha hns ho 50 a.pow (obPow a) λq' k s w h hB k1 s1 hob=>Ztn a ha q' (Zxb ha q') s k w h s1 k1 (hob _ (Ycl ..)) m (hp.below hB)
def lookRun (a:Lns) (q:Plc) (ns:Nat) (args:List SA) (bk:List (Nat×Blk)) (orc:List (Option Bool)):Option (SV×List Prop×List (Option Bool)):=
 match args with
 | [.agg l, x] => match Ex.intOf (some (.a x)), l with
   | some (.i64,k,_),[a0,a1,a2,a3,a4,a5,a6,a7,a8,a9]=>(seesO a q ns l bk).map λL=>(.a (.agg [a0,a1,a2,a3,a4,a5,a6,a7,a8,a9,.sym k]),L++[0<=k∧k<a.nw],orc)
   | _,_=>none
 | _=>none
def cLookN {a:Lns} (ha:a.opt) {q:Plc} {ns:Nat} (hns:a.ns=ns) {w0:World} (ho:OptAt w0 a q):Ctr (qDen K hK) Tryz.prog w0 (λ_=>False):=.plain 45 (lookRun a q ns)<|by
 intro args bk orc v obl orc' hr hobl ρ w vals hfr hb hargs;unfold lookRun at hr;split at hr
 ·rename_i l x
  split at hr
  ·rename_i k b a0 a1 a2 a3 a4 a5 a6 a7 a8 a9 hx
   obtain⟨L,hL,e⟩:=Yad.1 hr;cases e;obtain⟨v1,r1,rfl,⟨cs,rfl,d1⟩,v2,r2,rfl,d2,h3⟩:=hargs;obtain rfl:r2=[]:=h3;obtain rfl:=Zdy (D:=qDen K hK) (ρ:=ρ) (w:=w) hx d2;have hn2:=ha.base.ns.1;obtain⟨q',rfl,ho'⟩:=Zx9 hns Zo (ho.below hfr.below) hL (λp hp=>hobl p (Ycy _ hp)) hb d1;obtain⟨k0,k1⟩:=hobl (0<=k∧k<a.nw) Zs;obtain⟨kn,rfl⟩:∃kn:Nat,k=kn:=⟨k.toNat,Zo⟩
   refine(Zv3 a q' (Zxb ha q') kn w ho' Zo).mono ?_;rintro e w' ⟨rfl,hbl⟩;refine⟨_,rfl,⟨(a.ovals q').toList++[.int .i64 (kn:Int)],rfl,?_⟩,hbl⟩;have hE:Ext w w':=.of_below hbl;obtain⟨c0,d0,e0,h0,c1,d1,rfl,h1,c2,d2,rfl,h2,c3,d3,rfl,h3,c4,d4,rfl,h4,c5,d5,rfl,h5,c6,d6,rfl,h6,c7,d7,rfl,h7,c8,d8,rfl,h8,c9,d9,rfl,h9,hd⟩:=(denL.mono (Nm.le.refl ρ) hE d1)
   obtain rfl:d9=[]:=hd;rw[e0];simp only[Ybx,Ydp];exact⟨c0,_,rfl,h0,c1,_,rfl,h1,c2,_,rfl,h2,c3,_,rfl,h3,c4,_,rfl,h4,c5,_,rfl,h5,c6,_,rfl,h6,c7,_,rfl,h7,c8,_,rfl,h8,c9,_,rfl,h9,[_],[],rfl,rfl,rfl⟩
  ·cases hr
 ·cases hr
end
end Go.Proofs.W
