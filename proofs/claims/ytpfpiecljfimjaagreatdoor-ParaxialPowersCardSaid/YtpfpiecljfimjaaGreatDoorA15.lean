/- Contracts of package paraxial,and a verified evaluator. Part 15 of 26. No condition beside the row. -/
import Derived.Deep.MidRow
import Derived.TacticsIn
import Derived.Test.YtpfpiecljfimjaaGreatDoorA14
set_option linter.unusedVariables false
set_option linter.unusedSimpArgs false
set_option maxRecDepth 100000
set_option maxHeartbeats 4000000
namespace Go.Proofs.W
open Go.RowKit Go.Mono
theorem Zwg (n c:Nat) (p:Option Addr) (g:Nat->Nat) (fi ca:Nat->Array Value) (w:World) (hr:RdC w p n c 1 (λi _=>.func (.func (g i)) (fi i) (ca i)))
  (eg:∀i,i<n->∀args w,(callFunc (g i) args).run Tryz.prog w=.ok (.enter (g i) args) w)
  (hc:∀i,i<n->∀W,Below w.heap.size w W->Calls Tryz.prog (g i) (fi i++ca i) W λe w'=>e=.returned (.bool true)∧Below W.heap.size W w') :
  Calls Tryz.prog 189 #[.slice p n c] w λe w'=>e=.returned (.bool true)∧Below w.heap.size w w':=by
 obtain⟨hc1,hn1,hx⟩:=hr;go_enter Tryz.func189,Tryz.ntmps189
 go_wp2
 go_step3
 go_wp2
 go_step3
 go_wp2
 go_loopw [3,8] (λl a wr=>∃k:Nat,k<=n∧l=.bool true∧a=.int .i64 (k:Int)∧Below w.heap.size w wr) (λ_ a _=>(n-intOf a).toNat)
 case atStart=>exact⟨0,Yat _,rfl,rfl,Yae _ _⟩
 case round=>
  obtain⟨k,hk,rfl,rfl,hB⟩:=hrel;by_cases h0:k<n
  ·obtain⟨b,off,rfl,hb,hcell⟩:=hx Zo
   have a1:=(hB.cell hb).trans (hcell k 0 h0 Zo);simp only[Yfk,Yce]at a1;have hck:=hc k h0 wr hB;have egk:=eg k h0;generalize g k=G at *;generalize fi k=FI at *;generalize ca k=CA at *;clear hcell hx hc eg;have h0':(k:Int)<n:=Zo;go_wp2
   refine hck.mono ?_;rintro e w' ⟨rfl,hb'⟩;go_wp2
   go_roundw
   case rel=>exact⟨k+1,Zo,rfl,Zs,Zaa hB hb'⟩
   case measure=>simp[intOf];omega
  ·obtain rfl:k=n:=by omega
   clear hx hc eg;go_wp2
   rw[Exit.noGoto_ret];go_ret
   exact⟨rfl,hB⟩
theorem Zrd (A B:Nat) (nm:ByteArray) (w:World) (a0:Box w A 255 #[.pointer (some ⟨B,0,none⟩)]) (hn:w.cell? ⟨B,0,none⟩=some (.string nm))
  (h0:1<=nm.size) (h1:nm.size<=16) (hl:∀i (hi:i<nm.size),isLetter (nm[i].toNat:Int)) :
  Calls Tryz.prog 190 #[.pointer (some ⟨A,0,none⟩)] w λe w'=>e=.returned (.bool true)∧Below w.heap.size w w':=by
 have ca0:=a0.cell;have hk:=Zl7 nm h0 h1 hl w;clear hl h0 h1;go_enter Tryz.func190,Tryz.ntmps190
 go_wp2_with (go_at_call 191;refine hk.mono ?_;rintro e w' ⟨rfl,rfl⟩)
 go_ret
 exact⟨rfl,Yae _ _⟩
theorem Zre (A B:Nat) (di pu:Int) (w:World) (a0:Box w A 255 #[.pointer (some ⟨B,0,none⟩)]) (h1:w.cell? ⟨B,1,none⟩=some (.int .i64 di)) (h2:w.cell? ⟨B,2,none⟩=some (.int .i64 pu))
  (d0:0<=di) (d1:di<=1000000000) (p0:1<=pu) (p1:pu<=1000000000) :
  Calls Tryz.prog 192 #[.pointer (some ⟨A,0,none⟩)] w λe w'=>e=.returned (.bool true)∧Below w.heap.size w w':=by
 have ca0:=a0.cell;go_enter Tryz.func192,Tryz.ntmps192
 go_wp2_with first|(go_at_call 193;(with_reducible refine(Zbf di _ _ d0 d1 _).mono ?_);rintro e w' ⟨rfl,rfl⟩)|(go_at_call 193;(with_reducible refine(Zbf pu _ _ p0 p1 _).mono ?_);rintro e w' ⟨rfl,rfl⟩)
 go_ret
 exact⟨rfl,Yae _ _⟩
end Go.Proofs.W
namespace Go.Ex
open Go.RowKit Go.Mono
section
def zerosU (P:Program) (e:TypeId) (n:Nat):Option (List U):=
 match (P.info? e).bind (·.zero) with
 | some z=>(λl:List Value=>if l.all (·.oneCell') then some (l.map .val) else none) ((Array.range n).map (z.cells[· % z.cells.size]!)).toList
 | none=>none
theorem Zol {D:Den} {ρ:Nm} {w:World} {x:SA} {v:Value} (h:denA D ρ w x v):(∃cs:Array Value,v=.agg cs)∨v.oneCell'=true:=by
 cases x with
 | one u=>exact .inr (denU.ones h v Zs)
 | agg l=>obtain⟨cs,e,_⟩:=h;exact .inl ⟨_,e⟩
theorem Zgt {P:Program} (w:World) (b o:Nat) (ty:TypeId) (v:Value) (hv:(∃cs:Array Value,v=.agg cs)∨v.oneCell'=true) (ht:w.there b o v.cells.size) (hi:(P.info? ty).map (·.size)=some v.cells.size)
  (h1:∀u∈v.cells.toList,u.oneCell'=true):(Instr.storeAt ty (.pointer (some ⟨b,o,none⟩)) v).run P w=.ok () (w.setCells b o v.cells.toList):=by
 rcases hv with ⟨cs,rfl⟩|hv
 ·exact run_storeAt_mid w b o ty cs ht hi (by rw[Array.all_eq_true_iff_forall_mem];intro u hu;exact h1 u (by simpa[Value.cells]using hu))
 ·rw[Zdc hv]at ht hi ⊢
  have:=run_storeAt_mid (P:=P) w b o ty #[v] ht hi (by simpa using hv);rw[<-this];unfold Instr.storeAt storeVar;rw[Zdc hv];rfl
def makeS (P:Program) (t:TypeId) (l x:Option SV) (c:Nat):Option (SV×List (Nat×Blk)×Nat):=
 match l,x with
 | some (.a (.one (.val (.int _ (.ofNat n))))), some (.a (.one (.val (.int _ (.ofNat m))))) => match P.underlying t with
   | some (.slice e) => match infoZ P e with
     | some (size, bytes) => if Nat.ble n m && small m bytes then match (P.info? e).bind (·.zero) with
       | some z=>if z.cells.toList.all (·.oneCell') then some (.a (.one (.slc c 0 n m)),[(c,⟨e,(madeCells z.cells (m*size)).toList.map .val,false,false,false⟩)],c+1) else none
       | none=>none
       else none
     | none=>none
   | _=>none
 | _,_=>none
def copyS (P:Program) (t:TypeId) (d x:Option SV) (bk:List (Nat×Blk)) (th c:Nat):Option (SV×List (Nat×Blk)×Nat):=
 match P.underlying t with
 | some (.slice e) => match szOf P e with
   | some size => match d, newsS bk size x with
     | some (.a (.one (.slc k off len cap))), some (n, us) => match bk.look k, takeU us (Nat.min n len * size) with
       | some b, some vs => if b.dead || b.ro || !(b.T != 3 || Nat.ble th k) then none else
         (putX b.cells (off+0) vs).map λl=>(.a (.one (.val (goInt (Nat.min n len)))),[(k,⟨b.T,l,false,b.sp,false⟩)],c)
       | _,_=>none
     | _,_=>none
   | none=>none
 | _=>none
def effS (P:Program) (o:Oper) (get:Operand->Option SV) (bk:List (Nat×Blk)) (th c:Nat):Option (SV×List (Nat×Blk)×Nat):=
 match o.op with
 | .alloc T=>(zeroU P T).map λl=>(.a (.one (.ptr c 0)),[(c,⟨T,l,false,false,false⟩)],c+1)
 | .box T x => match get x with
   | some (.a s)=>some (.a (.one (.ptr c 0)),[(c,⟨T,unitsA s,false,false,false⟩)],c+1)
   | _=>none
 | .buildSlice t len parts => match P.underlying t with
   | some (.slice e) => match szOf P e, partsS get parts.toList with
     | some s, some ps => if len * s <= 2 ^ 24 && len * s != 0 then
       match zerosU P e (len*s) with
       | some z=>(fillS (λi=>some (i*s,s)) z ps).map λm=>(.a (.one (.slc c 0 len len)),[(c,⟨e,m,false,false,false⟩)],c+1)
       | none=>none
       else none
     | _,_=>none
   | _=>none
 | .store t x y => match get x, get y with
   | some (.a (.one (.ptr k off))), some (.a s) => match bk.look k with
     | some b=>if(szOf P t).any (·==widths (unitsA s))&&(b.T != 3 || Nat.ble th k)&&!b.ro&&!b.dead then(putX b.cells off (unitsA s)).map λl=>(.tup [],[(k,⟨b.T,l,false,b.sp,false⟩)],c) else none
     | none=>none
   | _,_=>none
 | .makeSlice t l x=>makeS P t (get l) (get x) c
 | .call ⟨.builtin .append,⟨[s,x]⟩,⟨[t,tx]⟩⟩=>appendS P t tx (get s) (get x) bk th c
 | .call ⟨.builtin .copy, ⟨[d, x]⟩, ⟨[t, tx]⟩⟩ => match P.underlying tx with
   | some (.slice _)=>copyS P t (get d) (get x) bk th c
   | _=>none
 | _=>(evPure P o get bk).map λx=>(x,[],c)
section
variable {D:Den} {P:Program} {w0:World} {X:Nat->Prop} {th:Nat} {ρ:Nm} {wc w:World} {bk bkR:List (Nat×Blk)} {c:Nat} {get:Operand->Option SV} {ev:Operand->Value}
theorem Zga (h:Sat D w0 X th ρ wc w bk) (hk:ρ c=none) {T:TypeId} {l:List U} {cells:Array Value} {s:Sem Value} (mk:Addr->Value) (x:SV) (hx:∀B,denV D (addNm ρ c ⟨B,0,false,0,0⟩) wc x (mk ⟨B,0,none⟩))
  (hrun:s.run P w=.ok (mk ⟨w.heap.size,0,none⟩) (w.alloc (.cells cells T))) (hl:denL D ρ wc l cells.toList) {S:Sem Next} (hex:S=do pure (Next.value (<-s))) :
  EffOk D P w0 X th ρ wc w bk c S x [(c,⟨T,l,false,false,false⟩)] (c+1):=by
 obtain⟨k1,k2⟩:=h.alloc hk T false 0 0 (rest:=[]) hl (λ_=>rfl) (λhh=>by cases hh);rw[Ydg,Array.toArray_toList]at k1 k2;refine⟨_,_,_,_,?_,.inl rfl,hx _,k1,k2⟩;rw[hex];simp only[Yar,hrun,Yag,Yau]
theorem Zqx {z:Value} (hz:z.cells.toList.all (·.oneCell')=true) (n:Nat) (hn:z.cells.size=0->n=0):denL D ρ wc ((madeCells z.cells n).toList.map .val) (madeCells z.cells n).toList:=by
 refine Zdm _ λv hv=>?_;unfold madeCells at hv;simp only[Array.toList_map,Ydl]at hv;obtain⟨i,hi,rfl⟩:=hv;have hi:i<n:=by simpa using hi
 have h0:0<z.cells.size:=by
  rcases Yff z.cells.size with h|h
  ·have:=hn h;omega
  ·exact h
 have hm:=Nat.mod_lt i h0;rw[getElem!_pos z.cells (i%z.cells.size) hm];exact Ybn.1 hz _ Zs
theorem Zt5 (h:Sat D w0 X th ρ wc w bk) (hn:∀k,c<=k->k<c+1->ρ k=none) {t:TypeId} {sl sx x:SV} {vl vx:Value} (hl:denV D ρ wc sl vl) (hx:denV D ρ wc sx vx) {wr:List (Nat×Blk)} {c':Nat}
  (he:makeS P t (some sl) (some sx) c=some (x,wr,c')) {S:Sem Next} (hex:S=do pure (Next.value (<-Instr.makeSlice t vl vx))):EffOk D P w0 X th ρ wc w bk c S x wr c':=by
 unfold makeS at he;split at he
 ·rename_i kl n km m e1 e2
  cases e1;cases e2;obtain rfl:vl=_:=by simpa using hl.1
  obtain rfl:vx=_:=by simpa using hx.1
  split at he
  ·rename_i e hu
   split at he
   ·rename_i size bytes hinf
    obtain⟨i,z,hi,hz,hzs,rfl,rfl⟩:=Znf hinf;split at he
    ·rename_i hc
     rw[Yam]at hc;obtain⟨g1,g2⟩:=Zf9 hc.2;have g0:=Yaa hc.1;split at he
     ·rename_i z' hz'
      rw[hi]at hz';have hz2:z'=z:=by
       have:i.zero=some z':=hz';rw[hz]at this;cases this;rfl
      subst hz2;split at he
      ·rename_i hall
       cases he;have g3:(i.bytes:Int)*(m:Int)<=281474976710656:=by
        have g4:i.bytes*m<=140737488355328:=by rw[Ycu];exact g2
        have:((i.bytes*m:Nat):Int)<=140737488355328:=Zo;rw[Ycw]at this;omega
       have hrun:=run_make (P:=P) w t e i z' hu hi hz kl km (n:Int) (m:Int) (Int.natCast_nonneg _) Zo g3 Zo;rw[Ycb,Ycb]at hrun;exact Zga h (hn c (Yab _) (Yca _)) (λp=>.slice (some p) n m) (.a (.one (.slc c 0 n m))) (λB=>⟨_,Zbt _ _ _,rfl⟩) hrun (Zqx hall _ (λh0=>by rw[<-hzs,h0];simp)) hex
      ·cases he
     ·cases he
    ·cases he
   ·cases he
  ·cases he
 ·cases he
theorem Zt6 (h:Sat D w0 X th ρ wc w bk) (hs:Sub bkR bk) {t tx ty e':TypeId} (htx:P.underlying tx=some (.slice e')) {sd sx x:SV} {vd vx:Value} (hd:denV D ρ wc sd vd) (hx:denV D ρ wc sx vx) {wr:List (Nat×Blk)} {c':Nat}
  (he:copyS P t (some sd) (some sx) bkR th c=some (x,wr,c')) {S:Sem Next} (hex:S=do pure (Next.value (<-Builtin.copy_ #[t,tx] ty #[vd,vx]))):EffOk D P w0 X th ρ wc w bk c S x wr c':=by
 have hBk:BkOk D ρ wc w bkR:=λk b hk=>h.bkOk k b (hs k b hk);unfold copyS at he;split at he
 ·rename_i e hu
  split at he
  ·rename_i size hz
   split at he
   ·rename_i k off len cap n us e1 hnews
    cases e1;obtain⟨news,hsrc,hln,hnl,hfc⟩:=Zne (P:=P) hBk hx hnews htx;split at he
    ·rename_i b vs hb htk
     split at he
     ·cases he
     ·rename_i hc
      simp only[Ybo,Ydz,not_or,Bool.not_eq_true,Bool.not_eq_false]at hc;obtain⟨⟨c1,c2⟩,c3⟩:=hc;obtain⟨l,hl,e3⟩:=Yad.1 he;cases e3;obtain⟨B,hB,e2⟩:=hd;obtain rfl:vd=.slice (some ⟨B.blk,B.base+off,none⟩) len cap:=by simpa using e2
      have hT:b.T≠3∨th<=k:=by
       rcases c3 with h|h
       ·exact .inl (by simpa using h)
       ·exact .inr (Yaa h)
      obtain⟨q1,q2⟩:=Zej htk hln;obtain⟨k1,k2,k3,k4⟩:=h.store ⟨hs k b hb,c1⟩ c2 hl q1 hT hB c;obtain⟨i,hi,rfl⟩:=Yad.1 hz;have hcp:=hfc (Nat.min n len) (Nat.min_le_left _ _);have hst:=run_storeCells_cells (P:=P) B.blk off (news.take (Nat.min n len*i.size)) 0 w (by simpa using λj hj=>(k3 j (by simpa using hj)).1) (by simpa using λj hj=>(k3 j (by simpa using hj)).2) q1.ones;rw[Yce]at k1 k2 hst;refine⟨_,goInt (Nat.min n len),_,ρ,?_,.inl rfl,⟨rfl,rfl⟩,k1,k2⟩;rw[hex];have hrun:(Builtin.copy_ #[t,tx] ty #[.slice (some ⟨B.blk,B.base+off,none⟩) len cap,vx]).run P w=.ok (goInt (Nat.min n len)) (w.setCells B.blk off (news.take (Nat.min n len*i.size))):=by
       rw[k4,Yba];simp[Builtin.copy_,run_underlying hu,sizeOf,typeInfo,hi,hsrc.len,hcp,hst]
      simp only[Yar,hrun,Yag,Yau]
    ·cases he
   ·cases he
  ·cases he
 ·cases he
theorem Zv5 (h : Sat D w0 X th ρ wc w bk) (hs : Sub bkR bk) (hg : ∀ x z, get x = some z -> denV D ρ wc z (ev x)) {o : Oper} {x : SV} {wr : List (Nat × Blk)} {c' : Nat}
  (he:effS P o get bkR th c=some (x,wr,c')) (hn:∀k,c<=k->k<c'->ρ k=none):EffOk D P w0 X th ρ wc w bk c (execOp ev o) x wr c':=by
 unfold effS at he;split at he
 ·rename_i T ho
  obtain⟨l,hl,e⟩:=Yad.1 he;cases e;obtain⟨i,z,h1,h2,h3⟩:=Znc hl D ρ wc;exact Zga h (hn c (Yab _) (Yca _)) (λp=>.pointer (some p)) (.a (.one (.ptr c 0))) (λB=>⟨_,Zbt _ _ _,rfl⟩) (s:=Instr.alloc T true (.tuple #[])) (by simp[Instr.alloc,zeroValue,typeInfo,h1,h2,newVar,newRow]) h3 (by unfold execOp;rw[ho])
 ·rename_i T y ho
  split at he
  ·rename_i s hy
   cases he;have hd:=hg _ _ hy;exact Zga h (hn c (Yab _) (Yca _)) (λp=>.pointer (some p)) (.a (.one (.ptr c 0))) (λB=>⟨_,Zbt _ _ _,rfl⟩) (s:=Instr.box T (ev y)) (by simp[Instr.box,newVar,newRow]) (Zff hd) (by unfold execOp;rw[ho])
  ·cases he
 ·rename_i t len parts ho
  split at he
  ·rename_i e hu
   split at he
   ·rename_i s ps hz hp
    split at he
    ·rename_i hlen
     rw[Yam]at hlen;split at he
     ·rename_i z hzs
      obtain⟨m,hm,e1⟩:=Yad.1 he;cases e1;unfold zerosU at hzs;split at hzs
      ·rename_i zv hzv
       obtain⟨ie,hie,hze⟩:=Ybg.1 hzv;dsimp only at hzs;split at hzs
       ·rename_i hall
        cases hzs;have hps:=Zgs (D:=D) (ρ:=ρ) (w:=wc) hg hp;obtain⟨cells,hf1,hf2⟩:=Zf8 _ hm (Zdm _ λv hv=>Ybn.1 hall v hv) hps;obtain⟨ie',hie',rfl⟩:=Yad.1 hz;cases hie.symm.trans hie';refine Zga h (hn c (Yab _) (Yca _)) (λp=>.slice (some p) len len) (.a (.one (.slc c 0 len len))) (λB=>⟨_,Zbt _ _ _,rfl⟩) (s:=Instr.buildSlice t len (parts.map λ(i,x)=>(i,ev x))) ?_ hf2 (by unfold execOp;rw[ho]);refine run_buildSlice w t e len _ cells ie zv hu hie hze (by have:=hlen.1;simp only[decide_eq_true_eq]at this;omega) (by simpa using hlen.2) ?_;rw[<-hf1];congr 1
        simp
       ·cases hzs
      ·cases hzs
     ·cases he
    ·cases he
   ·cases he
  ·cases he
 ·rename_i t y z ho
  split at he
  ·rename_i k off s hy hz
   split at he
   ·rename_i b hb
    split at he
    ·rename_i hc
     rw[Yam,Yam,Yam]at hc;obtain⟨⟨⟨hc1,hc2⟩,hro⟩,hdd⟩:=hc;obtain⟨l,hl,e⟩:=Yad.1 he;cases e;obtain⟨B,hB,e1⟩:=hg _ _ hy;have e2:ev y=.pointer (some ⟨B.blk,B.base+off,none⟩):=by simpa using e1
     have hd:=hg _ _ hz;have hcs:=Zff hd;obtain⟨sz,hsz,hw⟩:=Option.any_eq_true_iff_get .. |>.1 hc1 |> λ⟨h1,h2⟩=>(⟨_,Option.some_get h1 |>.symm,by simpa using h2⟩:∃sz,szOf P t=some sz∧sz=widths (unitsA s))
     obtain⟨k1,k2,k3,hbase⟩:=h.store ⟨hs k b hb,by simpa using hdd⟩ (by simpa using hro) hl hcs (by
      rw[Ybo]at hc2;rcases hc2 with h|h
      ·exact .inl (by simpa using h)
      ·exact .inr (Yaa h)) hB c
     rw[hbase,Yba]at e2;have hrun:=Zgt (P:=P) w B.blk off t (ev z) (Zol hd) (by rw[<-Yaz];exact k3) (by rw[<-Yaz,hcs.len,<-hw];exact hsz) hcs.ones;refine⟨.skip,undef,_,ρ,?_,.inr ⟨rfl,rfl⟩,⟨[],rfl,rfl⟩,k1,k2⟩;unfold execOp;rw[ho];simp only[e2,Yar,hrun,Yag,Yau]
    ·cases he
   ·cases he
  ·cases he
 ·rename_i t l y ho
  cases hl:get l with
  | none=>rw[hl]at he;simp[makeS]at he
  | some sl =>
    cases hy:get y with
    | none=>rw[hl,hy]at he;unfold makeS at he;split at he<;>first|cases he|(rename_i e;cases e)
    | some sy =>
      rw[hl,hy]at he;have hc':c'=c+1:=by
       unfold makeS at he;repeat' (split at he<;>try cases he)
       rfl
      subst hc';exact Zt5 h hn (hg _ _ hl) (hg _ _ hy) he (by unfold execOp;rw[ho])
 ·rename_i s y t tx ho
  cases hl:get s with
  | none =>
    rw[hl]at he;unfold appendS at he;repeat' (split at he)
    all_goals first|contradiction|(simp[Zme]at he;done)
  | some sl =>
    cases hy:get y with
    | none =>
      rw[hl,hy]at he;unfold appendS at he;have:∀n us size,newsS bkR size none≠some (n,us):=λn us size hh=>by simp[newsS]at hh
      repeat' (split at he)
      all_goals first|contradiction|(exfalso;apply this;assumption)
    | some sy =>
      rw[hl,hy]at he;obtain⟨v,w',ρ',q1,q2,q3,q4⟩:=Zok (ty:=o.type) h hs (hg _ _ hl) (hg _ _ hy) he hn;refine⟨_,v,w',ρ',?_,.inl rfl,q2,q3,q4⟩;unfold execOp;simp only[ho,resolve,Yar,Yau,Yag,invoke,builtin];simp only[Yev,Ybz,Yfp,Yar,q1,Yag,Yau]
 ·rename_i s y t tx ho
  split at he
  ·rename_i e' htx
   cases hl:get s with
   | none =>
     rw[hl]at he;unfold copyS at he;repeat' (split at he)
     all_goals contradiction
   | some sl =>
     cases hy:get y with
     | none =>
       rw[hl,hy]at he;unfold copyS at he;have:∀n us size,newsS bkR size none≠some (n,us):=λn us size hh=>by simp[newsS]at hh
       repeat' (split at he)
       all_goals first|contradiction|(exfalso;apply this;assumption)
     | some sy =>
       rw[hl,hy]at he;have hc':c'=c:=by
        unfold copyS at he;split at he
        ·split at he
         ·split at he
          ·split at he
           ·split at he
            ·cases he
            ·obtain⟨l,hl,e⟩:=Yad.1 he
             cases e;rfl
           ·cases he
          ·cases he
         ·cases he
        ·cases he
       refine Zt6 (ty:=o.type) h hs htx (hg _ _ hl) (hg _ _ hy) he ?_;unfold execOp;simp only[ho,resolve,invoke,builtin,Yev,Ybz,Yfp];rfl
  ·cases he
 ·obtain⟨y,hy,e⟩:=Yad.1 he
  cases e;obtain⟨v,h1,h2⟩:=Zkc (P:=P) hg (λk b hk=>h.bkOk k b (hs k b hk)) hy;exact⟨_,v,w,ρ,h1,.inl rfl,h2,h,Evo.refl _ _ _ _ _⟩
end
end
end Go.Ex
namespace Go.Proofs.W
open Go.RowKit Go.Mono
theorem Zow (n c:Nat) (p:Option Addr) (A:Nat->Array Value) (hA:∀i,(A i).size=22) (g:Nat) (eg:∀args w,(callFunc g args).run Tryz.prog w=.ok (.enter g args) w) (w:World)
  (h:RdC w p n c 22 (λi j=>(A i).getD j undef))
  (hf:∀i,i<n->∀W,Below w.heap.size w W->Calls Tryz.prog g #[.agg (A i)] W λe w'=>e=.returned (.bool false)∧Below W.heap.size W w') :
  Calls Tryz.prog 235 #[.slice p n c,.func (.func g) #[] #[]] w λe w'=>e=.returned (.int .i64 (-1))∧Below w.heap.size w w':=by
 obtain⟨hc1,hn1,hx1⟩:=h;have hsz:(Tryz.prog.info? 115).map (·.size)=some 22:=Zk;go_enter Tryz.func235,Tryz.ntmps235
 go_wp2
 go_loopw [8] (λa wr=>∃k:Nat,k<=n∧a=.int .i64 (k:Int)∧Below w.heap.size w wr) (λa _=>(n-intOf a).toNat)
 case atStart=>exact⟨0,Yat _,rfl,Yae _ _⟩
 case round=>
  obtain⟨k,hk,rfl,hB⟩:=hrel;by_cases h0:k<n
  ·obtain⟨b,off,rfl,hb,hcell⟩:=hx1 Zo
   have hAk:=hA k;have hrange:wr.rangeAt b (off+k*22) (A k).toList:=λj v hv=>by
    have hj:j<22:=by
     have:=(Yan.1 hv).1;simpa[hAk]using this
    refine((hB.cell hb).trans (hcell k j h0 hj)).trans ?_;rw[Yaq]at hv;rw[Yax,hv];rfl
   have hfk:=hf k h0 wr hB;have hi:(Tryz.prog.info? 115).map (·.size)=some (A k).toList.length:=by rw[hsz];simp[hAk]
   clear hcell hx1 hf hA hAk;generalize A k=AK at *;have h0':(k:Int)<n:=Zo;go_wp2_with (refine wpList_load_mid rfl 115 _ rfl b (off+k*22) rfl AK.toList _ hrange Tryz.underlying115 rfl hi ?_)
   refine hfk.mono ?_;rintro e w' ⟨rfl,hb'⟩;go_wp2
   go_roundw
   case rel=>exact⟨k+1,Zo,Zs,Zaa hB hb'⟩
   case measure=>simp[intOf];omega
  ·obtain rfl:k=n:=by omega
   clear hx1 hf;go_wp2
   go_ret
   exact⟨rfl,hB⟩
theorem Zox (n c:Nat) (p:Option Addr) (A:Nat->Array Value) (hA:∀i,(A i).size=22) (g:Nat) (eg:∀args w,(callFunc g args).run Tryz.prog w=.ok (.enter g args) w) (w:World)
  (h:RdC w p n c 22 (λi j=>(A i).getD j undef))
  (hf:∀i,i<n->∀W,Below w.heap.size w W->Calls Tryz.prog g #[.agg (A i)] W λe w'=>e=.returned (.bool false)∧Below W.heap.size W w') :
  Calls Tryz.prog 217 #[.slice p n c,.func (.func g) #[] #[]] w λe w'=>e=.returned (.bool false)∧Below w.heap.size w w':=by
 have hi:=Zow n c p A hA g eg w h hf;clear h hf hA;go_enter Tryz.func217,Tryz.ntmps217
 go_wp2_with (go_at_call 235;refine hi.mono ?_;rintro e w' ⟨rfl,hb⟩)
 go_ret
 exact⟨rfl,hb⟩
theorem Zf1:∀args w,(callFunc 215 args).run Tryz.prog w=.ok (.enter 215 args) w:=Go.Proofs.enters_of Tryz.func215 Zk rfl
theorem Box.range {w:World} {B:Nat} {T:TypeId} {cs:Array Value} (b:Box w B T cs):w.rangeAt B 0 cs.toList:=λj v hv=>by
 rw[Yba,b.cell,<-Yaq];exact hv
theorem Zkm (A:Array Value) (hA:A.size=22) (w:World) (hc:∀W,Below w.heap.size w W->Calls Tryz.prog 216 #[.agg A] W λe w'=>e=.returned (.int .i64 0)∧Below W.heap.size W w') :
  Calls Tryz.prog 215 #[.agg A] w λe w'=>e=.returned (.bool false)∧Below w.heap.size w w':=by
 have hsz:(Tryz.prog.info? 115).map (·.size)=some 22:=Zk;have hi:(Tryz.prog.info? 115).map (·.size)=some A.toList.length:=by rw[hsz];simp[hA]
 go_enter Tryz.func215,Tryz.ntmps215
 go_wp2_with (refine wpList_load_mid rfl 115 _ rfl w.heap.size 0 rfl A.toList _ (Box.range (Box.new w 115 A)) Tryz.underlying115 rfl hi ?_)
 refine(hc _ (Zad (Yae _ _) _)).mono ?_;rintro e w' ⟨rfl,hb⟩;go_wp2
 go_ret
 exact⟨rfl,Zaa (Zad (Yae _ _) _) hb⟩
end Go.Proofs.W
namespace Go.Ex
open Go.RowKit Go.Mono
section
def sargs (get:Operand->Option SV):List Operand->Option (List SA)
 | []=>some []
 | x :: r => match get x with
   | some (.a s)=>(sargs get r).map (s::·)
   | _=>none
def capsA (caps:List (Nat×Nat)):List SA:=caps.map λp=>.one (.ptr p.1 p.2)
def entersB (P:Program) (f:FuncId):Bool:=
 match P.funcs[f]? with
 | some fn=>!(fn.name== "runtime.NumGoroutine")&&fn.body.isSome
 | none=>false
theorem Zfg {P:Program} {f:FuncId} (h:entersB P f=true) (args:Array Value) (w:World):(callFunc f args).run P w=.ok (.enter f args) w:=by
 unfold entersB at h;split at h
 ·rename_i fn hf
  rw[Yam]at h;obtain⟨h1,h2⟩:=h;unfold callFunc;have e1:(fn.name== "runtime.NumGoroutine")=false:=by simpa using h1
  have e2:fn.body.isNone=false:=by cases hb:fn.body<;>simp_all
  simp only[Yar,run_program,Yag,hf,e1,e2,Ybq,if_false,Yau]
 ·cases h
section
variable {D:Den} {P:Program} {ρ:Nm} {wc w:World} {get:Operand->Option SV} {ev:Operand->Value}
theorem denAs.append:∀{l m:List SA} {vs us:List Value},denAs D ρ w l vs->denAs D ρ w m us->denAs D ρ w (l++m) (vs++us)
 | [],m,vs,us,e,hm=>by rw[show vs=[] from e];exact hm
 | x::l,m,_,us,⟨v,r,e,hv,hr⟩,hm=>⟨v,r++us,by rw[e,Ydi],hv,denAs.append hr hm⟩
theorem Ziz (hg:∀x z,get x=some z->denV D ρ wc z (ev x)):∀{l:List Operand} {s:List SA},sargs get l=some s->denAs D ρ wc s (l.map ev)
 | [],s,h=>by cases h;rfl
 | x :: r, s, h => by
   unfold sargs at h;split at h
   ·rename_i y hy
    obtain⟨q,hq,rfl⟩:=Yad.1 h;exact⟨_,_,rfl,hg _ _ hy,Ziz hg hq⟩
   ·cases h
theorem Zgb:∀{l:List (Nat×Nat)} {vs:List Value},adrs ρ l vs->denAs D ρ w (capsA l) vs
 | [],vs,e=>e
 | p::r,vs,⟨B,v',hB,e,hr⟩=>⟨_,v',e,⟨B,hB,rfl⟩,Zgb hr⟩
end
def ans (b:Bool):List (Option Bool)->Bool×List Prop×List (Option Bool)
 | some x::r=>(x,[b=x],r)
 | none::r=>(b,[],r)
 | []=>(b,[],[])
theorem Zxz {b:Bool} {orc:List (Option Bool)} (h:∀p∈(ans b orc).2.1,p):(ans b orc).1=b:=by
 match orc,h with
 | some x::r,h=>exact(h (b=x) (by simp[ans])).symm
 | none::r,h=>rfl
 | [],h=>rfl
def fixB (x:SV) (orc:List (Option Bool)):SV×List Prop×List (Option Bool):=
 match x with
 | .a (.one (.tst b))=>(.a (.one (.val (.bool (ans b orc).1))),(ans b orc).2.1,(ans b orc).2.2)
 | x=>(x,[],orc)
theorem Zqy {D:Den} {ρ:Nm} {w:World} {x:SV} {orc:List (Option Bool)} {v:Value} (h:∀p∈(fixB x orc).2.1,p) (hv:denV D ρ w x v):denV D ρ w (fixB x orc).1 v:=by
 unfold fixB at h ⊢;split
 ·rename_i b
  dsimp only at h ⊢;rw[Zxz h];exact⟨hv,rfl⟩
 ·exact hv
def inR (z:Int):Prop:=-9223372036854775808<=z∧z<=9223372036854775807
theorem Znh {z:Int} (h:inR z):IntKind.i64.wrap z=z:=by
 rw[Ybi];have:=h.1;have:=h.2;omega
def intOf:Option SV->Option (IntKind×Int×Bool)
 | some (.a (.one (.val (.int k n))))=>some (k,n,false)
 | some (.a (.one (.sym z)))=>some (.i64,z,true)
 | some (.a (.one (.sml k z)))=>some (k,z,true)
 | _=>none
theorem Za6 {D:Den} {ρ:Nm} {w:World} {x:SV} {k:IntKind} {z:Int} {b:Bool} {v:Value} (h:intOf (some x)=some (k,z,b)) (hv:denV D ρ w x v):v=.int k z:=by
 unfold intOf at h;split at h
 ·rename_i k' n e
  cases h;cases e;simpa using hv.1
 ·rename_i z' e
  cases h;cases e;simpa[denV,denA,denU]using hv
 ·rename_i k' z' e
  cases h;cases e;simpa[denV,denA,denU]using hv
 ·cases h
def mkI (k:IntKind) (z:Int):SV:=
 match k with
 | .i64=>.a (.one (.sym z))
 | k=>.a (.one (.sml k z))
theorem Zfh {D:Den} {ρ:Nm} {w:World} (k:IntKind) (z:Int):denV D ρ w (mkI k z) (.int k z):=by
 cases k<;>rfl
def inK (k:IntKind) (z:Int):Prop:=
 match k with
 | .i64=>inR z
 | k=>k.wrap z=z
theorem Zkd {k:IntKind} {z:Int} (h:inK k z):k.wrap z=z:=by
 cases k<;>first|exact Znh h|exact h
def arith (op:BinOp) (k:IntKind) (a b:Int):Option (SV×List Prop):=
 match op with
 | .add=>some (mkI k (a+b),[inK k (a+b)])
 | .sub=>some (mkI k (a-b),[inK k (a-b)])
 | .mul=>some (mkI k (a*b),[inK k (a*b)])
 | .quo=>some (mkI k (a.tdiv b),[b≠0,inK k (a.tdiv b)])
 | .rem=>some (mkI k (a.tmod b),[b≠0])
 | .eql=>some (.a (.one (.tst (a==b))),[])
 | .neq=>some (.a (.one (.tst (a != b))),[])
 | .lss=>some (.a (.one (.tst (decide (a<b)))),[])
 | .leq=>some (.a (.one (.tst (decide (a<=b)))),[])
 | .gtr=>some (.a (.one (.tst (decide (a>b)))),[])
 | .geq=>some (.a (.one (.tst (decide (a>=b)))),[])
 | _=>none
def symS (P:Program) (o:Oper) (get:Operand->Option SV):Option (SV×List Prop):=
 match o.op with
 | .binOp op _ x y _ => match intOf (get x), intOf (get y) with
   | some (k,a,s),some (k',b,s')=>if(s || s')&&decide (k=k') then arith op k a b else none
   | _,_=>none
 | .unOp .neg _ x => match intOf (get x) with
   | some (.i64,a,true)=>some (.a (.one (.sym (0-a))),[inR (0-a)])
   | _=>none
 | .convert src dst x => match intOf (get x) with
   | some (_, a, true) => match P.underlying src, P.underlying dst with
     | some _,some (.int k)=>some (mkI k a,[inK k a])
     | _,_=>none
   | _=>none
 | _=>none
theorem Zt7 {D:Den} {P:Program} {ρ:Nm} {wc w:World} {op:BinOp} {t:TypeId} {x y:Operand} {k:IntKind} {a b:Int} {r:SV} {ps:List Prop} (h:arith op k a b=some (r,ps)) (hp:∀p∈ps,p) :
  ∃v,(do eqGuard op t x y (.int k a) (.int k b);binOp op t (.int k a) (.int k b):Sem Value).run P w=.ok v w∧denV D ρ wc r v:=by
 have hg:∀(s:Sem Value),(do eqGuard op t x y (.int k a) (.int k b);s:Sem Value).run P w=s.run P w:=by
  intro s;unfold eqGuard;cases op<;>rfl
 rw[hg];unfold arith at h;split at h<;>cases h
 ·exact⟨.int k (a+b),by simp[binOp,Op.intArith,Zkd (hp (inK k (a+b)) Zs)],Zfh _ _⟩
 ·exact⟨.int k (a-b),by simp[binOp,Op.intArith,Zkd (hp (inK k (a-b)) Zs)],Zfh _ _⟩
 ·exact⟨.int k (a*b),by simp[binOp,Op.intArith,Zkd (hp (inK k (a*b)) Zs)],Zfh _ _⟩
 ·exact⟨.int k (a.tdiv b),by simp[binOp,Op.intDiv,hp (b≠0) Zs,Zkd (hp (inK k (a.tdiv b)) Zs)],Zfh _ _⟩
 ·exact⟨.int k (a.tmod b),by simp[binOp,Op.intDiv,hp (b≠0) Zs],Zfh _ _⟩
 ·exact⟨.bool (a==b),by simp[binOp,Op.intCmp],rfl⟩
 ·exact⟨.bool (a != b),by simp[binOp,Op.intCmp],rfl⟩
 ·exact⟨.bool (decide (a<b)),by simp[binOp,Op.intCmp],rfl⟩
 ·exact⟨.bool (decide (a<=b)),by simp[binOp,Op.intCmp],rfl⟩
 ·exact⟨.bool (decide (a>b)),by simp[binOp,Op.intCmp],rfl⟩
 ·exact⟨.bool (decide (a>=b)),by simp[binOp,Op.intCmp],rfl⟩
theorem Zv6 {D:Den} {P:Program} {ρ:Nm} {wc w:World} {get:Operand->Option SV} {ev:Operand->Value} (hg:∀x z,get x=some z->denV D ρ wc z (ev x)) {o:Oper} {r:SV} {ps:List Prop} (h:symS P o get=some (r,ps)) (hp:∀p∈ps,p) :
  ∃v,(execOp ev o).run P w=.ok (.value v) w∧denV D ρ wc r v:=by
 have ofInt:∀{x:Operand} {k:IntKind} {z:Int} {b:Bool},intOf (get x)=some (k,z,b)->ev x=.int k z:=by
  intro x k z b hx;cases hgx:get x with
  | none=>rw[hgx]at hx;simp[intOf]at hx
  | some s=>rw[hgx]at hx;exact Za6 hx (hg _ _ hgx)
 have viaV:∀{s:Sem Value},(∃v,s.run P w=.ok v w∧denV D ρ wc r v)->∃v,(do pure (Next.value (<-s)):Sem Next).run P w=.ok (.value v) w∧denV D ρ wc r v:=by
  rintro s ⟨v,h1,h2⟩;exact⟨v,by simp only[Yar,h1,Yag,Yau],h2⟩
 unfold symS at h;split at h
 ·rename_i op t x y ty ho
  split at h
  ·rename_i k a s k' b s' ha hb
   split at h
   ·rename_i hkk
    rw[Yam,decide_eq_true_eq]at hkk;obtain⟨_,rfl⟩:=hkk;unfold execOp;rw[ho];refine viaV ?_;rw[ofInt ha,ofInt hb];exact Zt7 h hp
   ·cases h
  ·cases h
 ·rename_i t x ho
  split at h
  ·rename_i a ha
   cases h;unfold execOp;rw[ho];refine viaV ⟨.int .i64 (0-a),?_,rfl⟩;rw[ofInt ha];have:=Znh (hp (inR (0-a)) Zs);simp only[Op.unary,Op.intArith,Yau,this]
  ·cases h
 ·rename_i src dst x ho
  split at h
  ·rename_i k0 a ha
   split at h
   ·rename_i ts k hs hd
    cases h;unfold execOp;rw[ho];refine viaV ⟨.int k a,?_,Zfh _ _⟩;rw[ofInt ha];have:=Zkd (hp (inK k a) Zs);simp only[convert,Yar,run_underlying hs,run_underlying hd,Yag,Conv.intToInt,Yau,this]
   ·cases h
  ·cases h
 ·cases h
def unar:List (Option Bool)->Nat×List (Option Bool)
 | some false::r=>((unar r).1+1,(unar r).2)
 | some true::r=>(0,r)
 | r=>(0,r)
def letterOf:Option SV->Option (IntKind×Int)
 | some (.a (.one (.sym z)))=>some (.i64,z)
 | some (.a (.one (.sml k z)))=>some (k,z)
 | _=>none
theorem Zl1 {D:Den} {ρ:Nm} {w:World} {x:SV} {k:IntKind} {z:Int} {v:Value} (h:letterOf (some x)=some (k,z)) (hv:denV D ρ w x v):v=.int k z:=by
 unfold letterOf at h;split at h
 ·rename_i z' e
  cases h;cases e;simpa[denV,denA,denU]using hv
 ·rename_i k' z' e
  cases h;cases e;simpa[denV,denA,denU]using hv
 ·cases h
def idxS (P:Program) (o:Oper) (get:Operand->Option SV) (orc:List (Option Bool)):Option (SV×List Prop×List (Option Bool)):=
 match o.op with
 | .index t x ix => match letterOf (get ix) with
   | some (k,z)=>(indexS P t (get x) (some (.a (.one (.val (.int k (unar orc).1)))))).map λr=>(r,[z=((unar orc).1:Int)],(unar orc).2)
   | none=>none
 | .indexAddr t x ix => match letterOf (get ix) with
   | some (k,z)=>(indexAddrS P t (get x) (some (.a (.one (.val (.int k (unar orc).1)))))).map λr=>(r,[z=((unar orc).1:Int)],(unar orc).2)
   | none=>none
 | .call ⟨.builtin .min, ⟨[x, y]⟩, _⟩ => match intOf (get x), intOf (get y), orc with
   | some (k,a,s),some (k',b,s'),some true::r=>if(s || s')&&decide (k=k') then(get x).map λz=>(z,[a<=b],r) else none
   | some (k,a,s),some (k',b,s'),some false::r=>if(s || s')&&decide (k=k') then(get y).map λz=>(z,[b<=a],r) else none
   | _,_,_=>none
 | .call ⟨.builtin .max, ⟨[x, y]⟩, _⟩ => match intOf (get x), intOf (get y), orc with
   | some (k,a,s),some (k',b,s'),some true::r=>if(s || s')&&decide (k=k') then(get y).map λz=>(z,[a<=b],r) else none
   | some (k,a,s),some (k',b,s'),some false::r=>if(s || s')&&decide (k=k') then(get x).map λz=>(z,[b<=a],r) else none
   | _,_,_=>none
 | _=>none
theorem Zv7 {D:Den} {P:Program} {ρ:Nm} {wc w:World} {get:Operand->Option SV} {ev:Operand->Value} (hg:∀x z,get x=some z->denV D ρ wc z (ev x)) {o:Oper} {orc orc':List (Option Bool)} {r:SV} {ps:List Prop} (h:idxS P o get orc=some (r,ps,orc')) (hp:∀p∈ps,p) :
  ∃v,(execOp ev o).run P w=.ok (.value v) w∧denV D ρ wc r v:=by
 have hl:∀{x:Operand} {k:IntKind} {z:Int},letterOf (get x)=some (k,z)->ev x=.int k z:=by
  intro x k z hx;cases hgx:get x with
  | none=>rw[hgx]at hx;simp[letterOf]at hx
  | some s=>rw[hgx]at hx;exact Zl1 hx (hg _ _ hgx)
 have viaV:∀{s:Sem Value},(∃v,s.run P w=.ok v w∧denV D ρ wc r v)->∃v,(do pure (Next.value (<-s)):Sem Next).run P w=.ok (.value v) w∧denV D ρ wc r v:=by
  rintro s ⟨v,h1,h2⟩;exact⟨v,by simp only[Yar,h1,Yag,Yau],h2⟩
 have one:∀{k:IntKind} {j:Nat} {v:Value},v=.int k (j:Int)->∀s,some (SV.a (.one (.val (.int k (j:Int)))))=some s->denV D ρ wc s v:=by
  intro k j v e s hs;cases hs;exact⟨by rw[e],by simp[Value.oneCell']⟩
 unfold idxS at h;split at h
 ·rename_i t x ix ho
  split at h
  ·rename_i k z hz
   obtain⟨y,hy,e⟩:=Yad.1 h;cases e;have e1:z=((unar orc).1:Int):=hp _ Zs;have e2:=hl hz;rw[e1]at e2;unfold execOp;rw[ho];exact viaV (Zh8 (hg x) (one e2) hy)
  ·cases h
 ·rename_i t x ix ho
  split at h
  ·rename_i k z hz
   obtain⟨y,hy,e⟩:=Yad.1 h;cases e;have e1:z=((unar orc).1:Int):=hp _ Zs;have e2:=hl hz;rw[e1]at e2;unfold execOp;rw[ho];exact viaV (Zd5 (hg x) (one e2) hy)
  ·cases h
 ·rename_i x y ts ho
  have ofInt:∀{x:Operand} {k:IntKind} {z:Int} {b:Bool},intOf (get x)=some (k,z,b)->ev x=.int k z:=by
   intro x k z b hx;cases hgx:get x with
   | none=>rw[hgx]at hx;simp[intOf]at hx
   | some s=>rw[hgx]at hx;exact Za6 hx (hg _ _ hgx)
  have run:∀{k:IntKind} {a b:Int},ev x=.int k a->ev y=.int k b->(execOp ev o).run P w=.ok (.value (.int k (if b<a then b else a))) w:=by
   intro k a b e1 e2;unfold execOp;simp only[ho,resolve,Yar,Yau,Yag,invoke,builtin,Builtin.min_,Yev,Ybz,Yfp,e1,e2];rfl
  split at h
  ·rename_i k a s k' b s' r' hx hy
   split at h
   ·rename_i hc
    rw[Yam,decide_eq_true_eq]at hc;obtain⟨_,rfl⟩:=hc;obtain⟨z,hz,e⟩:=Yad.1 h;cases e;have hab:a<=b:=hp _ Zs;refine⟨_,run (ofInt hx) (ofInt hy),?_⟩;rw[if_neg Zo,<-ofInt hx];exact hg _ _ hz
   ·cases h
  ·rename_i k a s k' b s' r' hx hy
   split at h
   ·rename_i hc
    rw[Yam,decide_eq_true_eq]at hc;obtain⟨_,rfl⟩:=hc;obtain⟨z,hz,e⟩:=Yad.1 h;cases e;have hab:b<=a:=hp _ Zs;refine⟨_,run (ofInt hx) (ofInt hy),?_⟩;have e3:(if b<a then b else a)=b:=by split<;>omega
    rw[e3,<-ofInt hy];exact hg _ _ hz
   ·cases h
  ·cases h
 ·rename_i x y ts ho
  have ofInt:∀{x:Operand} {k:IntKind} {z:Int} {b:Bool},intOf (get x)=some (k,z,b)->ev x=.int k z:=by
   intro x k z b hx;cases hgx:get x with
   | none=>rw[hgx]at hx;simp[intOf]at hx
   | some s=>rw[hgx]at hx;exact Za6 hx (hg _ _ hgx)
  split at h
  ·rename_i k a s k' b s' r' hx hy
   split at h
   ·rename_i hc
    rw[Yam,decide_eq_true_eq]at hc;obtain⟨_,rfl⟩:=hc;obtain⟨z,hz,e⟩:=Yad.1 h;cases e;have hab:a<=b:=hp _ Zs;have hrun:(execOp ev o).run P w=.ok (.value (.int k (if b>a then b else a))) w:=by
     unfold execOp;simp only[ho,resolve,Yar,Yau,Yag,invoke,builtin,Builtin.max_,Yev,Ybz,Yfp,ofInt hx,ofInt hy];rfl
    refine⟨_,hrun,?_⟩;have e3:(if b>a then b else a)=b:=by split<;>omega
    rw[e3,<-ofInt hy];exact hg _ _ hz
   ·cases h
  ·rename_i k a s k' b s' r' hx hy
   split at h
   ·rename_i hc
    rw[Yam,decide_eq_true_eq]at hc;obtain⟨_,rfl⟩:=hc;obtain⟨z,hz,e⟩:=Yad.1 h;cases e;have hab:b<=a:=hp _ Zs;have hrun:(execOp ev o).run P w=.ok (.value (.int k (if b>a then b else a))) w:=by
     unfold execOp;simp only[ho,resolve,Yar,Yau,Yag,invoke,builtin,Builtin.max_,Yev,Ybz,Yfp,ofInt hx,ofInt hy];rfl
    refine⟨_,hrun,?_⟩;have e3:(if b>a then b else a)=a:=by split<;>omega
    rw[e3,<-ofInt hx];exact hg _ _ hz
   ·cases h
  ·cases h
 ·cases h
def rngOf:Option SV->Option (FuncId×List SA×List (Nat×Nat))
 | some (.a (.one (.clo gf caps)))=>some (gf,[],caps)
 | some (.a (.one (.bnd gf g l)))=>some (gf,[bndA g l],[])
 | _=>none
theorem Zni {D:Den} {ρ:Nm} {w:World} {y:Option SV} {gf:FuncId} {fs:List SA} {caps:List (Nat×Nat)} (h:rngOf y=some (gf,fs,caps)) {v:Value} (hv:∀x,y=some x->denV D ρ w x v) :
  ∃us vs:List Value,v=.func (.func gf) us.toArray vs.toArray∧denAs D ρ w fs us∧adrs ρ caps vs:=by
 unfold rngOf at h;split at h
 ·cases h
  obtain⟨vs,hvs,e⟩:=hv _ rfl;exact⟨[],vs,by simpa using e,rfl,hvs⟩
 ·cases h
  obtain⟨u,e,hu⟩:=hv _ rfl;exact⟨[u],[],by simpa using e,⟨u,[],rfl,hu.up,rfl⟩,rfl⟩
 ·cases h
def callOf (P:Program) (o:Oper) (get:Operand->Option SV):Option (FuncId×List SA):=
 match o.op with
 | .call c => match c.callee with
   | .value fv => match rngOf (get fv), sargs get c.args.toList with
     | some (f,fs,caps),some args=>if entersB P f then some (f,fs++(args++capsA caps)) else none
     | _,_=>none
   | _=>none
 | _=>none
def yldOf (o:Oper) (get:Operand->Option SV):Option (Nat×List SA):=
 match o.op with
 | .call c => match c.callee with
   | .value fv => match get fv, sargs get c.args.toList with
     | some (.a (.one (.yld k))),some args=>some (k,args)
     | _,_=>none
   | _=>none
 | _=>none
def panOf (o:Oper) (get:Operand->Option SV):Option Value:=
 match o.op with
 | .panic x => match (get x).bind realV with
   | some (.iface t v)=>some (.iface t v)
   | _=>none
 | .call ⟨.builtin .panic, ⟨[x]⟩, _⟩ => match (get x).bind realV with
   | some (.iface t v)=>some (.iface t v)
   | _=>none
 | _=>none
def isDefer (o:Oper):Bool:=
 match o.op with
 | .defer _=>true
 | _=>false
def tmin (a b:Nat):Nat:=bif Nat.ble a b then a else b
theorem Zl2 (a b:Nat):tmin a b<=b:=by
 unfold tmin;cases h:Nat.ble a b with
 | true=>exact Yaa h
 | false=>exact Yab _
def retS (r:OpR):OpR:=⟨(fixB r.v r.orc).1,r.wr,r.obl++(fixB r.v r.orc).2.1,(fixB r.v r.orc).2.2,r.c,r.th,r.pan⟩
def opS (P : Program) (cs : CallS) (ys : YEnv) (o : Oper) (get : Operand -> Option SV) (bk : List (Nat × Blk)) (th c : Nat) (orc : List (Option Bool)) : Option (OpR × Bool) :=
 if isDefer o then none else
 match cs.op o get with
 | some x=>some (⟨x,[],[],orc,c,th,none⟩,false)
 | none=>
 match callOf P o get with
 | some (f, args) => if bk.all (λp => Nat.blt p.1 c) then (match cs.call ys f args bk c (tmin th c) orc with
   | some r=>if Nat.ble c r.c then some (retS r,true) else none
   | none=>none) else none
 | none => match yldOf o get with
   | some (k, args) => match ys.look k with
     | some h => if bk.all (λp => Nat.blt p.1 c) then (match h args bk c (tmin th c) orc with
       | some r=>if Nat.ble c r.c then some (retS r,true) else none
       | none=>none) else none
     | none=>none
   | none => match panOf o get with
     | some p=>some (⟨.no,bk,[],orc,c,th,some p⟩,false)
     | none => match idxS P o get orc with
      | some (x,ps,orc')=>some (⟨x,[],ps,orc',c,th,none⟩,false)
      | none=>match symS P o get with
       | some (x,ps)=>some (⟨(fixB x orc).1,[],ps++(fixB x orc).2.1,(fixB x orc).2.2,c,th,none⟩,false)
       | none => match effS P o get bk th c with
         | some (x,wr,c')=>if Nat.ble c c' then some (⟨x,wr,[],orc,c',th,none⟩,false) else none
         | none=>none
theorem Zcy {α:Type} {l:List (Nat×α)} {c:Nat} (h:l.all (λp=>Nat.blt p.1 c)=true):∀k b,l.look k=some b->k<c:=by
 induction l with
 | nil=>intro k b hk;simp at hk
 | cons p r ih =>
   obtain⟨k',x⟩:=p;intro k b hk;rw[List.all_cons,Yam]at h;rw[Zat]at hk;split at hk
   ·rename_i e
    subst e;exact of_eq_true (by rw[<-Nat.blt_eq];simpa using h.1)
   ·exact ih h.2 k b hk
theorem Sat.reth {D:Den} {w0:World} {X:Nat->Prop} {th t:Nat} {ρ:Nm} {wc w:World} {bk:List (Nat×Blk)} (h:Sat D w0 X th ρ wc w bk) (hf:∀k b,bk.look k=some b->k<t):Sat D w0 X t ρ wc w bk:=
 ⟨h.fr,h.ext,h.inj,h.lt,λk b hk=>let ⟨B,cs,h1,h2,h3,h4,_,h6⟩:=h.box k b hk;⟨B,cs,h1,h2,h3,h4,λ_ hh=>absurd hh (Nat.not_le.2 (hf k b hk.1)),h6⟩⟩
theorem Sat.tmin {D:Den} {w0:World} {X:Nat->Prop} {th c:Nat} {ρ:Nm} {wc w:World} {bk:List (Nat×Blk)} (h:Sat D w0 X th ρ wc w bk) (hf:∀k b,bk.look k=some b->k<c):Sat D w0 X (tmin th c) ρ wc w bk:=by
 unfold Go.Ex.tmin;cases hb:Nat.ble th c with
 | true=>exact h
 | false=>exact h.reth hf
theorem YOk.at {D:Den} {P:Program} {w0:World} {X:Nat->Prop}:∀{bd:Nat} {ys:YEnv} {ρ:Nm} {wc w:World} {k:Nat} {h:YS},YOk D P w0 X bd ys ρ wc w->ys.look k=some h->
  ∃B,ρ k=some B∧∀args bk c th orc r,h args bk c th orc=some r->(∀p∈r.obl,p)->∀vals,Sat D w0 X th ρ wc w bk->(∀j x,bk.look j=some x->j<c)->th<=c->
    (∀j,c<=j->j<r.c->ρ j=none)->denAs D ρ wc args vals->
    ∃fn tmps assign body,(Instr.yield B.blk vals.toArray).run P w=.ok (.round B.blk fn tmps assign body) w∧
      RoundIn (WF none) 0 P B.blk fn tmps assign body w (Post D w0 X ρ wc w bk c r)
 | _, (k', h') :: ys, ρ, wc, w, k, h, ⟨B, lp, h2, h3, _, _, h1, h4⟩, hk => by
   rw[Zat]at hk;split at hk
   ·rename_i e
    cases hk;subst e;refine⟨B,h2,λargs bk c th orc r hh ho vals g1 g2 g3 g4 g5=>?_⟩;obtain⟨fn,tmps,assign,body,q1,q2⟩:=h4 args bk c th orc r hh ho ρ wc w vals (Nm.le.refl _) (Ext.refl _) g1 h1 g2 g3 g4 g5 h3;exact⟨fn,tmps,assign,body,q1,q2.mono λe w' hp=>hp.1⟩
   ·exact YOk.at h1 hk
section
variable {D:Den} {P:Program} {w0:World} {X:Nat->Prop} {th:Nat} {ρ:Nm} {wc w:World} {bk bkR:List (Nat×Blk)} {c:Nat} {get:Operand->Option SV} {a:Act} {cs:CallS} {ys:YEnv}
theorem Zke {o:Oper} {orc:List (Option Bool)} {r:OpR} {cl:Bool} (he:opS P cs ys o get bkR th c orc=some (r,cl)):c<=r.c:=by
 unfold opS at he;split at he
 ·cases he
 ·split at he
  ·cases he
   exact Yab _
  split at he
  ·split at he
   ·split at he
    ·split at he
     ·rename_i h
      cases he;exact Yaa h
     ·cases he
    ·cases he
   ·cases he
  ·split at he
   ·split at he
    ·split at he
     ·split at he
      ·split at he
       ·rename_i h
        cases he;exact Yaa h
       ·cases he
      ·cases he
     ·cases he
    ·cases he
   ·split at he
    ·cases he
     exact Yab _
    ·split at he
     ·cases he
      exact Yab _
     split at he
     ·cases he
      exact Yab _
     ·split at he
      ·split at he
       ·rename_i h
        cases he;exact Yaa h
       ·cases he
      ·cases he
theorem Znj (hcs:CallOk D P w0 X cs) {bd:Nat} (hy:YOk D P w0 X bd ys ρ wc w) (h:Sat D w0 X th ρ wc w bk) (hs:Sub bkR bk) (hg:∀x z,get x=some z->denV D ρ wc z (a.eval x)) {o:Oper} {orc:List (Option Bool)} {r:OpR} {cl:Bool}
  (he:opS P cs ys o get bkR th c orc=some (r,cl)) (hobl:∀p∈r.obl,p) (hn:∀k,c<=k->k<r.c->ρ k=none) {G:List (Nat×Blk)} {th':Nat} {ro:Option Nat} {n:Nat}
  (hcl:cl=true->(∀k b,bkR.look k=some b->k<c)->∀ρ' wc' w',Sat D w0 X r.th ρ' wc' w' (r.fin bkR)->Evo ρ wc w bkR c r.c ρ' wc' w' (r.fin bkR)->Sat D w0 X th' ρ' wc' w' G∧Evo ρ wc w bk c r.c ρ' wc' w' G)
  (hpl:cl=false->r.th=th->th'=th∧((r.pan=none∧G=r.wr++bk)∨(r.pan≠none∧(r.wr=bkR->Sub' G bk))))
  {K:Act->World->Prop} {Q:Exit->Act->World->Prop}
  (hK:r.pan=none->∀ρ' wc' w' v,denV D ρ' wc' r.v v->Sat D w0 X th' ρ' wc' w' G->Evo ρ wc w bk c r.c ρ' wc' w' G->K (a.put o.dst v) w')
  (hP:∀p,r.pan=some p->∀ρ' wc' w',Sat D w0 X th' ρ' wc' w' G->Evo ρ wc w bk c r.c ρ' wc' w' G->Q (.panic [{v:=p,recovered:=false}]) a w'):o.wpIn (WF ro) n P a w K Q:=by
 refine⟨λ_ _=>trivial,?_⟩;unfold opS at he;split at he
 ·cases he
 rename_i hdf;rw[Oper.semAt_eq _ _ _ (λc hc=>by rw[isDefer,hc]at hdf;simp at hdf)]
 have fin:∀{r':OpR} {e:Ending} {w':World},r=retS r'->(∀ρ' wc' w',Sat D w0 X r'.th ρ' wc' w' (r'.fin bkR)->Evo ρ wc w bkR c r'.c ρ' wc' w' (r'.fin bkR)->Sat D w0 X th' ρ' wc' w' G∧Evo ρ wc w bk c r'.c ρ' wc' w' G)->Post D w0 X ρ wc w bkR c r' e w'->
   (match e,w' with
    | .returned v,w''=>K (a.put o.dst v) w''
    | .panicked chain,w''=>Q (.panic chain) a w''
    | .outgrown,_=>LetsOut Q):=by
  intro r' e w' hr hm ⟨v,ρ',wc',hend,hv,hS,hE⟩;subst hr;obtain⟨k1,k2⟩:=hm ρ' wc' w' hS hE;unfold OpR.ends at hend;split at hend
  ·rename_i hp
   subst hend;exact hK hp ρ' wc' w' v (Zqy (λp hp=>hobl p (Ydv _ hp)) hv) k1 k2
  ·rename_i p hp
   subst hend;exact hP p hp ρ' wc' w' k1 k2
 split at he
 ·rename_i x hx
  obtain⟨rfl,rfl⟩:(⟨x,[],[],orc,c,th,none⟩:OpR)=r∧false=cl:=by simpa using he
  obtain⟨rfl,hG⟩:=hpl rfl rfl;obtain rfl:G=bk:=by
   rcases hG with ⟨_,h2⟩|⟨h2,_⟩
   ·exact h2
   ·exact absurd rfl h2
  obtain⟨v,h1,h2⟩:=hcs.op o get x hx ρ wc w a.eval h.fr hg;rw[h1,Oper.uponIn_value];exact hK rfl ρ wc w v h2 h (Evo.refl _ _ _ _ _)
 split at he
 ·rename_i f args hcall
  split at he
  ·rename_i hall
   split at he
   ·rename_i r' hr
    split at he
    ·rename_i hle
     obtain⟨rfl,rfl⟩:retS r'=r∧true=cl:=by simpa using he
     have hlt:=Zcy hall;unfold callOf at hcall;split at hcall
     ·rename_i cc ho
      split at hcall
      ·rename_i fv hcal
       split at hcall
       ·rename_i gf fs caps sa hfv hsa
        split at hcall
        ·rename_i hen
         obtain⟨rfl,rfl⟩:gf=f∧fs++(sa++capsA caps)=args:=by simpa using hcall
         obtain⟨us,vs,e2,hus,hvs⟩:=Zni hfv (hg fv);have hargs:=hus.append ((Ziz hg hsa).append (Zgb (D:=D) (w:=wc) hvs));have hx:(execOp a.eval o).run P w=.ok (.enter gf (us++(cc.args.toList.map a.eval++vs)).toArray) w:=by
          unfold execOp;simp only[ho,resolve,hcal,Deferred.ofValue,e2,Yar,Yau,Yag,invoke];rw[Zfg hen];congr 2
          apply Yee.1;simp
         rw[hx,Oper.uponIn_enter];refine⟨(λhh=>by cases hh),callsIn_WF.2 ((hcs.call _ _ _ _ _ _ _ _ hr (λp hp=>hobl p (Ycy _ hp)) bd ρ wc w _ ((h.sub hs).tmin hlt) hy hlt (Zl2 _ _) hn hargs).mono ?_)⟩;intro e w' hp;exact fin rfl (hcl rfl hlt) hp
        ·cases hcall
       ·cases hcall
      ·cases hcall
     ·cases hcall
    ·cases he
   ·cases he
  ·cases he
 ·split at he
  ·rename_i k args hyl
   split at he
   ·rename_i hd hhd
    split at he
    ·rename_i hall
     split at he
     ·rename_i r' hr
      split at he
      ·rename_i hle
       obtain⟨rfl,rfl⟩:retS r'=r∧true=cl:=by simpa using he
       have hlt:=Zcy hall;unfold yldOf at hyl;split at hyl
       ·rename_i cc ho
        split at hyl
        ·rename_i fv hcal
         split at hyl
         ·rename_i k' sa hfv hsa
          obtain⟨rfl,rfl⟩:k'=k∧sa=args:=by simpa using hyl
          obtain⟨B,hB,e1⟩:=hg _ _ hfv;have e2:a.eval fv=.func (.yield B.blk) #[] #[]:=by simpa using e1
          have hargs:=Ziz (D:=D) (wc:=wc) hg hsa;obtain⟨B',hB',hround⟩:=hy.at hhd;cases hB.symm.trans hB';obtain⟨fn,tmps,assign,body,q1,q2⟩:=hround _ _ _ _ _ _ hr (λp hp=>hobl p (Ycy _ hp)) _ ((h.sub hs).tmin hlt) hlt (Zl2 _ _) hn hargs;have hx:(execOp a.eval o).run P w=.ok (.round B.blk fn tmps assign body) w:=by
           rw[<-q1];unfold execOp;simp only[ho,resolve,hcal,Deferred.ofValue,e2,Yar,Yau,Yag,invoke];congr 2
           apply Yee.1;simp
          rw[hx,Oper.uponIn_round];refine⟨(λhh=>by cases hh),?_⟩;refine RoundIn.mono (F:=WF ro) (R:=Post D w0 X ρ wc w bkR c r') ⟨trivial,λc' cs' hroom=>?_⟩ λe w' hp=>fin rfl (hcl rfl hlt) hp;exact q2.2 c' cs' (λd hd=>by cases hd)
         ·cases hyl
        ·cases hyl
       ·cases hyl
      ·cases he
     ·cases he
    ·cases he
   ·cases he
  ·split at he
   ·rename_i p hpan
    obtain⟨rfl,rfl⟩:(⟨.no,bkR,[],orc,c,th,some p⟩:OpR)=r∧false=cl:=by simpa using he
    obtain⟨rfl,hG⟩:=hpl rfl rfl;have hG:Sub' G bk:=by
     rcases hG with ⟨h1,_⟩|⟨_,h2⟩
     ·cases h1
     ·exact h2 rfl
    have real:∀{x:Operand} {u:Value},(get x).bind realV=some u->a.eval x=u:=by
     intro x u hx;obtain⟨z,hz,hr⟩:=Ybg.1 hx;exact Zgr hr (hg _ _ hz)
    have hrun:(execOp a.eval o).run P w=.halt (.panic p) w:=by
     unfold panOf at hpan;split at hpan
     ·rename_i x ho
      split at hpan
      ·rename_i t v hx
       cases hpan;unfold execOp;simp only[ho,real hx];rfl
      ·cases hpan
     ·rename_i x ts ho
      split at hpan
      ·rename_i t v hx
       cases hpan;unfold execOp;simp only[ho,resolve,Yar,Yau,Yag,invoke,builtin,Yev,Ybz,Yfp,real hx];rfl
      ·cases hpan
     ·cases hpan
    rw[hrun,Oper.uponIn_panic];exact hP p rfl ρ wc w (h.sub' hG) ((Evo.refl ρ wc w bk c).sub' hG)
   ·split at he
    ·rename_i x ps orc' hidx
     obtain⟨rfl,rfl⟩:(⟨x,[],ps,orc',c,th,none⟩:OpR)=r∧false=cl:=by simpa using he
     obtain⟨rfl,hG⟩:=hpl rfl rfl;obtain rfl:G=bk:=by
      rcases hG with ⟨_,h2⟩|⟨h2,_⟩
      ·exact h2
      ·exact absurd rfl h2
     obtain⟨v,h1,h2⟩:=Zv7 (P:=P) (w:=w) hg hidx hobl;rw[h1,Oper.uponIn_value];exact hK rfl ρ wc w v h2 h (Evo.refl _ _ _ _ _)
    split at he
    ·rename_i x ps hsym
     obtain⟨rfl,rfl⟩:(⟨(fixB x orc).1,[],ps++(fixB x orc).2.1,(fixB x orc).2.2,c,th,none⟩:OpR)=r∧false=cl:=by simpa using he
     obtain⟨rfl,hG⟩:=hpl rfl rfl;obtain rfl:G=bk:=by
      rcases hG with ⟨_,h2⟩|⟨h2,_⟩
      ·exact h2
      ·exact absurd rfl h2
     obtain⟨v,h1,h2⟩:=Zv6 (P:=P) (w:=w) hg hsym (λp hp=>hobl p (Ycy _ hp));rw[h1,Oper.uponIn_value];exact hK rfl ρ wc w v (Zqy (λp hp=>hobl p (Ydv _ hp)) h2) h (Evo.refl _ _ _ _ _)
    ·split at he
     ·rename_i x wr c' heff
      split at he
      ·obtain⟨rfl,rfl⟩:(⟨x,wr,[],orc,c',th,none⟩:OpR)=r∧false=cl:=by simpa using he
       obtain⟨rfl,hG⟩:=hpl rfl rfl;obtain rfl:G=wr++bk:=by
        rcases hG with ⟨_,h2⟩|⟨h2,_⟩
        ·exact h2
        ·exact absurd rfl h2
       obtain⟨nx,v,w',ρ',hrun,hnx,hv,k1,k2⟩:=Zv5 h hs hg heff hn;rw[hrun];rcases hnx with rfl|⟨rfl,rfl⟩
       ·exact hK rfl ρ' wc w' v hv k1 k2
       ·exact hK rfl ρ' wc w' undef hv k1 k2
      ·cases he
     ·cases he
end
/-! ### slots -/
def putT (tm:List (Nat×SV)) (d:Option Tmp) (x:SV):List (Nat×SV):=
 match d with
 | some t=>(t,x)::tm
 | none=>tm
def dstOk (n:Nat) (d:Option Tmp):Bool:=
 match d with
 | some t=>Nat.blt t n
 | none=>true
theorem TSat.put {D:Den} {ρ:Nm} {w:World} {n:Nat} {tm:List (Nat×SV)} {a:Act} (h:TSat D ρ w n tm a) {d:Option Tmp} (hd:dstOk n d=true) {x:SV} {v:Value} (hv:denV D ρ w x v) :
  TSat D ρ w n (putT tm d x) (a.put d v):=by
 cases d with
 | none=>exact h
 | some t =>
   have ht:t<a.tmps.size:=by rw[h.size];exact Nat.blt_eq▸(show Nat.blt t n=true from hd)
   refine⟨by simp[Act.put,h.size],λs y hs=>?_⟩;unfold putT at hs;dsimp only at hs;rw[Zat]at hs;show ∃v',(a.tmps.setIfInBounds t v)[s]? = some v'∧_;by_cases e:s=t
   ·rw[if_pos e]at hs
    cases hs;subst e;exact⟨v,by simp[ht],hv⟩
   ·rw[if_neg e]at hs
    obtain⟨v',h1,h2⟩:=h.at_ s y hs;exact⟨v',by rw[Array.getElem?_setIfInBounds,if_neg (λh=>e h.symm)];exact h1,h2⟩
def wantS (ops:Array Oper) (o:Oper) (tm:List (Nat×SV)) (orc:List (Option Bool)):Option (Bool×List Prop×List (Option Bool)):=
 match o.guard with
 | none=>some (true,[],orc)
 | some (j, want) => match (ops[j]?).bind (·.dst) with
   | some d => match tm.look d with
     | some (.a (.one (.val (.bool b))))=>some (b==want,[],orc)
     | some (.tup _)=>some (false,[],orc)
     | _=>none
   | none=>none
theorem Zem {D:Den} {ρ:Nm} {w:World} {n:Nat} {tm:List (Nat×SV)} {a:Act} (h:TSat D ρ w n tm a) {ops:Array Oper} {o:Oper} {orc orc':List (Option Bool)} {b:Bool} {ps:List Prop}
  (hw:wantS ops o tm orc=some (b,ps,orc')) (hps:∀p∈ps,p):Region.wanted o (yielded ops a.tmps)=b:=by
 unfold wantS at hw;unfold Region.wanted;split at hw
 ·rename_i hg
  cases hw;rw[hg]
 ·rename_i j want hg
  rw[hg];dsimp only;split at hw
  ·rename_i d hd
   split at hw
   ·rename_i b' hb
    obtain⟨v,hv,hden⟩:=h.at_ d _ hb;have hvb:v=.bool b':=by simpa using hden.1
    subst hvb;cases hw;unfold yielded;rw[hd,Yfq,hv];cases b'<;>cases want<;>rfl
   ·rename_i l hb
    cases hw;obtain⟨v,hv,vs,rfl,_⟩:=h.at_ d _ hb;unfold yielded;rw[hd,Yfq,hv];rfl
   ·cases hw
  ·cases hw
end
end Go.Ex
namespace Go.Proofs.W
open Go.RowKit Go.Mono
theorem Zkn:(∀args w,(callFunc 190 args).run Tryz.prog w=.ok (.enter 190 args) w)∧(∀args w,(callFunc 192 args).run Tryz.prog w=.ok (.enter 192 args) w)∧(∀args w,(callFunc 194 args).run Tryz.prog w=.ok (.enter 194 args) w)∧(∀args w,(callFunc 195 args).run Tryz.prog w=.ok (.enter 195 args) w)∧(∀args w,(callFunc 196 args).run Tryz.prog w=.ok (.enter 196 args) w)∧(∀args w,(callFunc 197 args).run Tryz.prog w=.ok (.enter 197 args) w):=
 ⟨Go.Proofs.enters_of Tryz.func190 Zk rfl,Go.Proofs.enters_of Tryz.func192 Zk rfl,Go.Proofs.enters_of Tryz.func194 Zk rfl,Go.Proofs.enters_of Tryz.func195 Zk rfl,Go.Proofs.enters_of Tryz.func196 Zk rfl,Go.Proofs.enters_of Tryz.func197 Zk rfl⟩
def vG:Nat->Nat:=λi=>if i=0 then 190 else if i=1 then 192 else if i=2 then 194 else if i=3 then 195 else if i=4 then 196 else 197
def vF (B:Nat):Nat->Array Value:=λi=>if i<2 then #[] else #[.pointer (some ⟨B,0,none⟩)]
def vC (A:Nat):Nat->Array Value:=λi=>if i<2 then #[.pointer (some ⟨A,0,none⟩)] else #[]
theorem Zub (B:Nat) (w:World)
  (h1:∀A W,Below w.heap.size w W->Box W A 255 #[.pointer (some ⟨B,0,none⟩)]->Calls Tryz.prog 190 #[.pointer (some ⟨A,0,none⟩)] W λe w'=>e=.returned (.bool true)∧Below W.heap.size W w')
  (h2:∀A W,Below w.heap.size w W->Box W A 255 #[.pointer (some ⟨B,0,none⟩)]->Calls Tryz.prog 192 #[.pointer (some ⟨A,0,none⟩)] W λe w'=>e=.returned (.bool true)∧Below W.heap.size W w')
  (h3:∀W,Below w.heap.size w W->Calls Tryz.prog 194 #[.pointer (some ⟨B,0,none⟩)] W λe w'=>e=.returned (.bool true)∧Below W.heap.size W w')
  (h4:∀W,Below w.heap.size w W->Calls Tryz.prog 195 #[.pointer (some ⟨B,0,none⟩)] W λe w'=>e=.returned (.bool true)∧Below W.heap.size W w')
  (h5:∀W,Below w.heap.size w W->Calls Tryz.prog 196 #[.pointer (some ⟨B,0,none⟩)] W λe w'=>e=.returned (.bool true)∧Below W.heap.size W w')
  (h6:∀W,Below w.heap.size w W->Calls Tryz.prog 197 #[.pointer (some ⟨B,0,none⟩)] W λe w'=>e=.returned (.bool true)∧Below W.heap.size W w') :
  Calls Tryz.prog 162 #[.pointer (some ⟨B,0,none⟩)] w λe w'=>e=.returned (.bool true)∧Below w.heap.size w w':=by
 have hmf:∀(fn:Fn) (first cap:Array Value) (w:World),(Instr.makeFunc fn first cap).run Tryz.prog w=.ok (.func fn first cap) w:=λ_ _ _ _=>rfl;go_enter Tryz.func162,Tryz.ntmps162
 go_wp2_with fail
 refine Zbj λW hB hs b0 b1=>?_;obtain⟨e1,e2,e3,e4,e5,e6⟩:=Zkn;refine(Zwg 6 6 _ vG (vF B) (vC w.heap.size) W ⟨Zo,Zo,λ_=>⟨_,_,rfl,b1.lt,λi j hi hj=>?_⟩⟩ (λi hi=>?_) (λi hi W' hW=>?_)).mono ?_
 ·obtain rfl:j=0:=by omega
  rw[b1.cell];rcases(by omega:i=0∨i=1∨i=2∨i=3∨i=4∨i=5) with rfl|rfl|rfl|rfl|rfl|rfl<;>rfl
 ·rcases(by omega:i=0∨i=1∨i=2∨i=3∨i=4∨i=5) with rfl|rfl|rfl|rfl|rfl|rfl
  ·exact e1
  ·exact e2
  ·exact e3
  ·exact e4
  ·exact e5
  ·exact e6
 ·have hBW:=Zaa hB hW
  rcases(by omega:i=0∨i=1∨i=2∨i=3∨i=4∨i=5) with rfl|rfl|rfl|rfl|rfl|rfl
  ·exact h1 _ W' hBW (b0.below hW)
  ·exact h2 _ W' hBW (b0.below hW)
  ·exact h3 W' hBW
  ·exact h4 W' hBW
  ·exact h5 W' hBW
  ·exact h6 W' hBW
 rintro e w' ⟨rfl,hb⟩;go_wp2
 go_ret
 exact⟨rfl,Zaa hB hb⟩
theorem Zko (nm:ByteArray) (di pu st pr:Int) (pf pw' ps pc:Option Addr) (nf cf n cw ns cs nc cc:Nat) (w:World)
  (hv:∀B W,Below w.heap.size w W->Box W B 236 #[.string nm,.int .i64 di,.int .i64 pu,.int .i64 st,.int .i64 pr,.slice pf nf cf,.slice pw' n cw,.slice ps ns cs,.slice pc nc cc]->Calls Tryz.prog 162 #[.pointer (some ⟨B,0,none⟩)] W λe w'=>e=.returned (.bool true)∧Below W.heap.size W w') :
  Calls Tryz.prog 120 #[.agg #[.string nm,.int .i64 di,.int .i64 pu,.int .i64 st,.int .i64 pr,.slice pf nf cf,.slice pw' n cw,.slice ps ns cs,.slice pc nc cc]] w λe w'=>e=.returned (.int .i64 0)∧Below w.heap.size w w':=by
 have hmf:∀(fn:Fn) (first cap:Array Value) (w:World),(Instr.makeFunc fn first cap).run Tryz.prog w=.ok (.func fn first cap) w:=λ_ _ _ _=>rfl;go_enter Tryz.func120,Tryz.ntmps120
 go_wp2_with fail
 refine Zbj λW hB hs b0 b1=>?_;refine(hv _ W hB b1).mono ?_;rintro e w' ⟨rfl,hb⟩;go_wp2
 go_ret
 exact⟨rfl,Zaa hB hb⟩
theorem Zl8 (z:Int) (h1:10000000<=z) (h2:z<=40000000) (w:World) :
  Calls Tryz.prog 122 #[.int .i64 z] w λe w'=>e=.returned (.bool true)∧w'=w:=by
 go_enter Tryz.func122,Tryz.ntmps122
 go_wp2
 go_ret
 exact⟨rfl,rfl⟩
theorem Zuc (n:Nat) (p:Option Addr) (c:Nat) (f:Nat->Int) (w:World) (h:RdF w p n c f) (hf:∀i,i<n->10000000<=f i∧f i<=40000000) :
  Calls Tryz.prog 124 #[.slice p n c,.func (.func 122) #[] #[]] w λe w'=>e=.returned (.bool true)∧w'=w:=by
 obtain⟨hc1,hn1,hx1⟩:=h;go_enter Tryz.func124,Tryz.ntmps124
 go_wp2
 go_loopw [9] (λa wr=>∃k:Nat,k<=n∧a=.int .i64 (k:Int)∧wr=w) (λa _=>(n-intOf a).toNat)
 case atStart=>exact⟨0,Yat _,rfl,rfl⟩
 case round=>
  obtain⟨k,hk,rfl,rfl⟩:=hrel;by_cases h0:k<n
  ·obtain⟨b,off,rfl,hb,hcell⟩:=hx1 Zo
   have a1:=hcell k Zo;obtain⟨f1,f2⟩:=hf k h0;clear hcell hx1 hf;have h0':(k:Int)<n:=Zo;go_wp2_with (go_at_call 122;refine(Zl8 _ f1 f2 _).mono ?_;rintro e w' ⟨rfl,rfl⟩)
   go_roundw
   case rel=>refine⟨k+1,Zo,?_⟩;simp
   case measure=>simp[intOf];omega
  ·obtain rfl:k=n:=by omega
   go_wp2
   go_ret
   exact⟨rfl,rfl⟩
end Go.Proofs.W
