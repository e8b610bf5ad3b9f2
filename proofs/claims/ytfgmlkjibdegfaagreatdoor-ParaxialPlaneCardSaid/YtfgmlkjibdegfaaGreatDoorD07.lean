/- The drafted optics of chapter 13: what it is and that it is valid. Part 7 of 19. No condition beside the row. -/
import Derived.Test.YtfgmlkjibdegfaaGreatDoorA25
import Derived.Test.YtfgmlkjibdegfaaGreatDoorD03
import Derived.Test.YtfgmlkjibdegfaaGreatDoorD05
import Derived.Test.YtfgmlkjibdegfaaGreatDoorD06
set_option linter.unusedVariables false
set_option linter.unusedSimpArgs false
set_option maxRecDepth 100000
set_option maxHeartbeats 4000000
namespace Go.Mono
theorem Zfo {l:List Srf}:∀(r done:List Chg),madeS l done≠none->madeS l (dConf l done r)≠none
 | [],done,h=>by unfold dConf;exact h
 | c :: r, done, h => by
   unfold dConf;split
   ·rename_i hs
    exact Zfo r _ λe=>by rw[e]at hs;cases hs
   ·exact Zfo r _ h
theorem Ze6 {l:List Srf}:∀(r done:List Chg),(dConf l done r).length<=done.length+r.length
 | [],done=>by unfold dConf;simp
 | c :: r, done => by
   unfold dConf;split
   ·have:=Ze6 (l:=l) r (done++[c])
    simp only[Yay,Ybm,Ydf]at this ⊢;omega
   ·have:=Ze6 (l:=l) r done
    simp only[Ybm];omega
theorem Ze7 {l:List Srf}:∀(r done:List Chg) (x:Chg),x∈dConf l done r->x∈done∨x∈r
 | [],done,x,h=>by unfold dConf at h;exact .inl h
 | c :: r, done, x, h => by
   unfold dConf at h;split at h
   ·rcases Ze7 r _ x h with h|h
    ·rcases Ycn.1 h with h|h
     ·exact .inl h
     ·exact .inr (by rw[Ycd.1 h];exact Ycl ..)
    ·exact .inr (Ybs _ h)
   ·rcases Ze7 r _ x h with h|h
    ·exact .inl h
    ·exact .inr (Ybs _ h)
theorem LD.fieldM_in {d:LD} {z:Int} (hz:U8 z):In (if d.farM=0 then 1000000 else 1000000000) (d.fieldM z).1∧In (if d.farM=0 then 1000000 else 1000000000) (d.fieldM z).2:=by
 obtain⟨h0,h1⟩:=hz;unfold LD.fieldM;by_cases h:d.farM=0
 ·rw[if_pos h,if_neg Zo]
  exact⟨⟨by dsimp only;omega,by dsimp only;omega⟩,⟨by dsimp only;omega,by dsimp only;omega⟩⟩
 ·rw[if_neg h]
  split
  ·exact⟨⟨by dsimp only;omega,by dsimp only;omega⟩,⟨by dsimp only;omega,by dsimp only;omega⟩⟩
  ·exact⟨⟨by dsimp only;omega,by dsimp only;omega⟩,⟨by dsimp only;omega,by dsimp only;omega⟩⟩
theorem LD.fieldsM_in {d:LD} (hu:∀z∈d.fields,U8 z):∀k,k<=d.fields.length->∀f∈d.fieldsM k,In (if d.farM=0 then 1000000 else 1000000000) f.1∧In (if d.farM=0 then 1000000 else 1000000000) f.2
 | 0, _, f, hf => by
   obtain rfl:=Ycd.1 hf;have:(0:Int)<=if d.farM=0 then 1000000 else 1000000000:=by split<;>decide
   exact⟨⟨by dsimp only;omega,by dsimp only;omega⟩,⟨by dsimp only;omega,by dsimp only;omega⟩⟩
 | k + 1, hk, f, hf => by
   unfold LD.fieldsM at hf;split at hf
   ·exact LD.fieldsM_in hu k Zo f hf
   ·rcases Ycn.1 hf with hf|hf
    ·exact LD.fieldsM_in hu k Zo f hf
    ·rw[Ycd.1 hf]
     exact LD.fieldM_in (hu _ (by rw[Yac,Yao Zo];exact Ybw Zo))
theorem LD.fieldsM_nodup {d:LD}:∀k,(d.fieldsM k).Nodup
 | 0=>by simp[LD.fieldsM]
 | k + 1 => by
   unfold LD.fieldsM;split
   ·exact LD.fieldsM_nodup k
   ·rename_i h
    rw[List.nodup_append];exact⟨LD.fieldsM_nodup k,Zs,λa ha b hb e=>h (by rw[<-Ycd.1 hb,<-e];exact ha)⟩
end Go.Mono
namespace Go.Proofs.W
open Go.RowKit Go.Mono
section
open Go.Ex
variable {K:Nat->Value} {hK:∀i,(K i).oneCell'=true}
def cR4Sign (w0:World) (X:Nat->Prop):Ctr (qDen K hK) Tryz.prog w0 X:=.plain 196 (λargs _ orc=>match args with
    | [.agg x]=>(asQ x).map λq=>(.tup [.one (.sym q.num.sign),okV],[],orc)
    | _=>none)<|by
    intro args bk orc v obl orc' hr hobl ρ w vals hfr hb hargs;split at hr
    ·rename_i x
     obtain⟨a,ha,e⟩:=Yad.1 hr;cases e;obtain⟨v1,r1,rfl,h1,h3⟩:=hargs;obtain rfl:r1=[]:=h3;refine(Zr8 w (Zet ha h1).qt).mono ?_;rintro e w' ⟨rfl,hbl⟩;exact⟨_,rfl,⟨[_,.int .i64 0],rfl,_,_,rfl,rfl,_,_,rfl,⟨rfl,rfl⟩,rfl⟩,hbl⟩
    ·cases hr
theorem Zuv {w:World} {v:Value} {n:Nat} (h:LgV 600 w v n) (ρ:Nm):denA (qDen K hK) ρ w (.agg [.val (.bool false),.dig n]) v:=by
 obtain⟨s,p,k,c,rfl⟩:=h.parts;obtain⟨hs,hz⟩:=h.sz;subst hs;rw[decide_eq_false (show ¬(n:Int)<0 by omega)];exact⟨[.bool false,.slice p k c],rfl,[_],_,rfl,⟨rfl,rfl⟩,[_],[],rfl,⟨_,⟨⟨_,_,_,rfl⟩,by simpa using hz⟩,rfl⟩,rfl⟩
theorem Zxi {w:World} {v:Value} {n:Nat} {ρ:Nm} (h:denA (qDen K hK) ρ w (.agg [.val (.bool false),.dig n]) v):LgV 600 w v n:=by
 obtain⟨cs,rfl,c1,d1,rfl,⟨rfl,_⟩,c2,d2,rfl,⟨v2,⟨⟨p,k,c,rfl⟩,hs2⟩,rfl⟩,hd2⟩:=h;obtain rfl:d2=[]:=hd2;exact LgV.of_sz (by rw[decide_eq_false Zo]) (by simpa using hs2)
def asL (l:List U):Option Nat:=
 match l with
 | [.val (.bool false),.dig n]=>some n
 | _=>none
theorem Zuw {l:List U} {n:Nat} (h:asL l=some n) {w:World} {v:Value} {ρ:Nm} (hd:denA (qDen K hK) ρ w (.agg l) v):LgV 600 w v n:=by
 unfold asL at h;split at h
 ·cases h;exact Zxi hd
 ·cases h
def digV (n:Nat):SA:=.agg [.val (.bool false),.dig n]
def cR4Floor (w0:World) (X:Nat->Prop):Ctr (qDen K hK) Tryz.prog w0 X:=.plain 174 (λargs _ orc=>match args with
    | [.agg x]=>(asQ x).map λq=>(.tup [digV q.floor.toNat,okV],[0<=q],orc)
    | _=>none)<|by
    intro args bk orc v obl orc' hr hobl ρ w vals hfr hb hargs;split at hr
    ·rename_i x
     obtain⟨a,ha,e⟩:=Yad.1 hr;cases e;obtain⟨v1,r1,rfl,h1,h3⟩:=hargs;obtain rfl:r1=[]:=h3;have h0:0<=a.num:=Rat.num_nonneg.2 (hobl (0<=a) Zs);refine(Zph w (Zet ha h1).qt h0).mono ?_;rintro e w' ⟨v',rfl,hl,hbl⟩;have hf:a.num/(a.den:Int)=(a.floor.toNat:Int):=by
      rw[Rat.floor_def,Int.toNat_of_nonneg (Ydq h0 Zo)]
     rw[hf]at hl;exact⟨_,rfl,⟨[v',.int .i64 0],rfl,_,_,rfl,Zuv hl _,_,_,rfl,⟨rfl,rfl⟩,rfl⟩,hbl⟩
    ·cases hr
noncomputable def cR3Sqrt (w0:World) (X:Nat->Prop):Ctr (qDen K hK) Tryz.prog w0 X:=.plain 177 (λargs _ orc=>match args with
  | [.agg x]=>(asL x).map λ(n:Nat)=>(.tup [digV (rtN n),okV],[],orc)
  | _=>none)<|by
  intro args bk orc v obl orc' hr hobl ρ w vals hfr hb hargs;split at hr
  ·rename_i x
   obtain⟨a,ha,e⟩:=Yad.1 hr;cases e;obtain⟨v1,r1,rfl,h1,h3⟩:=hargs;obtain rfl:r1=[]:=h3;refine(Zsa w (Zuw ha h1)).mono ?_;rintro e w' ⟨v',rfl,hl,hbl⟩;exact⟨_,rfl,⟨[v',.int .i64 0],rfl,_,_,rfl,Zuv hl _,_,_,rfl,⟨rfl,rfl⟩,rfl⟩,hbl⟩
  ·cases hr
def cR3Int (w0:World) (X:Nat->Prop):Ctr (qDen K hK) Tryz.prog w0 X:=.plain 178 (λargs _ orc=>match args with
    | [.agg x]=>(asL x).map λ(n:Nat)=>(.tup [.one (.sym (n:Int)),okV],[n<1000000000],orc)
    | _=>none)<|by
    intro args bk orc v obl orc' hr hobl ρ w vals hfr hb hargs;split at hr
    ·rename_i x
     obtain⟨a,ha,e⟩:=Yad.1 hr;cases e;obtain⟨v1,r1,rfl,h1,h3⟩:=hargs;obtain rfl:r1=[]:=h3;refine(Zui w (Zuw ha h1) (hobl (a<1000000000) Zs)).mono ?_;rintro e w' ⟨rfl,hbl⟩;exact⟨_,rfl,⟨[_,.int .i64 0],rfl,_,_,rfl,rfl,_,_,rfl,⟨rfl,rfl⟩,rfl⟩,hbl⟩
    ·cases hr
noncomputable def spG (w0:World) (X:Nat->Prop):List (Ctr (qDen K hK) Tryz.prog w0 X):=[cR4Add sideS w0 X,cR4Mul sideS w0 X,cR4Of w0 X,cR4Div sideS w0 X,cR4Sign w0 X,cR4Floor w0 X,cR3Sqrt w0 X,cR3Int w0 X]
end
def hasK (kind order p:Int):Bool:=
 decide (p=9) || (if kind=1 then decide (p=1) || decide (p=2) || (decide (5<=p)&&decide (p<9)) || decide (p=10) || ((decide (p=16) || decide (p=17))&&decide (order≠0))
  else if kind=2 then(decide (1<=p)&&decide (p<=4)) || decide (p=10)
  else if kind=3 then decide (11<=p)&&decide (p<=15)
  else decide (p=1) || decide (p=10))
theorem Zt4 (A:Array Value) (hA:A.size=22) (kind order p:Int) (k1:1<=kind) (k2:kind<=4) (g0:A[0]? = some (.int .i64 kind)) (g11:A[11]? = some (.int .i64 order)) (w:World)
  (hr:∀W,Below w.heap.size w W->Calls Tryz.prog 168 #[.agg A] W λe w'=>e=.returned (.bool true)∧Below W.heap.size W w') :
  Calls Tryz.prog 215 #[.agg A,.int .i64 p] w λe w'=>e=.returned (.bool (hasK kind order p))∧Below w.heap.size w w':=by
 have hi:(Tryz.prog.info? 117).map (·.size)=some A.size:=by rw[hA];kernel_rfl
 obtain⟨b,hb⟩:∃b,hasK kind order p=b:=⟨_,rfl⟩
 rw[hb];replace hb:=Yah hb;go_enter Tryz.func215,Tryz.ntmps215
 go_step
 go_step
 go_step
 go_step
 go_step
 go_step
 go_step
 go_step
 go_step
 go_step
 go_step
 go_step
 go_step
 go_step
 go_step
 refine Zct λW hB hsz bS=>?_;refine Zac rfl 117 _ rfl w.heap.size rfl 117 A bS _ Tryz.underlying117 rfl hi ?_;go_wp2_with fail
 refine(hr W hB).mono ?_;rintro e W1 ⟨rfl,hb1⟩;replace hB:=Zaa hB hb1;replace bS:=bS.below hb1;have lS:=bS.lt;have f0:=(bS.cell 0).trans g0;have f11:=(bS.cell 11).trans g11;clear hr g0 g11 hA hi bS hb1 hsz;rcases(by omega:kind=1∨kind=2∨kind=3∨kind=4) with rfl|rfl|rfl|rfl
 all_goals
  go_wp2
  all_goals
   go_ret
   refine⟨?_,hB⟩;rw[<-hb.out];clear hb hB lS f0 f11;show Ending.returned (Value.bool _)=Ending.returned (Value.bool _);congr 2
   unfold hasK;simp only[beq_iff_eq,beq_eq_false_iff_ne,ne_eq]at *;rw[Ycx];simp;try omega
theorem Znh (s:Srf) (hs:s.ok) (p:Option Addr) (c:Nat) (k:Int) (w:World) (hco:CoatAt w p c s.co) :
  Calls Tryz.prog 215 #[.agg (s.cs p c),.int .i64 k] w λe w'=>e=.returned (.bool (hasS s k))∧Below w.heap.size w w':=
 Zt4 (s.cs p c) rfl s.kind s.order k hs.k1 hs.k2 rfl rfl w λW hW=>Zcx s hs p c W (hco.below hW)
end Go.Proofs.W
