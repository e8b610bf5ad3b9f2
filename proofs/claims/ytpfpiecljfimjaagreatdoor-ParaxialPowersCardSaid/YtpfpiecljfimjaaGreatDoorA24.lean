/- Contracts of package paraxial,and a verified evaluator. Part 24 of 26. No condition beside the row. -/
import Derived.Test.YtpfpiecljfimjaaGreatDoorRows
import Derived.ProofKit
import Derived.LaidMore
import Derived.OpenShut
import Derived.Maps.Keyed
import Derived.LaidOnce
import Derived.Stop.Joined
import Derived.Test.YtpfpiecljfimjaaGreatDoorA23
set_option linter.unusedVariables false
set_option linter.unusedSimpArgs false
set_option maxRecDepth 100000
set_option maxHeartbeats 4000000
namespace Go.Mono
def Lns.tr (a:Lns) (k:Nat) (y u:Rat):Nat->Rat×Rat
 | 0=>(y,u)
 | s + 1 =>
   let r:=a.tr k y u s
   let y2:=if s=0 then r.1 else r.1+(Rat.divInt (1*(a.S (s-1)).thick) 1000000*r.2)/a.nI k (s-1)
   (y2,r.2-Rat.divInt 1 1*(y2*a.pow k s))
def Lns.stp (a:Lns) (k s:Nat) (r:Rat×Rat):Rat×Rat:=
 let y2:=if s=0 then r.1 else r.1+(Rat.divInt (1*(a.S (s-1)).thick) 1000000*r.2)/a.nI k (s-1)
 (y2,r.2-Rat.divInt 1 1*(y2*a.pow k s))
def Lns.unstp (a:Lns) (k s:Nat) (r:Rat×Rat):Rat×Rat:=
 let u2:=r.2-Rat.divInt (-1) 1*(r.1*a.pow k s)
 (if s=0 then r.1 else r.1+(Rat.divInt (-1*(a.S (s-1)).thick) 1000000*u2)/a.nI k (s-1),u2)
def Lns.bkn (a:Lns) (ns k:Nat) (y u:Rat):Nat->Rat×Rat
 | 0=>(y,u)
 | i+1=>a.unstp k (ns-1-i) (a.bkn ns k y u i)
abbrev Lns.bk (a:Lns) (k:Nat) (y u:Rat) (i:Nat):Rat×Rat:=a.bkn a.ns k y u i
end Go.Mono
namespace Go.Proofs.W
open Go.RowKit Go.Mono
structure TrFits (a:Lns) (k:Nat) (y u:Rat):Prop where
 pow:∀s,s<a.ns->PowFits a k s
 num:∀s,s<a.ns->(a.nI k s).num≠0
 m1:∀s,s+1<a.ns->Fits (Rat.divInt (1*(a.S s).thick) 1000000*(a.tr k y u (s+1)).2)
 m2:∀s,s+1<a.ns->Fits ((Rat.divInt (1*(a.S s).thick) 1000000*(a.tr k y u (s+1)).2)/a.nI k s)
 m3:∀s,s+1<a.ns->Fits ((a.tr k y u (s+1)).1+((Rat.divInt (1*(a.S s).thick) 1000000*(a.tr k y u (s+1)).2)/a.nI k s))
 b1:∀s,s<a.ns->Fits ((a.tr k y u (s+1)).1*a.pow k s)
 b2:∀s,s<a.ns->Fits (Rat.divInt 1 1*((a.tr k y u (s+1)).1*a.pow k s))
 b3:∀s,s<a.ns->Fits ((a.tr k y u (s+1)).2)
end Go.Proofs.W
namespace Go.Proofs.YtpfpiecljfimjaaGreatDoor
open Go.RowKit Go.Mono
section
open Go Go.ChangeShapes Go.WideShapes Go.ChangeAt Go.WideMaps Go.WideElems Go.Proofs.W
theorem Zup {w:World} {base:Nat} {sp:Nat->Bool} {n:Nat} {t:TypeId} {ps rs:Array TypeId} {va:Bool} {v:Value} {b:UInt8} {r:List UInt8} {q:List MemPlace} {f0:FuncId}
  (ht:Tryz.prog.underlying t=some (.func ps rs va)) (hone:((List.range Tryz.prog.funcs.size).filter λf=>(Tryz.prog.funcs[f]?).any (·.name.toUTF8.data.toList==b::r))=[f0])
  (h:elemAt (funcToken Tryz.prog) Tryz.prog w base sp true n t v=some (.held (b::r),q)):v=.func (.func f0) #[] #[]:=by
 unfold elemAt at h;split at h
 ·rename_i hf
  cases v<;>simp[Value.formed,ht]at hf
  all_goals exact func_of_trod ht hone (by simpa[Value.cells]using h)
 ·cases h
theorem Zk4 {W:World} (h:laidMetH Tryz.prog [("monocle/surface.places",Rows.laid_monocle_surface_places),("monocle/paraxial.powers",Rows.laid_monocle_paraxial_powers)] W):∃m,PowsAt W m:=by
 obtain⟨g,t,cs,fuel,p,hg,ht,hv,hd⟩:=h.funcs (n:= "monocle/paraxial.powers") (Ybs _ (Ycl ..));obtain rfl:=Yej ((show Tryz.prog.globalNamed "monocle/paraxial.powers" = some 0 by kernel_rfl).symm.trans hg);obtain rfl:=Yej ((show(Tryz.prog.globals[0]?).map (·.type)=some 161 by kernel_rfl).symm.trans ht);have hcell:=World.var?_cell hg hv 0;have hd':DataW.trod (funcToken Tryz.prog) Tryz.prog W 0 (λ_=>true) true fuel 161 cs.toList=some (.map [(.int .i64 1,.held [40,109,111,110,111,99,108,101,47,112,97,114,97,120,105,97,108,46,118,105,101,119,41,46,99,117,114,118,101,100]),(.int .i64 2,.held [40,109,111,110,111,99,108,101,47,112,97,114,97,120,105,97,108,46,118,105,101,119,41,46,99,117,114,118,101,100]),(.int .i64 3,.held [40,109,111,110,111,99,108,101,47,112,97,114,97,120,105,97,108,46,118,105,101,119,41,46,102,108,97,116]),(.int .i64 4,.held [40,109,111,110,111,99,108,101,47,112,97,114,97,120,105,97,108,46,118,105,101,119,41,46,105,100,101,97,108])],p):=hd;rcases WideElems.open_map Tryz.underlying161 hd' with ⟨_,hx⟩|⟨m,es,clock,n,rfl,hcs,hb,_,F,hx⟩
 ·exact absurd (congrArg Prod.fst hx) (by intro e;cases e)
 have hc0:W.cell? ⟨0,0,none⟩=some (.map (some m)):=by
  rw[Array.eq_one_of_toList hcs]at hcell;simpa using hcell
 have hlt:m<W.heap.size:=Zam hb;have hpos:0<W.heap.size:=block_lt_of_cell hc0;have hxx:=congrArg Prod.fst hx;dsimp only at hxx;refine⟨m,hlt,hpos,hc0,λw' hw'=>?_⟩;have hb':=hw'.trans hb;have zero:∀w,(zeroValue 160).run Tryz.prog w=.ok .nilFunc w:=λ_=>Zk
 have look:∀(kd:Int) (b:UInt8) (r:List UInt8) (f0:FuncId),(Lit.int .i64 kd).wf=true->((List.range Tryz.prog.funcs.size).filter λf=>(Tryz.prog.funcs[f]?).any (·.name.toUTF8.data.toList==b::r))=[f0]->
   (DataW.map [(Lit.int .i64 1,DataW.held [40,109,111,110,111,99,108,101,47,112,97,114,97,120,105,97,108,46,118,105,101,119,41,46,99,117,114,118,101,100]),(.int .i64 2,.held [40,109,111,110,111,99,108,101,47,112,97,114,97,120,105,97,108,46,118,105,101,119,41,46,99,117,114,118,101,100]),(.int .i64 3,.held [40,109,111,110,111,99,108,101,47,112,97,114,97,120,105,97,108,46,118,105,101,119,41,46,102,108,97,116]),(.int .i64 4,.held [40,109,111,110,111,99,108,101,47,112,97,114,97,120,105,97,108,46,118,105,101,119,41,46,105,100,101,97,108])]:DataW (List UInt8)).atKey (.int .i64 kd) .nil=.held (b::r)->
   (Instr.lookup 161 (.map (some m)) (.int .i64 kd) false).run Tryz.prog w'=.ok (.func (.func f0) #[] #[]) w':=by
  intro kd b r f0 hw hone hat;have hk:keyOf Tryz.prog 3 (.int .i64 kd)=some (.int .i64 kd):=by simp[keyOf_int Tryz.underlying3,mapKey,Tryz.underlying3,hw]
  rcases Go.Maps.fit_look false (Go.Maps.int_keyed Tryz.underlying3) Tryz.underlying161 (zero w') hb' F hk with ⟨_,_,h2⟩|⟨e0,y,_,_,hrun,hR,h2,_⟩
  ·have:=h2 .nil
   rw[<-hxx]at this;cases hat.symm.trans this
  ·have:=h2 .nil
   rw[<-hxx]at this;replace this:=hat.symm.trans this;obtain⟨y1,y2⟩:=y;cases this;rw[Zup Tryz.underlying160 hone hR]at hrun;exact hrun
 exact⟨look 1 40 [109,111,110,111,99,108,101,47,112,97,114,97,120,105,97,108,46,118,105,101,119,41,46,99,117,114,118,101,100] 275 Zk Zk rfl,look 2 40 [109,111,110,111,99,108,101,47,112,97,114,97,120,105,97,108,46,118,105,101,119,41,46,99,117,114,118,101,100] 275 Zk Zk rfl,look 3 40 [109,111,110,111,99,108,101,47,112,97,114,97,120,105,97,108,46,118,105,101,119,41,46,102,108,97,116] 276 Zk Zk rfl,look 4 40 [109,111,110,111,99,108,101,47,112,97,114,97,120,105,97,108,46,118,105,101,119,41,46,105,100,101,97,108] 277 Zk Zk rfl⟩
end
end Go.Proofs.YtpfpiecljfimjaaGreatDoor
