/- The drafted optics of chapter 13: what it is and that it is valid. Part 5 of 16. No condition beside the row. -/
import Derived.Test.YtgkmjekkefmejaaGreatDoorA02
import Derived.Test.YtgkmjekkefmejaaGreatDoorA14
import Derived.Test.YtgkmjekkefmejaaGreatDoorD03
set_option linter.unusedVariables false
set_option linter.unusedSimpArgs false
set_option maxRecDepth 100000
set_option maxHeartbeats 4000000
namespace Go.Proofs.W
open Go.RowKit Go.Mono
theorem Zx6 (a0 a1 a2 a3:Int) (h0:In 1000000000 a0) (h1:In 1000000000 a1) (h2:In 1000000000 a2) (h3:In 1000000000 a3) :
  ∃b,∀w:World,(binOp .eql 81 (.agg #[.int .i64 a0,.int .i64 a1,.int .i64 a2,.int .i64 a3]) (.agg #[.int .i64 0,.int .i64 0,.int .i64 0,.int .i64 0])).run Tryz.prog w=.ok (.bool b) w:=by
 have c3:Tryz.prog.cellsOf 3=1:=Zk;have w0:(Lit.int .i64 0).wf=true:=Zd;have k0:(Lit.int .i64 a0).wf=true:=Zce h0 Zo;have k1:(Lit.int .i64 a1).wf=true:=Zce h1 Zo;have k2:(Lit.int .i64 a2).wf=true:=Zce h2 Zo;have k3:(Lit.int .i64 a3).wf=true:=Zce h3 Zo;have c91:Tryz.prog.cellsOf 81=4:=Zk;have c49:Tryz.prog.cellsOf 82=2:=Zk;have e1:Tryz.prog.keyLits 6 81 [.int .i64 a0,.int .i64 a1,.int .i64 a2,.int .i64 a3]=some [.int .i64 a0,.int .i64 a1,.int .i64 a2,.int .i64 a3]:=by
  simp[Program.keyLits,Tryz.underlying81,Ydo, *]
 have e2:Tryz.prog.keyLits 6 81 [.int .i64 0,.int .i64 0,.int .i64 0,.int .i64 0]=some [.int .i64 0,.int .i64 0,.int .i64 0,.int .i64 0]:=by
  simp[Program.keyLits,Tryz.underlying81,Ydo, *]
 by_cases hP:([.int .i64 a0,.int .i64 a1,.int .i64 a2,.int .i64 a3]:List Lit)=[.int .i64 0,.int .i64 0,.int .i64 0,.int .i64 0]
 ·refine⟨true,λw=>?_⟩
  obtain⟨r,g1,g2⟩:=run_equalIn_deep (P:=Tryz.prog) 9995 5 81 Zk w 6 6 (.agg #[.int .i64 a0,.int .i64 a1,.int .i64 a2,.int .i64 a3]) (.agg #[.int .i64 0,.int .i64 0,.int .i64 0,.int .i64 0]) _ _ Zk Zk e1 e2;obtain rfl:r=true:=g2.2 hP;rw[run_eql_struct,show(10000:Nat)=9995+5 from rfl,g1];rfl
 ·refine⟨false,λw=>?_⟩
  obtain⟨r,g1,g2⟩:=run_equalIn_deep (P:=Tryz.prog) 9995 5 81 Zk w 6 6 (.agg #[.int .i64 a0,.int .i64 a1,.int .i64 a2,.int .i64 a3]) (.agg #[.int .i64 0,.int .i64 0,.int .i64 0,.int .i64 0]) _ _ Zk Zk e1 e2;cases r with
  | true=>exact absurd (g2.1 rfl) hP
  | false =>
    rw[run_eql_struct,show(10000:Nat)=9995+5 from rfl,g1];rfl
theorem Zx7 (a0 a1:Int) (h0:In 1000000000 a0) (h1:In 1000000000 a1) :
  ∃b,∀w:World,(binOp .eql 82 (.agg #[.int .i64 a0,.int .i64 a1]) (.agg #[.int .i64 0,.int .i64 0])).run Tryz.prog w=.ok (.bool b) w:=by
 have c3:Tryz.prog.cellsOf 3=1:=Zk;have w0:(Lit.int .i64 0).wf=true:=Zd;have k0:(Lit.int .i64 a0).wf=true:=Zce h0 Zo;have k1:(Lit.int .i64 a1).wf=true:=Zce h1 Zo;have c91:Tryz.prog.cellsOf 81=4:=Zk;have c49:Tryz.prog.cellsOf 82=2:=Zk;have e1:Tryz.prog.keyLits 6 82 [.int .i64 a0,.int .i64 a1]=some [.int .i64 a0,.int .i64 a1]:=by
  simp[Program.keyLits,Tryz.underlying82,Ydo, *]
 have e2:Tryz.prog.keyLits 6 82 [.int .i64 0,.int .i64 0]=some [.int .i64 0,.int .i64 0]:=by
  simp[Program.keyLits,Tryz.underlying82,Ydo, *]
 by_cases hP:([.int .i64 a0,.int .i64 a1]:List Lit)=[.int .i64 0,.int .i64 0]
 ·refine⟨true,λw=>?_⟩
  obtain⟨r,g1,g2⟩:=run_equalIn_deep (P:=Tryz.prog) 9995 5 82 Zk w 6 6 (.agg #[.int .i64 a0,.int .i64 a1]) (.agg #[.int .i64 0,.int .i64 0]) _ _ Zk Zk e1 e2;obtain rfl:r=true:=g2.2 hP;rw[run_eql_struct,show(10000:Nat)=9995+5 from rfl,g1];rfl
 ·refine⟨false,λw=>?_⟩
  obtain⟨r,g1,g2⟩:=run_equalIn_deep (P:=Tryz.prog) 9995 5 82 Zk w 6 6 (.agg #[.int .i64 a0,.int .i64 a1]) (.agg #[.int .i64 0,.int .i64 0]) _ _ Zk Zk e1 e2;cases r with
  | true=>exact absurd (g2.1 rfl) hP
  | false =>
    rw[run_eql_struct,show(10000:Nat)=9995+5 from rfl,g1];rfl
theorem Znc (b:Bool) (kind curv conic curvx conicx a0 a1 a2 a3 p0 p1 order thick semi hole dx dy ax ay az:Int) (glass:ByteArray) (p:Option Addr) (n c:Nat) (w:World)
  (h4:∃b,∀w:World,(binOp .eql 81 (.agg #[.int .i64 a0,.int .i64 a1,.int .i64 a2,.int .i64 a3]) (.agg #[.int .i64 0,.int .i64 0,.int .i64 0,.int .i64 0])).run Tryz.prog w=.ok (.bool b) w)
  (h2:∃b,∀w:World,(binOp .eql 82 (.agg #[.int .i64 p0,.int .i64 p1]) (.agg #[.int .i64 0,.int .i64 0])).run Tryz.prog w=.ok (.bool b) w)
  (hk:kind=1∧curvx=0∧conicx=0∧dx=0∧dy=0∧ax=0∧ay=0∧az=0∧(order=0∧p0=0∧p1=0∨order≠0∧glass≠mirror)∨kind=2∧a0=0∧a1=0∧a2=0∧a3=0∧p0=0∧p1=0∧order=0∧dx=0∧dy=0∧ax=0∧ay=0∧az=0∨
   kind=3∧curvx=0∧conicx=0∧a0=0∧a1=0∧a2=0∧a3=0∧p0=0∧p1=0∧order=0∧glass = {data:=#[]}∧n=0∧curv=0∧conic=0∧semi=0∧hole=0∨
   kind=4∧curvx=0∧conicx=0∧a0=0∧a1=0∧a2=0∧a3=0∧p0=0∧p1=0∧order=0∧dx=0∧dy=0∧ax=0∧ay=0∧az=0∧glass = {data:=#[]}∧n=0∧conic=0)
  (hsm:∀W,Below w.heap.size w W->Calls Tryz.prog 223 #[.agg #[.int .i64 kind,.int .i64 curv,.int .i64 conic,.int .i64 curvx,.int .i64 conicx,.int .i64 a0,.int .i64 a1,.int .i64 a2,.int .i64 a3,.int .i64 p0,.int .i64 p1,.int .i64 order,.int .i64 thick,.string glass,.int .i64 semi,.int .i64 hole,.int .i64 dx,.int .i64 dy,.int .i64 ax,.int .i64 ay,.int .i64 az,.slice p n c]] W λe w'=>e=.returned (.bool b)∧Below W.heap.size W w') :
  Calls Tryz.prog 199 #[.agg #[.int .i64 kind,.int .i64 curv,.int .i64 conic,.int .i64 curvx,.int .i64 conicx,.int .i64 a0,.int .i64 a1,.int .i64 a2,.int .i64 a3,.int .i64 p0,.int .i64 p1,.int .i64 order,.int .i64 thick,.string glass,.int .i64 semi,.int .i64 hole,.int .i64 dx,.int .i64 dy,.int .i64 ax,.int .i64 ay,.int .i64 az,.slice p n c]] w λe w'=>e=.returned (.bool b)∧Below w.heap.size w w':=by
 obtain⟨b4,h4⟩:=h4;obtain⟨b2,h2⟩:=h2;have hi:(Tryz.prog.info? 85).map (·.size)=some 22:=Zk;have h92:∀w:World,(binOp .eql 81 (.agg #[.int .i64 0,.int .i64 0,.int .i64 0,.int .i64 0]) (.agg #[.int .i64 0,.int .i64 0,.int .i64 0,.int .i64 0])).run Tryz.prog w=.ok (.bool true) w:=λw=>Zk;have h49:∀w:World,(binOp .eql 82 (.agg #[.int .i64 0,.int .i64 0]) (.agg #[.int .i64 0,.int .i64 0])).run Tryz.prog w=.ok (.bool true) w:=λw=>Zk;replace hk:=Yah hk;go_enter Tryz.func199,Tryz.ntmps199
 go_step
 go_step
 go_step
 go_step
 go_step
 go_step
 go_step
 go_step
 go_step
 go_step
 go_step
 go_step
 go_step
 go_step
 go_step
 refine Zd5 λW hB hsz bS=>?_;refine Zac rfl 85 _ rfl w.heap.size rfl 85 _ bS _ Tryz.underlying85 rfl hi ?_;go_wp2_with fail
 refine(hsm W hB).mono ?_;rintro e W1 ⟨rfl,hb⟩;replace hB:=Zaa hB hb;replace bS:=bS.below hb;have lS:=bS.lt;have cS:=bS.cell;clear hsm hi bS hb hsz;cases b with
 | false =>
   go_wp2
   go_ret
   exact⟨rfl,hB⟩
 | true =>
   rcases hk.out with ⟨rfl,rfl,rfl,rfl,rfl,rfl,rfl,rfl,⟨rfl,rfl,rfl⟩|⟨ho,hg⟩⟩|⟨rfl,rfl,rfl,rfl,rfl,rfl,rfl,rfl,rfl,rfl,rfl,rfl,rfl⟩|⟨rfl,rfl,rfl,rfl,rfl,rfl,rfl,rfl,rfl,rfl,rfl,rfl,rfl,rfl,rfl,rfl⟩|⟨rfl,rfl,rfl,rfl,rfl,rfl,rfl,rfl,rfl,rfl,rfl,rfl,rfl,rfl,rfl,rfl,rfl,rfl⟩
   ·clear h2
    cases b4<;>(go_wp2;all_goals (go_ret;exact⟨rfl,hB⟩))
   ·have hg':(glass.toList==[77,73,82,82,79,82])=false:=beq_eq_false_iff_ne.2 λe=>hg (by
     have:glass.data.toList=[77,73,82,82,79,82]:=by rw[<-e];simp[Ycs]
     cases glass with
     | mk d =>
       simp only[mirror,Ydw];apply Yfo;simpa using this)
    clear hg;cases b4<;>cases b2<;>(go_wp2;all_goals (go_ret;exact⟨rfl,hB⟩))
   ·clear h4 h2
    go_wp2
    all_goals (go_ret;exact⟨rfl,hB⟩)
   ·clear h4 h2
    go_wp2
    all_goals (go_ret;exact⟨rfl,hB⟩)
   ·clear h4 h2
    go_wp2
    all_goals (go_ret;exact⟨rfl,hB⟩)
theorem Zqb {s:Srf} (hs:s.core) :
  s.kind=1∧s.curvx=0∧s.conicx=0∧s.dx=0∧s.dy=0∧s.ax=0∧s.ay=0∧s.az=0∧(s.order=0∧s.p0=0∧s.p1=0∨s.order≠0∧s.glass≠mirror)∨s.kind=2∧s.a0=0∧s.a1=0∧s.a2=0∧s.a3=0∧s.p0=0∧s.p1=0∧s.order=0∧s.dx=0∧s.dy=0∧s.ax=0∧s.ay=0∧s.az=0∨
   s.kind=3∧s.curvx=0∧s.conicx=0∧s.a0=0∧s.a1=0∧s.a2=0∧s.a3=0∧s.p0=0∧s.p1=0∧s.order=0∧s.glass = {data:=#[]}∧s.co.length=0∧s.curv=0∧s.conic=0∧s.semi=0∧s.hole=0∨
   s.kind=4∧s.curvx=0∧s.conicx=0∧s.a0=0∧s.a1=0∧s.a2=0∧s.a3=0∧s.p0=0∧s.p1=0∧s.order=0∧s.dx=0∧s.dy=0∧s.ax=0∧s.ay=0∧s.az=0∧s.glass = {data:=#[]}∧s.co.length=0∧s.conic=0:=by
 have hk:=hs.kept;have k1:=hs.k1;have k2:=hs.k2;clear hs;obtain⟨kind,curv,conic,curvx,conicx,a0,a1,a2,a3,p0,p1,order,thick,glass,semi,hole,dx,dy,ax,ay,az,co⟩:=s;simp only at k1 k2;rcases(by omega:kind=1∨kind=2∨kind=3∨kind=4) with rfl|rfl|rfl|rfl
 ·left
  by_cases h0:order=0
  ·subst h0
   simp[Srf.kept]at hk;obtain⟨rfl,rfl,rfl,rfl,rfl,rfl,rfl,rfl,rfl⟩:=hk;simp
  ·by_cases hg:glass=mirror
   ·subst hg
    simp[Srf.kept,h0]at hk;exact absurd hk.2.2.2.2.1.symm h0
   ·simp[Srf.kept,h0,hg]at hk
    obtain⟨rfl,rfl,rfl,rfl,rfl,rfl,rfl⟩:=hk;simp[h0,hg]
 ·simp[Srf.kept]at hk
  obtain⟨rfl,rfl,rfl,rfl,rfl,rfl,rfl,rfl,rfl,rfl,rfl,rfl⟩:=hk;simp
 ·simp[Srf.kept]at hk
  obtain⟨rfl,rfl,rfl,rfl,rfl,rfl,rfl,rfl,rfl,rfl,rfl,rfl,rfl,rfl,rfl⟩:=hk;simp
 ·simp[Srf.kept]at hk
  obtain⟨rfl,rfl,rfl,rfl,rfl,rfl,rfl,rfl,rfl,rfl,rfl,rfl,rfl,rfl,rfl,rfl,rfl⟩:=hk;simp
theorem Zf0 (s:Srf) (hs:s.core) (p:Option Addr) (c:Nat) (w:World) (hco:CoatAt w p c s.co) :
  Calls Tryz.prog 199 #[.agg (s.cs p c)] w λe w'=>e=.returned (.bool (decide s.ring))∧Below w.heap.size w w':=
 Znc (decide s.ring) s.kind s.curv s.conic s.curvx s.conicx s.a0 s.a1 s.a2 s.a3 s.p0 s.p1 s.order s.thick s.semi s.hole s.dx s.dy s.ax s.ay s.az s.glass p s.co.length c w (Zx6 _ _ _ _ hs.a0 hs.a1 hs.a2 hs.a3) (Zx7 _ _ hs.p0 hs.p1) (Zqb hs)
  λW hW=>Zlw s hs p c W (hco.below hW)
theorem Zct (s:Srf) (hs:s.ok) (p:Option Addr) (c:Nat) (w:World) (hco:CoatAt w p c s.co) :
  Calls Tryz.prog 199 #[.agg (s.cs p c)] w λe w'=>e=.returned (.bool true)∧Below w.heap.size w w':=by
 have h:=Zf0 s hs.core p c w hco;rwa [decide_eq_true hs.toRing]at h
end Go.Proofs.W
