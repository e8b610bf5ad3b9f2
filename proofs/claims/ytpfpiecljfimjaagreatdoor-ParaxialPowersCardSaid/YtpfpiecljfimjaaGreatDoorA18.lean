/- Contracts of package paraxial,and a verified evaluator. Part 18 of 26. No condition beside the row. -/
import Derived.Test.YtpfpiecljfimjaaGreatDoorA14
import Derived.Test.YtpfpiecljfimjaaGreatDoorA17
set_option linter.unusedVariables false
set_option linter.unusedSimpArgs false
set_option maxRecDepth 100000
set_option maxHeartbeats 4000000
namespace Go.Ex
open Go.RowKit Go.Mono
theorem Zx2 {D:Den} {P:Program} (hm:P.follows .mixedOrders=true) {w:World} (sp:List (Ctr D P w (λ_=>False))) (fx:List (Fct D P w (λ_=>False))) {d n t nk:Nat} {code:Code} {tm:List (Nat×SV)} {orc:List (Option Bool)} {vs:List Vw} (bk:List (Nat×Blk)) (hbk:bk=bkV 0 vs) (hn:nk=vs.length) (V:SV) (L:List Prop)
  (hev:(evC P ⟨evF P sp fx d,fctRun fx⟩ [] n FU false code ⟨tm,bk,nk,nk,orc,[]⟩).map (λr=>(r.1,r.2.1.df,r.2.1.tm.look t,r.2.2))=some (.ret,[],some V,L)) (hL:AllP L) (hv:∀v∈vs,VwOk D w vs v) {a:Act} (hT:TSat D (nmV vs) w n tm a) (hd:a.defers=[]) {Q:Exit->Act->World->Prop}
  (hQ:∀(a':Act) (w':World) (ρ':Nm) (v:Value),a'.defers=[]->a'.tmps[t]? = some v->denV D ρ' w' V v->Below w.heap.size w w'->Q .ret a' w'):code.wp P Q a w:=by
 obtain⟨⟨o,s',q⟩,hr,he⟩:=Yad.1 hev;simp only[Yco]at he;obtain⟨rfl,hdf,hlook,rfl⟩:=he;subst hbk;subst hn;refine(wpIn_wide (n:=0)).1 ?_;have ih:CallOk D P w (λ_=>False) ⟨evF P sp fx d,fctRun fx⟩:=⟨Znq hm sp fx d,λo get x h=>Zgw h⟩
 refine Zno ih (Zq7 sp fx d) hm FU false code _ s' .ret q 0 w.heap.size (nmV vs) w w a _ none (Yab _) (λ_=>rfl) hr hL.all (Zkq hv) trivial hT hd (λk h1 _=>by simp[nmV];exact h1) ?_;intro ρ' wc' w' a' k1 k2 k3 k4;obtain⟨v,hv1,hv2⟩:=k2.at_ t V hlook;rw[hdf]at k3;refine hQ a' w' ρ' v k3 hv1 (hv2.mono (Nm.le.refl _) k1.ext) ⟨k4.os,k4.tape,k4.output,k4.size,λi hi=>k4.loc i hi λk b B hk hB hro=>?_⟩;obtain⟨v,_,h2,rfl⟩:=Zes hk.1;obtain⟨v',_,rfl⟩:=Yad.1 hB;cases hro
def slotsOk (D:Den) (ρ:Nm) (w:World) (a:Act):List (Nat×SV)->Prop
 | []=>True
 | p::r=>(∃v,a.tmps[p.1]? = some v∧denV D ρ w p.2 v)∧slotsOk D ρ w a r
theorem Zrv {D:Den} {ρ:Nm} {w:World} {n:Nat} {a:Act} (hs:a.tmps.size=n):∀{tm:List (Nat×SV)},slotsOk D ρ w a tm->TSat D ρ w n tm a:=by
 intro tm h;refine⟨hs,?_⟩;induction tm with
 | nil=>intro t x hx;simp at hx
 | cons p r ih =>
   intro t x hx;rw[Zat]at hx;split at hx
   ·rename_i e
    subst e;cases hx;exact h.1
   ·exact ih h.2 t x hx
def codeR:Code->Code
 | .seq _ y=>y
 | c=>c
end Go.Ex
namespace Go.Proofs.W
open Go.RowKit Go.Mono
section
open Go.Ex
def kK (g:ByteArray) (p:Option Addr) (n c:Nat):Nat->Value
 | 0=>.string g
 | _=>.slice p n c
theorem kK1 (g:ByteArray) (p:Option Addr) (n c i:Nat):(kK g p n c i).oneCell'=true:=by
 cases i<;>rfl
theorem Zge {g:ByteArray} (h:g≠mirror):(g.toList==[77,73,82,82,79,82])=false:=by
 rw[beq_eq_false_iff_ne];intro e;apply h;have:g.data.toList=[77,73,82,82,79,82]:=by rw[<-e];simp[Ycs]
 cases g with
 | mk d =>
   simp only[mirror,Ydw];apply Yfo;simpa using this
theorem Zwh (s:Srf) (hs:s.ok) (p:Option Addr) (c:Nat) (w:World) :
  Calls Tryz.prog 226 #[.agg (s.cs p c)] w λe w'=>(∃p' c',e=.returned (.agg (s.cs p' c'))∧(s.co=[]∨p'=p∧c'=c))∧Below w.heap.size w w':=by
 have hk:=hs.kept;have k1:=hs.k1;have k2:=hs.k2;clear hs;obtain⟨kind,curv,conic,curvx,conicx,a0,a1,a2,a3,p0,p1,order,thick,glass,semi,hole,dx,dy,ax,ay,az,co⟩:=s;rcases(by simp only at k1 k2;omega:kind=1∨kind=2∨kind=3∨kind=4) with rfl|rfl|rfl|rfl
 ·by_cases h0 : order = 0
  ·subst h0
   simp[Srf.kept]at hk;obtain⟨rfl,rfl,rfl,rfl,rfl,rfl,rfl,rfl,rfl⟩:=hk;refine(Zgd (D:=qDen (kK glass p co.length c) (kK1 _ _ _ _)) (d:=9) Zd2 [.val (.int .i64 1),.sym curv,.sym conic,.val (.int .i64 0),.val (.int .i64 0),.sym a0,.sym a1,.sym a2,.sym a3,.val (.int .i64 0),.val (.int .i64 0),.val (.int .i64 0),.sym thick,.tok 0,.sym semi,.sym hole,.val (.int .i64 0),.val (.int .i64 0),.val (.int .i64 0),.val (.int .i64 0),.val (.int .i64 0),.tok 1] [.val (.int .i64 1),.sym curv,.sym conic,.val (.int .i64 0),.val (.int .i64 0),.sym a0,.sym a1,.sym a2,.sym a3,.val (.int .i64 0),.val (.int .i64 0),.val (.int .i64 0),.sym thick,.tok 0,.sym semi,.sym hole,.val (.int .i64 0),.val (.int .i64 0),.val (.int .i64 0),.val (.int .i64 0),.val (.int .i64 0),.tok 1] _ _ (λw=>Zk) rfl rfl w).mono ?_;rintro e w' ⟨rfl,hb⟩;exact⟨⟨p,c,rfl,.inr ⟨rfl,rfl⟩⟩,hb⟩
  ·by_cases hg:glass=mirror
   ·subst hg
    simp[Srf.kept,h0]at hk;exact absurd hk.2.2.2.2.1.symm h0
   ·simp[Srf.kept,h0,hg]at hk
    obtain⟨rfl,rfl,rfl,rfl,rfl,rfl,rfl⟩:=hk;refine(Zx1 _ _ 0 0 _ _ _ _ _ _ _ _ _ _ 0 0 0 0 0 _ p _ c _ h0 (Zge hg) rfl rfl rfl rfl rfl rfl rfl rfl rfl rfl rfl rfl rfl rfl rfl rfl rfl rfl rfl rfl rfl rfl w).mono ?_;rintro e w' ⟨rfl,hb⟩;exact⟨⟨_,_,rfl,.inr ⟨rfl,rfl⟩⟩,hb⟩
 ·simp[Srf.kept]at hk
  obtain⟨rfl,rfl,rfl,rfl,rfl,rfl,rfl,rfl,rfl,rfl,rfl,rfl⟩:=hk;refine(Zgd (D:=qDen (kK glass p co.length c) (kK1 _ _ _ _)) (d:=9) Zd2 [.val (.int .i64 2),.sym curv,.sym conic,.sym curvx,.sym conicx,.val (.int .i64 0),.val (.int .i64 0),.val (.int .i64 0),.val (.int .i64 0),.val (.int .i64 0),.val (.int .i64 0),.val (.int .i64 0),.sym thick,.tok 0,.sym semi,.sym hole,.val (.int .i64 0),.val (.int .i64 0),.val (.int .i64 0),.val (.int .i64 0),.val (.int .i64 0),.tok 1] [.val (.int .i64 2),.sym curv,.sym conic,.sym curvx,.sym conicx,.val (.int .i64 0),.val (.int .i64 0),.val (.int .i64 0),.val (.int .i64 0),.val (.int .i64 0),.val (.int .i64 0),.val (.int .i64 0),.sym thick,.tok 0,.sym semi,.sym hole,.val (.int .i64 0),.val (.int .i64 0),.val (.int .i64 0),.val (.int .i64 0),.val (.int .i64 0),.tok 1] _ _ (λw=>Zk) rfl rfl w).mono ?_;rintro e w' ⟨rfl,hb⟩;exact⟨⟨_,_,rfl,.inr ⟨rfl,rfl⟩⟩,hb⟩
 ·simp[Srf.kept]at hk
  obtain⟨rfl,rfl,rfl,rfl,rfl,rfl,rfl,rfl,rfl,rfl,rfl,rfl,rfl,rfl,rfl⟩:=hk;refine(Zgd (D:=qDen (kK {data:=#[]} p 0 c) (kK1 _ _ _ _)) (d:=9) Zd2 [.val (.int .i64 3),.val (.int .i64 0),.val (.int .i64 0),.val (.int .i64 0),.val (.int .i64 0),.val (.int .i64 0),.val (.int .i64 0),.val (.int .i64 0),.val (.int .i64 0),.val (.int .i64 0),.val (.int .i64 0),.val (.int .i64 0),.sym thick,.val (.string {data:=#[]}),.val (.int .i64 0),.val (.int .i64 0),.sym dx,.sym dy,.sym ax,.sym ay,.sym az,.tok 1] [.val (.int .i64 3),.val (.int .i64 0),.val (.int .i64 0),.val (.int .i64 0),.val (.int .i64 0),.val (.int .i64 0),.val (.int .i64 0),.val (.int .i64 0),.val (.int .i64 0),.val (.int .i64 0),.val (.int .i64 0),.val (.int .i64 0),.sym thick,.val (.string {data:=#[]}),.val (.int .i64 0),.val (.int .i64 0),.sym dx,.sym dy,.sym ax,.sym ay,.sym az,.val (.slice none 0 0)] _ _ (λw=>Zk) rfl rfl w).mono ?_;rintro e w' ⟨rfl,hb⟩;exact⟨⟨_,_,rfl,.inl rfl⟩,hb⟩
 ·simp[Srf.kept]at hk
  obtain⟨rfl,rfl,rfl,rfl,rfl,rfl,rfl,rfl,rfl,rfl,rfl,rfl,rfl,rfl,rfl,rfl,rfl⟩:=hk;refine(Zgd (D:=qDen (kK {data:=#[]} p 0 c) (kK1 _ _ _ _)) (d:=9) Zd2 [.val (.int .i64 4),.sym curv,.val (.int .i64 0),.val (.int .i64 0),.val (.int .i64 0),.val (.int .i64 0),.val (.int .i64 0),.val (.int .i64 0),.val (.int .i64 0),.val (.int .i64 0),.val (.int .i64 0),.val (.int .i64 0),.sym thick,.val (.string {data:=#[]}),.sym semi,.sym hole,.val (.int .i64 0),.val (.int .i64 0),.val (.int .i64 0),.val (.int .i64 0),.val (.int .i64 0),.tok 1] [.val (.int .i64 4),.sym curv,.val (.int .i64 0),.val (.int .i64 0),.val (.int .i64 0),.val (.int .i64 0),.val (.int .i64 0),.val (.int .i64 0),.val (.int .i64 0),.val (.int .i64 0),.val (.int .i64 0),.val (.int .i64 0),.sym thick,.val (.string {data:=#[]}),.sym semi,.sym hole,.val (.int .i64 0),.val (.int .i64 0),.val (.int .i64 0),.val (.int .i64 0),.val (.int .i64 0),.val (.slice none 0 0)] _ _ (λw=>Zk) rfl rfl w).mono ?_;rintro e w' ⟨rfl,hb⟩;exact⟨⟨_,_,rfl,.inl rfl⟩,hb⟩
theorem Zns (s:Srf) (p:Option Addr) (c:Nat) (w:World):Calls Tryz.prog 243 #[.agg (s.cs p c)] w λe w'=>e=.returned (.agg s.flds)∧Below w.heap.size w w':=
 Zoz s.kind s.curv s.conic s.curvx s.conicx s.a0 s.a1 s.a2 s.a3 s.p0 s.p1 s.order s.thick s.semi s.hole s.dx s.dy s.ax s.ay s.az s.glass (s.cs p c) rfl rfl rfl rfl rfl rfl rfl rfl rfl rfl rfl rfl rfl rfl rfl rfl rfl rfl rfl rfl rfl w
end
end Go.Proofs.W
