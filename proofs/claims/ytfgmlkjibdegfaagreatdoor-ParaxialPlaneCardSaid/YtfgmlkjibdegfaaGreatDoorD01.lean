/- The drafted optics of chapter 13: what it is and that it is valid. Part 1 of 19. No condition beside the row. -/
import Derived.Laws.AppendOwn
import Derived.Laws.AppendOwnNone
import Derived.Great.BuildSlice
import Derived.Great.FillDense
import Derived.Test.YtfgmlkjibdegfaaGreatDoorRows
import Derived.ProofKit
import Derived.LaidMore
import Derived.OpenShut
import Derived.Maps.Keyed
import Derived.LaidOnce
import Derived.Stop.Joined
import Derived.Test.YtfgmlkjibdegfaaGreatDoorA05
import Derived.Test.YtfgmlkjibdegfaaGreatDoorA07
import Derived.Test.YtfgmlkjibdegfaaGreatDoorA15
import Derived.Test.YtfgmlkjibdegfaaGreatDoorA19
import Derived.Test.YtfgmlkjibdegfaaGreatDoorA27
set_option linter.unusedVariables false
set_option linter.unusedSimpArgs false
set_option maxRecDepth 100000
set_option maxHeartbeats 4000000
namespace Go.Proofs.W
open Go.RowKit Go.Mono
theorem Za9 (n lo hi:Int) (h1:lo<=n) (h2:n<=hi) (w:World) :
  Calls Tryz.prog 128 #[.int .i64 n,.int .i64 lo,.int .i64 hi] w λe w'=>e=.returned (.bool true)∧w'=w:=by
 go_enter Tryz.func128,Tryz.ntmps128
 go_wp2
 go_ret
 exact⟨rfl,rfl⟩
theorem Za2 (n m:Int) (m1:0<=m) (m2:m<=1000000000) (h1 : -m<=n) (h2:n<=m) (w:World) :
  Calls Tryz.prog 216 #[.int .i64 n,.int .i64 m] w λe w'=>e=.returned (.bool true)∧w'=w:=by
 have hw:IntKind.i64.wrap (-m) = -m:=by rw[Ybi];omega
 go_enter Tryz.func216,Tryz.ntmps216
 go_wp2
 go_ret
 exact⟨rfl,rfl⟩
end Go.Proofs.W
namespace Go.Mono
structure SD where
 kind:Int
 c0:Int
 c1:Int
 k0:Int
 k1:Int
 a0:Int
 a1:Int
 a2:Int
 a3:Int
 p0:Int
 p1:Int
 order:Int
 thick:Int
 glass:Int
 semi:Int
 hole:Int
 b0:Int
 b1:Int
 b2:Int
 b3:Int
 b4:Int
 films:List Int
def R8 (z:Int):Prop:=-128<=z∧z<=127
def R16 (z:Int):Prop:=-32768<=z∧z<=32767
def U8 (z:Int):Prop:=0<=z∧z<=255
def U16 (z:Int):Prop:=0<=z∧z<=65535
structure SD.ok (d:SD):Prop where
 kind:U8 d.kind
 c0:R16 d.c0
 c1:R16 d.c1
 k0:R16 d.k0
 k1:R16 d.k1
 a0:R8 d.a0
 a1:R8 d.a1
 a2:R8 d.a2
 a3:R8 d.a3
 p0:R8 d.p0
 p1:R8 d.p1
 order:R8 d.order
 thick:R16 d.thick
 glass:U8 d.glass
 semi:U8 d.semi
 hole:U8 d.hole
 b0:R8 d.b0
 b1:R8 d.b1
 b2:R8 d.b2
 b3:R8 d.b3
 b4:R8 d.b4
 films:∀z∈d.films,U8 z
def nmNone:ByteArray:={data:=#[]}
def nmBK7:ByteArray:={data:=#[66,75,55]}
def nmSF1:ByteArray:={data:=#[83,70,45,49]}
def nmF2:ByteArray:={data:=#[102,95,50]}
def dGlass (n:Int):ByteArray:=
 if n%5=0 then nmNone else if n%5=1 then nmBK7 else if n%5=2 then nmSF1 else if n%5=3 then mirror else nmF2
def dFilm (n:Int):Flm:=⟨13000000+50000*n,n%7,1+n%5⟩
def SD.semiS (d:SD):Int:=100000*d.semi
def SD.holeS (d:SD):Int:=if d.hole%4=1∧0<d.semi then d.semiS/4 else 0
def SD.base (d:SD):Srf:=
 {kind:=1,curv:=1000*d.c0,conic:=1000*d.k0.tmod 3000,curvx:=0,conicx:=0,a0:=0,a1:=0,a2:=0,a3:=0,p0:=0,p1:=0,order:=0,thick:=1000*d.thick.tmod 20000,glass:=dGlass d.glass,semi:=d.semiS,hole:=d.holeS,dx:=0,dy:=0,ax:=0,ay:=0,az:=0}
def SD.asp (d:SD):Srf:={d.base with a0:=1000*d.a0,a1:=1000*d.a1,a2:=1000*d.a2,a3:=1000*d.a3,co:=(d.films.take 3).map dFilm}
def SD.bic (d:SD):Srf:={d.base with kind:=2,curvx:=1000*d.c1,conicx:=1000*d.k1.tmod 3000}
def SD.brk (d:SD):Srf:=
 {kind:=3,curv:=0,conic:=0,curvx:=0,conicx:=0,a0:=0,a1:=0,a2:=0,a3:=0,p0:=0,p1:=0,order:=0,thick:=1000*d.thick.tmod 20000,glass:=nmNone,semi:=0,hole:=0,dx:=10000*d.b0,dy:=10000*d.b1,ax:=100000*d.b2,ay:=100000*d.b3,az:=100000*d.b4}
def SD.idl (d:SD):Srf:=
 {kind:=4,curv:=1000*d.c0,conic:=0,curvx:=0,conicx:=0,a0:=0,a1:=0,a2:=0,a3:=0,p0:=0,p1:=0,order:=0,thick:=1000*d.thick.tmod 20000,glass:=nmNone,semi:=d.semiS,hole:=d.holeS,dx:=0,dy:=0,ax:=0,ay:=0,az:=0}
def SD.grt (d:SD):Srf:={d.base with order:=d.order.tmod 4,p0:=1000*d.p0,p1:=1000*d.p1}
def SD.srf (d:SD):Srf:=
 if d.kind%8=4 then d.asp
 else if d.kind%8=5 then d.bic
 else if d.kind%8=6 then d.brk
 else if d.kind%8=7 then(if d.order.tmod 2=0 then d.idl else if d.glass%5=3 then d.base else d.grt)
 else d.base
theorem Zrk (n:Int):dGlass n = {data:=#[]}∨NameOk (dGlass n):=by
 unfold dGlass;split
 ·exact .inl rfl
 ·right
  split
  ·exact⟨Zd,Zd,Zd⟩
  ·split
   ·exact⟨Zd,Zd,Zd⟩
   ·split
    ·exact⟨Zd,Zd,Zd⟩
    ·exact⟨Zd,Zd,Zd⟩
theorem Zb5 (n:Int):dGlass n=mirror↔n%5=3:=by
 unfold dGlass;constructor
 ·intro h
  split at h
  ·exact absurd h Zd
  ·split at h
   ·exact absurd h Zd
   ·split at h
    ·exact absurd h Zd
    ·split at h
     ·assumption
     ·exact absurd h Zd
 ·intro h
  rw[if_neg Zo,if_neg Zo,if_neg Zo,if_pos h]
theorem Zt3 {n:Int} (h:U8 n):(dFilm n).ok:=by
 obtain⟨h1,h2⟩:=h;unfold dFilm Flm.ok;dsimp only;omega
theorem Zcg {z m:Int} (hm:0<m) : -m<z.tmod m∧z.tmod m<m:=by
 have h1:=Int.tmod_lt_of_pos z hm;have h2:=Int.tmod_lt_of_pos (-z) hm;rw[Int.neg_tmod]at h2;omega
theorem SD.base_ok {d:SD} (h:d.ok):d.base.ok:=by
 obtain⟨s0,s1⟩:=h.semi;obtain⟨e0,e1⟩:=h.hole;obtain⟨c0,c1⟩:=h.c0;have k:=Zcg (z:=d.k0) (m:=3000) Zd;have t:=Zcg (z:=d.thick) (m:=20000) Zd;have z0:∀m:Int,0<=m->In m 0:=λm hm=>⟨Zo,hm⟩
 have hh:0<=d.holeS∧d.holeS<=1000000000∧(d.semiS=0∨d.holeS<d.semiS):=by
  unfold SD.holeS SD.semiS;split<;>omega
 exact {k1:=(by decide:(1:Int)<=1),k2:=(by decide:(1:Int)<=4),kept:=by simp[Srf.kept,SD.base],curv:=⟨by simp only[SD.base];omega,by simp only[SD.base];omega⟩,curvx:=z0 _ Zd,thick:=⟨by simp only[SD.base];omega,by simp only[SD.base];omega⟩,dx:=z0 _ Zd,dy:=z0 _ Zd,a0:=z0 _ Zd,a1:=z0 _ Zd,a2:=z0 _ Zd,a3:=z0 _ Zd,p0:=z0 _ Zd,p1:=z0 _ Zd,conic:=⟨by simp only[SD.base];omega,by simp only[SD.base];omega⟩,conicx:=z0 _ Zd,ax:=z0 _ Zd,ay:=z0 _ Zd,az:=z0 _ Zd,order:=z0 _ Zd,semi0:=by simp only[SD.base,SD.semiS];omega,semi1:=by simp only[SD.base,SD.semiS];omega,hole0:=hh.1,hole1:=hh.2.1,ring:=hh.2.2,glass:=Zrk _,coats:=by simp[SD.base],films:=by simp[SD.base]}
theorem SD.srf_ok {d:SD} (h:d.ok):d.srf.ok:=by
 have hb:=SD.base_ok h;have z0:∀m:Int,0<=m->In m 0:=λm hm=>⟨Zo,hm⟩
 have r8:∀{z:Int} (m k:Int),R8 z->0<=k->128*k<=m->In m (k*z):=by
  intro z m k hz hk hm;obtain⟨h1,h2⟩:=hz;have e1:k*z<=k*127:=Ycr h2 hk;have e2:k*(-128)<=k*z:=Ycr h1 hk;exact⟨Zo,Zo⟩
 have hcl:d.asp.co.length<=8:=by
  simp only[SD.asp,Ybt,Ycq];omega
 have hcf:∀f∈d.asp.co,f.ok:=λf hf=>by
  simp only[SD.asp,Ydl]at hf;obtain⟨z,hz,rfl⟩:=hf;exact Zt3 (h.films z (Yfu hz))
 unfold SD.srf;split
 ·exact {hb with kept:=by simp[Srf.kept,SD.base,SD.asp],a0:=r8 _ 1000 h.a0 Zd Zd,a1:=r8 _ 1000 h.a1 Zd Zd,a2:=r8 _ 1000 h.a2 Zd Zd,a3:=r8 _ 1000 h.a3 Zd Zd,coats:=hcl,films:=hcf}
 ·split
  ·have hc:=h.c1
   have k:=Zcg (z:=d.k1) (m:=3000) Zd;obtain⟨c0,c1⟩:=hc;exact {hb with k1:=by simp[SD.bic],k2:=by simp[SD.bic],kept:=by simp[Srf.kept,SD.base,SD.bic],curvx:=⟨by simp only[SD.bic];omega,by simp only[SD.bic];omega⟩,conicx:=⟨by simp only[SD.bic];omega,by simp only[SD.bic];omega⟩}
  ·split
   ·exact {k1:=by simp[SD.brk],k2:=by simp[SD.brk],kept:=by simp[Srf.kept,SD.brk,nmNone],curv:=z0 _ Zd,curvx:=z0 _ Zd,thick:=hb.thick,dx:=r8 _ 10000 h.b0 Zd Zd,dy:=r8 _ 10000 h.b1 Zd Zd,a0:=z0 _ Zd,a1:=z0 _ Zd,a2:=z0 _ Zd,a3:=z0 _ Zd,p0:=z0 _ Zd,p1:=z0 _ Zd,conic:=z0 _ Zd,conicx:=z0 _ Zd,ax:=r8 _ 100000 h.b2 Zd Zd,ay:=r8 _ 100000 h.b3 Zd Zd,az:=r8 _ 100000 h.b4 Zd Zd,order:=z0 _ Zd,semi0:=Yek 0,semi1:=(by decide:(0:Int)<=1000000000),hole0:=Yek 0,hole1:=(by decide:(0:Int)<=1000000000),ring:=.inl rfl,glass:=.inl rfl,coats:=by simp[SD.brk],films:=by simp[SD.brk]}
   ·split
    ·split
     ·exact {hb with k1:=by simp[SD.idl],k2:=by simp[SD.idl],kept:=by simp[Srf.kept,SD.idl,nmNone],conic:=z0 _ Zd,glass:=.inl rfl}
     ·split
      ·exact hb
      ·rename_i ho hg
       have hm:dGlass d.glass≠mirror:=λe=>hg ((Zb5 _).1 e);have t:=Zcg (z:=d.order) (m:=4) Zd;have hne:d.order.tmod 4≠0:=λe=>ho (Int.tmod_eq_zero_of_dvd (Int.dvd_trans Zd (Int.dvd_of_tmod_eq_zero e)));exact {hb with kept:=by simp[Srf.kept,SD.base,SD.grt,hne,hm],p0:=r8 _ 1000 h.p0 Zd Zd,p1:=r8 _ 1000 h.p1 Zd Zd,order:=⟨by simp only[SD.grt];omega,by simp only[SD.grt];omega⟩}
    ·exact hb
section
open Go.RowKit
def crow (C:Nat->List Value):Nat->List Value
 | 0=>[]
 | n+1=>crow C n++C n
theorem Zbm {C:Nat->List Value} {sz:Nat} (h:∀i,(C i).length=sz):∀n,(crow C n).length=n*sz
 | 0=>by simp[crow]
 | n+1=>by rw[crow,Yay,Zbm h n,h n,Yeb]
theorem Zgi {C:Nat->List Value} {sz:Nat} (h:∀i,(C i).length=sz):∀(n i j:Nat),i<n->j<sz->(crow C n)[i*sz+j]? = (C i)[j]?
 | 0,i,j,hi,hj=>Zo
 | n + 1, i, j, hi, hj => by
   rw[crow];by_cases hin:i<n
   ·have:i*sz+j<n*sz:=by
     have:=Ybd sz (show i+1<=n by omega);rw[Yeb]at this;omega
    rw[Ybb (by rw[Zbm h];exact this)];exact Zgi h n i j hin hj
   ·obtain rfl:i=n:=by omega
    rw[Ybc (by rw[Zbm h];omega),Zbm h,Nat.add_sub_cancel_left]
theorem Zav {C D:Nat->List Value}:∀{n:Nat},(∀i,i<n->C i=D i)->crow C n=crow D n
 | 0,_=>rfl
 | n+1,h=>by rw[crow,crow,Zav λi hi=>h i Zo,h n Zo]
def ccat (C:Nat->List Value) (n:Nat) (H:Nat->List Value) (i:Nat):List Value:=if i<n then C i else H (i-n)
theorem Zni (C H:Nat->List Value) (n:Nat):∀m,crow C n++crow H m=crow (ccat C n H) (n+m)
 | 0 => by
   rw[Zav (C:=C) (D:=ccat C n H) (λi hi=>by unfold ccat;rw[if_pos hi])];simp[crow]
 | m + 1 => by
   show crow C n++(crow H m++H m)=crow (ccat C n H) (n+m)++ccat C n H (n+m);rw[<-Ybx,Zni C H n m];congr 1
   unfold ccat;rw[if_neg Zo,Nat.add_sub_cancel_left]
theorem Znj {C:Nat->List Value}:∀{n:Nat},(∀i,i<n->∀u∈C i,u.oneCell'=true)->∀u∈crow C n,u.oneCell'=true
 | 0,_,u,hu=>by cases hu
 | n + 1, h, u, hu => by
   rw[crow,Ycn]at hu;rcases hu with hu|hu
   ·exact Znj (λi hi=>h i Zo) u hu
   ·exact h n Zo u hu
theorem Zdk {w:World} {base:Nat} {p:Option Addr} {n cap sz:Nat} {e:TypeId} {C:Nat->List Value} (hC:∀i,(C i).length=sz) (h:w.ownsRow base e sz (.slice p n cap) n (crow C n)) (hn:n<=1000):RdC w p n cap sz (λi j=>(C i).getD j undef):=by
 obtain⟨hl,h⟩:=h;rcases h with ⟨h1,h0⟩|⟨g',cap',cur,hv,hb,hg,h1,h2,h3,h4⟩
 ·cases h1
  exact⟨Yab _,Zo,λh=>Zo⟩
 ·cases hv
  refine⟨h1,Zo,λ_=>⟨g',0,rfl,Zao hg,λi j hi hj=>?_⟩⟩;have hc:=(Box.mk hg).cell (0+i*sz+j);rw[hc,<-Yaq,Yba];have:=Zgi hC n i j hi hj;have hlt:i*sz+j<n*sz:=by
   have:=Ybd sz (show i+1<=n by omega);rw[Yeb]at this;omega
  rw[<-h4,List.getElem?_take_of_lt hlt]at this;dsimp only;rw[this,Yac,Yao (by rw[hC];exact hj)];rfl
theorem Za4 {w:World} {base:Nat} {p:Option Addr} {n cap sz:Nat} {e:TypeId} {C:Nat->List Value} {f:Nat->Nat->Value} (hC:∀i,(C i).length=sz) (hf:∀i j,i<n->j<sz->(C i).getD j undef=f i j) (h:w.ownsRow base e sz (.slice p n cap) n (crow C n)) (hn:n<=1000):RdC w p n cap sz f:=by
 obtain⟨h1,h2,h3⟩:=Zdk hC h hn;refine⟨h1,h2,λh0=>?_⟩;obtain⟨b,off,hp,hb,hc⟩:=h3 h0;exact⟨b,off,hp,hb,λi j hi hj=>by
  rw[hc i j hi hj];exact congrArg some (hf i j hi hj)⟩
theorem Zh7 {w:World} {base n size:Nat} {v:Value} {e:TypeId} {vals:List Value} (h:w.ownsRow base e size v n vals):∃p c,v=.slice p n c∧(p=none->n=0∧c=0):=by
 obtain⟨hl,h⟩:=h;rcases h with ⟨h1,h0⟩|⟨g,cap,cur,hv,_⟩
 ·exact⟨none,0,by rw[h1,h0],λ_=>⟨h0,rfl⟩⟩
 ·exact⟨_,_,hv,λh=>by cases h⟩
theorem Zt5 {w:World} {b:Addr} {m c sz:Nat} {H:Nat->List Value} (hH:∀i,(H i).length=sz) (h:RdC w (some b) m c sz (λi j=>(H i).getD j undef)) (hsz:0<sz):∀j u,(crow H m)[j]? = some u->w.cell? (b.add j)=some u:=by
 intro j u hj;have hl:j<(crow H m).length:=(Yan.1 hj).1;rw[Zbm hH]at hl;have hm:0<m:=Yck λe=>by rw[e,Yez]at hl;omega
 obtain⟨b',off,hp,hb,hc⟩:=h.2.2 hm;cases hp;have hd:j/sz<m:=Nat.div_lt_of_lt_mul (by rw[Ycu];exact hl);have hr:j%sz<sz:=Nat.mod_lt _ hsz;have h1:=hc (j/sz) (j%sz) hd hr;have h2:=Zgi hH m (j/sz) (j%sz) hd hr;rw[show j/sz*sz+j%sz=j by rw[Ycu];exact Nat.div_add_mod j sz]at h2;rw[h2]at hj;have h3:(H (j/sz)).getD (j%sz) undef=u:=by rw[Yac,hj];rfl
 dsimp only at h1;rw[h3]at h1;rw[Addr.add_lit,<-h1];congr 2
 have:=Nat.div_add_mod j sz;rw[Ycu]at this;omega
theorem Zrp {P:Program} {ts te:TypeId} {i:TypeInfo} {z:Value} {sz bytes:Nat} (h1:P.underlying ts=some (.slice te)) (h2:P.info? te=some i) (h3:i.zero=some z) (h4:i.size=sz) (h5:i.bytes=bytes) (h6:z.cells.size=sz) (h7:0<sz)
  (ty:TypeId) {V:World} {base:Nat} {v:Value} {n:Nat} {C:Nat->List Value} (hown:V.ownsRow base te sz v n (crow C n)) {q:Option Addr} {m c:Nat} {H:Nat->List Value} (hH:∀i,(H i).length=sz) (hH1:∀i,i<m->∀u∈H i,u.oneCell'=true)
  (hq:RdC V q m c sz (λi j=>(H i).getD j undef)) (hnil:q=none->m=0∧c=0) (hbase:base<=V.heap.size) (hnm:n+m<=1000) (hby:(n+m)*bytes<=140737488355328) :
  ∃p' c' W,(Builtin.append_ #[ts,ts] ty #[v,.slice q m c]).run P V=.ok (.slice p' (n+m) c') W∧W.ownsRow base te sz (.slice p' (n+m) c') (n+m) (crow (ccat C n H) (n+m))∧V.grownBy W v.ownBlock∧(p'=none->n+m=0∧c'=0):=by
 have hf:=Zni C H n m;cases q with
 | none =>
   obtain⟨rfl,rfl⟩:=hnil rfl;have hrun:=run_append_owned_none (P:=P) (w:=V) base ts ty te i sz h1 h2 v n _ hown;obtain⟨p',c',rfl,hn⟩:=Zh7 hown;refine⟨p',c',V,hrun,?_,⟨rfl,rfl,rfl,Yab _,λ_ _ _=>rfl⟩,hn⟩;rw[<-hf];simpa[crow]using hown
 | some b =>
   obtain⟨v',W,hr,g1,g2,_⟩:=run_append_own (P:=P) V base ts ty te i z sz bytes h1 h2 h3 h4 h5 h6 h7 v n _ hown b m c (crow H m) (Zbm hH m) (Zt5 hH hq h7) (Znj hH1) (by simp[maxLen];omega) hby hbase;obtain⟨p',c',rfl,hn⟩:=Zh7 g1;rw[hf]at g1;exact⟨p',c',W,hr,g1,g2,hn⟩
theorem Zbw {P:Program} {w w':World} {o:Oper} {a:Act} {v':Value} (s x:Operand) (t tn:TypeId) (ho:o.op=.call {callee:=.builtin .append,args:=#[s,x],argTypes:=#[t,tn]}) (vs vx:Value) (hs:a.eval s=vs) (hx:a.eval x=vx)
  (hr:(Builtin.append_ #[t,tn] o.type #[vs,vx]).run P w=.ok v' w'):(execOp a.eval o).run P w=.ok (.value v') w':=by
 unfold execOp;simp only[ho,resolve,invoke,builtin,Yar,Yau,Yag,Yev,Ybz,Yfp,hs,hx,hr]
theorem Zks {P:Program} {ops:Array Oper} {Q:Exit->Act->World->Prop} {o:Oper} {rest:List Oper} {a:Act} {w w':World} {v:Value} (hg:o.guard=none) (hx:(execOp a.eval o).run P w=.ok (.value v) w') (h:wpList P ops Q rest (a.put o.dst v) w'):wpList P ops Q (o::rest) a w:=by
 refine wpList_plain hg λK hK=>?_;unfold Oper.wp;rw[hx,Oper.upon_value];exact hK _ _ h
theorem Zcy {w:World} {T:TypeId} {B n sz base:Nat} {cs:Array Value} {C:Nat->List Value} (b:Box w B T cs) (hb:base<=B) (hn:n<=1000) (hC:∀i,(C i).length=sz) (hcs:cs.toList=crow C n):w.ownsRow base T sz (.slice (some ⟨B,0,none⟩) n n) n (crow C n):=by
 have hl:=Zbm hC n;refine⟨hl,.inr ⟨B,n,cs,rfl,hb,b.blk,Yab _,by simp[maxLen];omega,?_,?_⟩⟩
 ·rw[<-Yaz,hcs,hl]
 ·rw[hcs,Ycm Zo]
theorem Zch {P:Program} {ts te:TypeId} {i:TypeInfo} {z:Value} {sz:Nat} (h1:P.underlying ts=some (.slice te)) (h2:P.info? te=some i) (h3:i.zero=some z) (h4:i.size=sz) (h7:0<sz) (h8:sz<=1000) (A:Array Value) (hA:A.size=sz) (w:World) :
  (Instr.buildSlice ts 1 #[(0,.agg A)]).run P w=.ok (.slice (some ⟨w.heap.size,0,none⟩) 1 1) (w.alloc (.cells A te)):=by
 subst h4;refine Go.run_buildSlice w ts te 1 _ A i z h1 h2 h3 Zo Zo ?_;have:=Go.Great.fill_whole (s:=i.size) h7 [.agg A] ((Array.range (1*i.size)).map (z.cells[· % z.cells.size]!)) (λv hv=>by obtain rfl:=Ycd.1 hv;exact hA) Zs;simpa[List.zipIdx,Value.cells]using this
theorem Zau {P:Program} {ops:Array Oper} {Q:Exit->Act->World->Prop} {op:Oper} {rest:List Oper} {a:Act} {w:World} (T:TypeId) (m:Nat) (parts:Array (Nat×Operand)) (hg:op.guard=none) (ho:op.op=.buildSlice T m parts) {ps:Array (Nat×Value)} (hp:parts.map (λ(i,x)=>(i,a.eval x))=ps) {E:TypeId} {zs:Array Value} {n c:Nat}
  (hrun:∀w,(Instr.buildSlice T m ps).run P w=.ok (.slice (some ⟨w.heap.size,0,none⟩) n c) (w.alloc (.cells zs E)))
  (h:∀V B,w.heap.size<=B->Below w.heap.size w V->Box V B E zs->wpList P ops Q rest (a.put op.dst (.slice (some ⟨B,0,none⟩) n c)) V):wpList P ops Q (op::rest) a w:=
 wpList_step λK hK=>by
  have hw:Region.wanted op (yielded ops a.tmps)=true:=by simp[Region.wanted,hg]
  simp only[hw,if_true];unfold Oper.wp execOp;simp only[ho,hp,Yar,hrun,Yag,Yau];exact hK _ _ (h _ _ (Yab _) ((Yae _ _).alloc (Yab _) _) (Box.new _ _ _))
def cupd (C:Nat->List Value) (i:Nat) (t:List Value) (k:Nat):List Value:=if k=i then t else C k
theorem Znk {C:Nat->List Value} {sz i:Nat} {t:List Value} (hC:∀k,(C k).length=sz) (ht:t.length=sz):∀n,i<n->(crow C n).take (i*sz)++t++(crow C n).drop (i*sz+sz)=crow (cupd C i t) n
 | 0,h=>Zo
 | n + 1, h => by
   have hl:=Zbm hC n;have hv:=hC n;by_cases e:i=n
   ·subst e
    show(crow C i++C i).take (i*sz)++t++(crow C i++C i).drop (i*sz+sz)=crow (cupd C i t) i++cupd C i t i;rw[List.take_left' hl,Yfi (by rw[Yay,hl,hv];exact Yab _),Ydg];rw[Zav (C:=C) (D:=cupd C i t) (λk hk=>by unfold cupd;rw[if_neg (show ¬k=i by omega)])];simp[cupd]
   ·have ih:=Znk (i:=i) hC ht n Zo
    have h1:i*sz+sz<=n*sz:=by
     have:=Ybd sz (show i+1<=n by omega);rw[Yeb]at this;exact this
    show(crow C n++C n).take (i*sz)++t++(crow C n++C n).drop (i*sz+sz)=crow (cupd C i t) n++cupd C i t n;rw[Yfr (show i*sz<=(crow C n).length by omega),List.drop_append_of_le_length (show i*sz+sz<=(crow C n).length by omega),<-Ybx,ih];congr 1
    unfold cupd;rw[if_neg (show ¬n=i by omega)]
theorem Zg8 {W W':World} {base g n cap sz i:Nat} {e:TypeId} {C:Nat->List Value} {t:List Value} {cur new:Array Value} (hC:∀k,(C k).length=sz) (ht:t.length=sz) (h:W.ownsRow base e sz (.slice (some ⟨g,0,none⟩) n cap) n (crow C n)) (b:Box W g e cur) (hi:i<n)
  (hnew:cur.toList.take (i*sz)++t++cur.toList.drop (i*sz+sz)=new.toList) (b':Box W' g e new):W'.ownsRow base e sz (.slice (some ⟨g,0,none⟩) n cap) n (crow (cupd C i t) n):=by
 obtain⟨hl,h⟩:=h;rcases h with ⟨h1,h0⟩|⟨g',cap',cur',hv,hb,hg,h1,h2,h3,h4⟩
 ·cases h1
 ·cases hv
  have hc:cur'=cur:=by
   have:=hg.symm.trans b.blk;simpa using this
  subst hc;have hlen:(i*sz+sz)<=n*sz:=by
   have:=Ybd sz (show i+1<=n by omega);rw[Yeb]at this;exact this
  have hcl:cur'.toList.length=cap*sz:=by rw[Yaz];exact h3
  have hcn:n*sz<=cap*sz:=Ybd sz h1;have hC':∀k,(cupd C i t k).length=sz:=λk=>by unfold cupd;split;exact ht;exact hC k
  refine⟨Zbm hC' n,.inr ⟨g,cap,new,rfl,hb,b'.blk,h1,h2,?_,?_⟩⟩
  ·rw[<-Yaz,<-hnew,Yay,Yay,Ycq,Yfs,hcl,ht]
   omega
  ·rw[<-hnew,<-Znk hC ht n hi,<-h4]
   have hl1:(cur'.toList.take (i*sz)).length=i*sz:=by rw[Ycq,hcl];omega
   rw[List.take_append,Ycm (by rw[Yay,hl1,ht];exact hlen),Yay,hl1,ht,List.take_take,List.drop_take,Nat.min_eq_left Zo]
theorem Zam {P:Program} {ops:Array Oper} {Q:Exit->Act->World->Prop} {o:Oper} {rest:List Oper} {a:Act} {V:World} (hg:o.guard=none) (s x:Operand) {ts te:TypeId} (ho:o.op=.call {callee:=.builtin .append,args:=#[s,x],argTypes:=#[ts,ts]})
  {i:TypeInfo} {z:Value} {sz bytes:Nat} (h1:P.underlying ts=some (.slice te)) (h2:P.info? te=some i) (h3:i.zero=some z) (h4:i.size=sz) (h5:i.bytes=bytes) (h6:z.cells.size=sz) (h7:0<sz)
  {base:Nat} {v:Value} {n:Nat} {C:Nat->List Value} (hs:a.eval s=v) {q:Option Addr} {m c:Nat} (hx:a.eval x=.slice q m c) (hown:V.ownsRow base te sz v n (crow C n)) {H:Nat->List Value} (hH:∀i,(H i).length=sz) (hH1:∀i,i<m->∀u∈H i,u.oneCell'=true)
  (hq:RdC V q m c sz (λi j=>(H i).getD j undef)) (hnil:q=none->m=0∧c=0) (hbase:base<=V.heap.size) (hnm:n+m<=1000) (hby:(n+m)*bytes<=140737488355328)
  (hK:∀p' c' W,W.ownsRow base te sz (.slice p' (n+m) c') (n+m) (crow (ccat C n H) (n+m))->V.grownBy W v.ownBlock->(p'=none->n+m=0∧c'=0)->wpList P ops Q rest (a.put o.dst (.slice p' (n+m) c')) W) :
  wpList P ops Q (o::rest) a V:=by
 obtain⟨p',c',W,hr,g1,g2,g3⟩:=Zrp (P:=P) h1 h2 h3 h4 h5 h6 h7 o.type hown hH hH1 hq hnil hbase hnm hby;exact Zks hg (Zbw s x ts ts ho v (.slice q m c) hs hx hr) (hK p' c' W g1 g2 g3)
end
end Go.Mono
namespace Go.Proofs.YtfgmlkjibdegfaaGreatDoor
open Go.RowKit Go.Mono
section
open Go Go.ChangeShapes Go.WideShapes Go.ChangeAt Go.WideMaps Go.WideElems Go.Proofs.W
theorem Zua {w:World} {base:Nat} {sp:Nat->Bool} {n:Nat} {t:TypeId} {ps rs:Array TypeId} {va:Bool} {v:Value} {b:UInt8} {r:List UInt8} {q:List MemPlace} {f0:FuncId}
  (ht:Tryz.prog.underlying t=some (.func ps rs va)) (hone:((List.range Tryz.prog.funcs.size).filter λf=>(Tryz.prog.funcs[f]?).any (·.name.toUTF8.data.toList==b::r))=[f0])
  (h:elemAt (funcToken Tryz.prog) Tryz.prog w base sp true n t v=some (.held (b::r),q)):v=.func (.func f0) #[] #[]:=by
 unfold elemAt at h;split at h
 ·rename_i hf
  cases v<;>simp[Value.formed,ht]at hf
  all_goals exact func_of_trod ht hone (by simpa[Value.cells]using h)
 ·cases h
theorem Zk1 {W:World} (h:laidMetH Tryz.prog [("monocle/surface.places",Rows.laid_monocle_surface_places),("monocle/paraxial.powers",Rows.laid_monocle_paraxial_powers)] W):∃m,PowsAt W m:=by
 obtain⟨g,t,cs,fuel,p,hg,ht,hv,hd⟩:=h.funcs (n:= "monocle/paraxial.powers") (Ybs _ (Ycl ..));obtain rfl:=Yej ((show Tryz.prog.globalNamed "monocle/paraxial.powers" = some 0 by kernel_rfl).symm.trans hg);obtain rfl:=Yej ((show(Tryz.prog.globals[0]?).map (·.type)=some 173 by kernel_rfl).symm.trans ht);have hcell:=World.var?_cell hg hv 0;have hd':DataW.trod (funcToken Tryz.prog) Tryz.prog W 0 (λ_=>true) true fuel 173 cs.toList=some (.map [(.int .i64 1,.held [40,109,111,110,111,99,108,101,47,112,97,114,97,120,105,97,108,46,118,105,101,119,41,46,99,117,114,118,101,100]),(.int .i64 2,.held [40,109,111,110,111,99,108,101,47,112,97,114,97,120,105,97,108,46,118,105,101,119,41,46,99,117,114,118,101,100]),(.int .i64 3,.held [40,109,111,110,111,99,108,101,47,112,97,114,97,120,105,97,108,46,118,105,101,119,41,46,102,108,97,116]),(.int .i64 4,.held [40,109,111,110,111,99,108,101,47,112,97,114,97,120,105,97,108,46,118,105,101,119,41,46,105,100,101,97,108])],p):=hd;rcases WideElems.open_map Tryz.underlying173 hd' with ⟨_,hx⟩|⟨m,es,clock,n,rfl,hcs,hb,_,F,hx⟩
 ·exact absurd (congrArg Prod.fst hx) (by intro e;cases e)
 have hc0:W.cell? ⟨0,0,none⟩=some (.map (some m)):=by
  rw[Array.eq_one_of_toList hcs]at hcell;simpa using hcell
 have hlt:m<W.heap.size:=Zao hb;have hpos:0<W.heap.size:=block_lt_of_cell hc0;have hxx:=congrArg Prod.fst hx;dsimp only at hxx;refine⟨m,hlt,hpos,hc0,λw' hw'=>?_⟩;have hb':=hw'.trans hb;have zero:∀w,(zeroValue 172).run Tryz.prog w=.ok .nilFunc w:=λ_=>Zk
 have look:∀(kd:Int) (b:UInt8) (r:List UInt8) (f0:FuncId),(Lit.int .i64 kd).wf=true->((List.range Tryz.prog.funcs.size).filter λf=>(Tryz.prog.funcs[f]?).any (·.name.toUTF8.data.toList==b::r))=[f0]->
   (DataW.map [(Lit.int .i64 1,DataW.held [40,109,111,110,111,99,108,101,47,112,97,114,97,120,105,97,108,46,118,105,101,119,41,46,99,117,114,118,101,100]),(.int .i64 2,.held [40,109,111,110,111,99,108,101,47,112,97,114,97,120,105,97,108,46,118,105,101,119,41,46,99,117,114,118,101,100]),(.int .i64 3,.held [40,109,111,110,111,99,108,101,47,112,97,114,97,120,105,97,108,46,118,105,101,119,41,46,102,108,97,116]),(.int .i64 4,.held [40,109,111,110,111,99,108,101,47,112,97,114,97,120,105,97,108,46,118,105,101,119,41,46,105,100,101,97,108])]:DataW (List UInt8)).atKey (.int .i64 kd) .nil=.held (b::r)->
   (Instr.lookup 173 (.map (some m)) (.int .i64 kd) false).run Tryz.prog w'=.ok (.func (.func f0) #[] #[]) w':=by
  intro kd b r f0 hw hone hat;have hk:keyOf Tryz.prog 3 (.int .i64 kd)=some (.int .i64 kd):=by simp[keyOf_int Tryz.underlying3,mapKey,Tryz.underlying3,hw]
  rcases Go.Maps.fit_look false (Go.Maps.int_keyed Tryz.underlying3) Tryz.underlying173 (zero w') hb' F hk with ⟨_,_,h2⟩|⟨e0,y,_,_,hrun,hR,h2,_⟩
  ·have:=h2 .nil
   rw[<-hxx]at this;cases hat.symm.trans this
  ·have:=h2 .nil
   rw[<-hxx]at this;replace this:=hat.symm.trans this;obtain⟨y1,y2⟩:=y;cases this;rw[Zua Tryz.underlying172 hone hR]at hrun;exact hrun
 exact⟨look 1 40 [109,111,110,111,99,108,101,47,112,97,114,97,120,105,97,108,46,118,105,101,119,41,46,99,117,114,118,101,100] 281 Zk Zk rfl,look 2 40 [109,111,110,111,99,108,101,47,112,97,114,97,120,105,97,108,46,118,105,101,119,41,46,99,117,114,118,101,100] 281 Zk Zk rfl,look 3 40 [109,111,110,111,99,108,101,47,112,97,114,97,120,105,97,108,46,118,105,101,119,41,46,102,108,97,116] 282 Zk Zk rfl,look 4 40 [109,111,110,111,99,108,101,47,112,97,114,97,120,105,97,108,46,118,105,101,119,41,46,105,100,101,97,108] 283 Zk Zk rfl⟩
end
end Go.Proofs.YtfgmlkjibdegfaaGreatDoor
