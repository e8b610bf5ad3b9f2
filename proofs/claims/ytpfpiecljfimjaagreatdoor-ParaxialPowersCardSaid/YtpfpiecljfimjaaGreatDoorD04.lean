/- The drafted optics of chapter 13: what it is and that it is valid. Part 4 of 14. No condition beside the row. -/
import Derived.Test.YtpfpiecljfimjaaGreatDoorA03
import Derived.Test.YtpfpiecljfimjaaGreatDoorA13
import Derived.Test.YtpfpiecljfimjaaGreatDoorA23
import Derived.Test.YtpfpiecljfimjaaGreatDoorD02
import Derived.Test.YtpfpiecljfimjaaGreatDoorD03
set_option linter.unusedVariables false
set_option linter.unusedSimpArgs false
set_option maxRecDepth 100000
set_option maxHeartbeats 4000000
namespace Go.Proofs.W
open Go.RowKit Go.Mono
theorem Zk6 (s:Srf) (hs:s.core) (p:Option Addr) (c:Nat) (w:World) (hco:CoatAt w p c s.co) :
  Calls Tryz.prog 181 #[.agg (s.cs p c)] w λe w'=>e=.returned (.bool (decide s.ring))∧Below w.heap.size w w':=by
 have hfl:=λi (hi:i<s.co.length) W=>Zsa (s.co.getD i ⟨0,0,0⟩) (hs.films _ (by rw[Yac,Yao hi];exact Ybw hi)) W;have h8:=hs.coats;have hnm:=hs.glass;obtain⟨_,_,_,⟨i1,j1⟩,⟨i2,j2⟩,⟨i3,j3⟩,⟨i4,j4⟩,⟨i5,j5⟩,⟨i6,j6⟩,⟨i7,j7⟩,⟨i8,j8⟩,⟨i9,j9⟩,⟨i10,j10⟩,⟨i11,j11⟩,⟨i12,j12⟩,⟨i13,j13⟩,⟨i14,j14⟩,⟨i15,j15⟩,⟨i16,j16⟩,⟨i17,j17⟩,s1,o0,o1,_,_,_⟩:=hs;have hring:∃b,decide s.ring=b:=⟨_,rfl⟩
 obtain⟨b,hb⟩:=hring;have hb':=hb;unfold Srf.ring at hb';unfold CoatAt at hco;unfold Srf.cs;rw[hb];clear hb;obtain⟨kind,curv,conic,curvx,conicx,a0,a1,a2,a3,p0,p1,order,thick,glass,semi,hole,dx,dy,ax,ay,az,co⟩:=s;dsimp only at *;generalize hn:co.length=n at *;generalize hF:(λi=>co.getD i (⟨0,0,0⟩:Flm))=F at *;have hfl':∀i,i<n->∀W,Calls Tryz.prog 211 #[.agg (F i).vals] W λe w'=>e=.returned (.bool true)∧Below W.heap.size W w':=λi hi W=>by
  rw[<-hF];exact hfl i hi W
 clear hfl hF hn;have hn8:(n:Int)<=8:=Zo;replace hb':=Yah hb';have qN:∀W,glass.toList≠[]->Calls Tryz.prog 110 #[.string glass] W λe w'=>e=.returned (.bool true)∧w'=W:=λW hne=>by
  rcases hnm with rfl|h
  ·exact absurd (by simp[Ycs]) hne
  ·exact Ze6 glass h W
 clear hnm;have q1:=λW=>Zaw curv 1000000000 Zd Zd i1 j1 W;have q2:=λW=>Zaw curvx 1000000000 Zd Zd i2 j2 W;have q3:=λW=>Zaw thick 1000000000 Zd Zd i3 j3 W;have q4:=λW=>Zaw dx 1000000000 Zd Zd i4 j4 W;have q5:=λW=>Zaw dy 1000000000 Zd Zd i5 j5 W;have q6:=λW=>Zaw a0 1000000000 Zd Zd i6 j6 W;have q7:=λW=>Zaw a1 1000000000 Zd Zd i7 j7 W;have q8:=λW=>Zaw a2 1000000000 Zd Zd i8 j8 W;have q9:=λW=>Zaw a3 1000000000 Zd Zd i9 j9 W;have q10:=λW=>Zaw p0 1000000000 Zd Zd i10 j10 W;have q11:=λW=>Zaw p1 1000000000 Zd Zd i11 j11 W;have q12:=λW=>Zaw conic 100000000 Zd Zd i12 j12 W;have q13:=λW=>Zaw conicx 100000000 Zd Zd i13 j13 W;have q14:=λW=>Zaw ax 90000000 Zd Zd i14 j14 W;have q15:=λW=>Zaw ay 90000000 Zd Zd i15 j15 W;have q16:=λW=>Zaw az 90000000 Zd Zd i16 j16 W;clear i1 j1 i2 j2 i3 j3 i4 j4 i5 j5 i6 j6 i7 j7 i8 j8 i9 j9 i10 j10 i11 j11 i12 j12 i13 j13 i14 j14 i15 j15 i16 j16;go_enter Tryz.func181,Tryz.ntmps181
 go_wp2_with fail
 refine Zb1 λW hB hsz bS=>?_;have cS:=bS.cell;have lS:=bS.lt;have hcW:=hco.below hB;clear hco;go_wp2
 go_loopw [3] (λx wr=>∃k:Nat,k<=4∧x=.int .i64 (k:Int)∧wr=W) (λx _=>(4-intOf x).toNat)
 case atStart=>exact⟨0,Zo,rfl,rfl⟩
 case round=>
  obtain⟨k,hk,rfl,rfl⟩:=hrel;rcases(by omega:k=0∨k=1∨k=2∨k=3∨k=4) with rfl|rfl|rfl|rfl|rfl
  ·go_wp2_with (go_at_call 210;with_reducible refine(q6 _).mono ?_;rintro e w5 ⟨rfl,h5⟩;rw[h5];clear h5 w5)
   go_roundw
   case rel=>exact⟨1,Zd,Zs⟩
   case measure=>simp[intOf]
  ·go_wp2_with (go_at_call 210;with_reducible refine(q7 _).mono ?_;rintro e w5 ⟨rfl,h5⟩;rw[h5];clear h5 w5)
   go_roundw
   case rel=>exact⟨2,Zd,Zs⟩
   case measure=>simp[intOf]
  ·go_wp2_with (go_at_call 210;with_reducible refine(q8 _).mono ?_;rintro e w5 ⟨rfl,h5⟩;rw[h5];clear h5 w5)
   go_roundw
   case rel=>exact⟨3,Zd,Zs⟩
   case measure=>simp[intOf]
  ·go_wp2_with (go_at_call 210;with_reducible refine(q9 _).mono ?_;rintro e w5 ⟨rfl,h5⟩;rw[h5];clear h5 w5)
   go_roundw
   case rel=>exact⟨4,Zd,Zs⟩
   case measure=>simp[intOf]
  ·rw[show((4:Nat):Int)=4 from rfl]
   go_wp2
   go_loopw [4] (λx w6=>∃j:Nat,j<=n∧x=.int .i64 (j:Int)∧Below wr.heap.size wr w6) (λx _=>(n-intOf x).toNat)
   case atStart=>exact⟨0,Yat _,rfl,Yae _ _⟩
   case round=>
    obtain⟨j,hj,rfl,hB6⟩:=hrel;rename_i W0 _;have bS6:=bS.below hB6;have cS6:=bS6.cell;have lS6:=bS6.lt;clear cS lS;by_cases hjn:j<n
    ·obtain⟨b,off,rfl,lb,hrg⟩:=hcW.range Zo
     have hrgw:=hrg j hjn wr hB6;have lbw:=Yaf lb hB6.size;have hflj:=hfl' j hjn;have hszj:(Tryz.prog.info? 222).map (·.size)=some (F j).vals.size:=Zk;have hslj:(Tryz.prog.info? 222).map (·.size)=some (F j).vals.toList.length:=hszj;have hj':(j:Int)<n:=Zo;generalize (F j).vals=A3 at *;clear hfl' hrg hcW q1 q2 q3 q4 q5 q6 q7 q8 q9 q10 q11 q12 q13 q14 q15 q16;go_wp2_with (refine wpList_load_mid rfl 222 _ rfl b (off+j*3) rfl A3.toList _ hrgw Tryz.underlying222 rfl hslj ?_)
     refine(hflj _).mono ?_;rintro e W3 ⟨rfl,hb3⟩;go_wp2
     go_roundw
     case rel=>exact⟨j+1,Zo,Zs,Zaa hB6 hb3⟩
     case measure=>simp[intOf];omega
    ·obtain rfl:j=n:=by omega
     clear hfl' hcW;go_wp2_with (go_at_call 210;(first|with_reducible refine(q1 _).mono ?_|with_reducible refine(q2 _).mono ?_|with_reducible refine(q12 _).mono ?_|with_reducible refine(q13 _).mono ?_|with_reducible refine(q10 _).mono ?_|with_reducible refine(q11 _).mono ?_|with_reducible refine(q3 _).mono ?_|with_reducible refine(q4 _).mono ?_|with_reducible refine(q5 _).mono ?_|with_reducible refine(q14 _).mono ?_|with_reducible refine(q15 _).mono ?_|with_reducible refine(q16 _).mono ?_);rintro e w5 ⟨rfl,h5⟩;rw[h5];clear h5 w5)
     all_goals try(go_at_call 110;refine(qN _ (by assumption)).mono ?_;rintro e w5 ⟨rfl,h5⟩;rw[h5];clear h5 w5;go_wp2)
     all_goals
      first
       | (obtain rfl : b = true := by rw [<- hb'.out]; exact decide_eq_true Zo
          go_ret
          exact⟨rfl,Zaa hB hB6⟩)
       | (obtain rfl : b = false := by rw [<- hb'.out]; exact decide_eq_false Zo
          go_ret
          exact⟨rfl,Zaa hB hB6⟩)
end Go.Proofs.W
namespace Go.Mono
structure LD where
 surfs:List SD
 stop:Int
 far:Int
 pupil:Int
 fields:List Int
 waves:List Int
 primary:Int
 image:Int
 configs:List (List (Int×Int×Int))
structure LD.ok (d:LD):Prop where
 surfs:∀s∈d.surfs,s.ok
 stop:U8 d.stop
 far:U16 d.far
 pupil:U8 d.pupil
 fields:∀z∈d.fields,U8 z
 waves:∀z∈d.waves,U8 z
 primary:U8 d.primary
 image:R16 d.image
 configs:∀l∈d.configs,∀c∈l,U8 c.1∧U8 c.2.1∧R16 c.2.2
def LD.farM (d:LD):Int:=100000*(d.far%10001)
def LD.fieldM (d:LD) (n:Int):Int×Int:=if 0<d.farM then(500000*(n/16),-500000*(n%16)) else(10000*(n/16),10000*(n%16))
def LD.fieldsM (d:LD):Nat->List (Int×Int)
 | 0=>[(0,0)]
 | k+1=>if d.fieldM (d.fields.getD k 0)∈d.fieldsM k then d.fieldsM k else d.fieldsM k++[d.fieldM (d.fields.getD k 0)]
def LD.waveL (d:LD):Nat->Int
 | 0=>400000
 | k+1=>d.waveL k+200*d.waves.getD k 0+1000
def LD.nw (d:LD):Nat:=if d.waves=[] then 1 else min d.waves.length 5
def LD.lenW (d:LD) (i:Nat):Int:=if d.waves=[] then 550000 else d.waveL (i+1)
def LD.wgtW (d:LD) (i:Nat):Int:=if d.waves=[] then 1 else 1+d.waves.getD i 0%5
def stdS (thick:Int):Srf:=
 {kind:=1,curv:=0,conic:=0,curvx:=0,conicx:=0,a0:=0,a1:=0,a2:=0,a3:=0,p0:=0,p1:=0,order:=0,thick:=thick,glass:=nmNone,semi:=0,hole:=0,dx:=0,dy:=0,ax:=0,ay:=0,az:=0}
def imgS (curv:Int):Srf:={stdS 0 with curv:=curv}
def LD.raw (d:LD):List Srf:=if d.surfs=[] then[stdS 10000000] else(d.surfs.take 5).map SD.srf
def LD.st (d:LD):Nat:=(d.stop%(d.raw.length:Int)).toNat
def LD.front (d:LD):List Srf:=if(d.raw.getD d.st (stdS 0)).kind=3 then d.raw.set d.st (stdS (d.raw.getD d.st (stdS 0)).thick) else d.raw
def LD.srfs (d:LD):List Srf:=d.front++[imgS (1000*d.image)]
def LD.chg (d:LD) (c:Int×Int×Int):Chg:=((c.1%(d.srfs.length:Int)).toNat,1+c.2.1%17,1000*c.2.2)
noncomputable def LD.conf (d:LD) (l:List (Int×Int×Int)):List Chg:=dConf d.srfs [] ((l.take 4).map d.chg)
theorem Zmo {t:Int} (h:In 1000000000 t):(stdS t).ok:=by
 have z0:∀m:Int,0<=m->In m 0:=λm hm=>⟨Zo,hm⟩
 exact {k1:=(by decide:(1:Int)<=1),k2:=(by decide:(1:Int)<=4),kept:=by simp[Srf.kept,stdS,nmNone],curv:=z0 _ Zd,curvx:=z0 _ Zd,thick:=h,dx:=z0 _ Zd,dy:=z0 _ Zd,a0:=z0 _ Zd,a1:=z0 _ Zd,a2:=z0 _ Zd,a3:=z0 _ Zd,p0:=z0 _ Zd,p1:=z0 _ Zd,conic:=z0 _ Zd,conicx:=z0 _ Zd,ax:=z0 _ Zd,ay:=z0 _ Zd,az:=z0 _ Zd,order:=z0 _ Zd,semi0:=Yek 0,semi1:=(by decide:(0:Int)<=1000000000),hole0:=Yek 0,hole1:=(by decide:(0:Int)<=1000000000),ring:=.inl rfl,glass:=.inl rfl,coats:=by simp[stdS],films:=by simp[stdS]}
theorem Zw2 {c:Int} (h:In 1000000000 c):(imgS c).ok:=by
 have hb:=Zmo (t:=0) ⟨Zd,Zd⟩;exact {hb with kept:=by simp[Srf.kept,stdS,imgS,nmNone],curv:=h}
theorem LD.raw_ok {d:LD} (h:d.ok):(∀s∈d.raw,s.ok)∧1<=d.raw.length∧d.raw.length<=5:=by
 unfold LD.raw;split
 ·refine⟨λs hs=>?_,Zs,Zs⟩
  obtain rfl:=Ycd.1 hs;exact Zmo ⟨Zd,Zd⟩
 ·rename_i hn
  refine⟨λs hs=>?_,?_,?_⟩
  ·obtain⟨x,hx,rfl⟩:=Ydl.1 hs
   exact SD.srf_ok (h.surfs x (Yfu hx))
  ·have:=List.length_pos_iff.2 hn
   simp only[Ybt,Ycq];omega
  ·simp only[Ybt,Ycq];omega
theorem LD.st_lt {d:LD} (h:d.ok):d.st<d.raw.length:=by
 have h1:=(LD.raw_ok h).2.1;unfold LD.st;have h2:=Ybu d.stop (show(0:Int)<d.raw.length by omega);have h3:=Ycc d.stop (show(d.raw.length:Int)≠0 by omega);omega
theorem LD.front_ok {d:LD} (h:d.ok):(∀s∈d.front,s.ok)∧d.front.length=d.raw.length∧(d.front.getD d.st (stdS 0)).kind≠3:=by
 have hr:=LD.raw_ok h;have hs:=LD.st_lt h;unfold LD.front;split
 ·refine⟨λs hs'=>?_,Zs,?_⟩
  ·rcases Ygf hs' with hs'|rfl
   ·exact hr.1 s hs'
   ·refine Zmo (hr.1 _ ?_).thick
    rw[Yac,Yao hs];exact Ybw hs
  ·rw[Yac,List.getElem?_set_self hs]
   show(1:Int)≠3;decide
 ·rename_i hk
  exact⟨hr.1,rfl,hk⟩
theorem LD.srfs_ok {d:LD} (h:d.ok):(∀s∈d.srfs,s.ok)∧d.srfs.length=d.raw.length+1∧d.srfs[d.raw.length]? = some (imgS (1000*d.image))∧∃s,d.srfs[d.st]? = some s∧s.kind≠3:=by
 obtain⟨h1,h2,h3⟩:=LD.front_ok h;have hs:=LD.st_lt h;unfold LD.srfs;refine⟨λs hs'=>?_,by simp[h2],?_,?_⟩
 ·rcases Ycn.1 hs' with hs'|hs'
  ·exact h1 s hs'
  ·obtain rfl:=Ycd.1 hs'
   obtain⟨i1,i2⟩:=h.image;exact Zw2 ⟨Zo,Zo⟩
 ·rw[Ybc Zo,h2,Ydt]
  rfl
 ·rw[Ybb Zo]
  refine⟨_,Yao Zo,?_⟩;rw[Yac,Yao Zo]at h3;exact h3
end Go.Mono
namespace Go.Proofs.W
open Go.RowKit Go.Mono
theorem Zwy (a0 a1 a2 a3:Int) (h0:In 1000000000 a0) (h1:In 1000000000 a1) (h2:In 1000000000 a2) (h3:In 1000000000 a3) :
  ∃b,∀w:World,(binOp .eql 83 (.agg #[.int .i64 a0,.int .i64 a1,.int .i64 a2,.int .i64 a3]) (.agg #[.int .i64 0,.int .i64 0,.int .i64 0,.int .i64 0])).run Tryz.prog w=.ok (.bool b) w:=by
 have c3:Tryz.prog.cellsOf 3=1:=Zk;have w0:(Lit.int .i64 0).wf=true:=Zd;have k0:(Lit.int .i64 a0).wf=true:=Zcf h0 Zo;have k1:(Lit.int .i64 a1).wf=true:=Zcf h1 Zo;have k2:(Lit.int .i64 a2).wf=true:=Zcf h2 Zo;have k3:(Lit.int .i64 a3).wf=true:=Zcf h3 Zo;have c91:Tryz.prog.cellsOf 83=4:=Zk;have c49:Tryz.prog.cellsOf 45=2:=Zk;have e1:Tryz.prog.keyLits 6 83 [.int .i64 a0,.int .i64 a1,.int .i64 a2,.int .i64 a3]=some [.int .i64 a0,.int .i64 a1,.int .i64 a2,.int .i64 a3]:=by
  simp[Program.keyLits,Tryz.underlying83,Ydo, *]
 have e2:Tryz.prog.keyLits 6 83 [.int .i64 0,.int .i64 0,.int .i64 0,.int .i64 0]=some [.int .i64 0,.int .i64 0,.int .i64 0,.int .i64 0]:=by
  simp[Program.keyLits,Tryz.underlying83,Ydo, *]
 by_cases hP:([.int .i64 a0,.int .i64 a1,.int .i64 a2,.int .i64 a3]:List Lit)=[.int .i64 0,.int .i64 0,.int .i64 0,.int .i64 0]
 ·refine⟨true,λw=>?_⟩
  obtain⟨r,g1,g2⟩:=run_equalIn_deep (P:=Tryz.prog) 9995 5 83 Zk w 6 6 (.agg #[.int .i64 a0,.int .i64 a1,.int .i64 a2,.int .i64 a3]) (.agg #[.int .i64 0,.int .i64 0,.int .i64 0,.int .i64 0]) _ _ Zk Zk e1 e2;obtain rfl:r=true:=g2.2 hP;rw[run_eql_struct,show(10000:Nat)=9995+5 from rfl,g1];rfl
 ·refine⟨false,λw=>?_⟩
  obtain⟨r,g1,g2⟩:=run_equalIn_deep (P:=Tryz.prog) 9995 5 83 Zk w 6 6 (.agg #[.int .i64 a0,.int .i64 a1,.int .i64 a2,.int .i64 a3]) (.agg #[.int .i64 0,.int .i64 0,.int .i64 0,.int .i64 0]) _ _ Zk Zk e1 e2;cases r with
  | true=>exact absurd (g2.1 rfl) hP
  | false =>
    rw[run_eql_struct,show(10000:Nat)=9995+5 from rfl,g1];rfl
theorem Zwz (a0 a1:Int) (h0:In 1000000000 a0) (h1:In 1000000000 a1) :
  ∃b,∀w:World,(binOp .eql 45 (.agg #[.int .i64 a0,.int .i64 a1]) (.agg #[.int .i64 0,.int .i64 0])).run Tryz.prog w=.ok (.bool b) w:=by
 have c3:Tryz.prog.cellsOf 3=1:=Zk;have w0:(Lit.int .i64 0).wf=true:=Zd;have k0:(Lit.int .i64 a0).wf=true:=Zcf h0 Zo;have k1:(Lit.int .i64 a1).wf=true:=Zcf h1 Zo;have c91:Tryz.prog.cellsOf 83=4:=Zk;have c49:Tryz.prog.cellsOf 45=2:=Zk;have e1:Tryz.prog.keyLits 6 45 [.int .i64 a0,.int .i64 a1]=some [.int .i64 a0,.int .i64 a1]:=by
  simp[Program.keyLits,Tryz.underlying45,Ydo, *]
 have e2:Tryz.prog.keyLits 6 45 [.int .i64 0,.int .i64 0]=some [.int .i64 0,.int .i64 0]:=by
  simp[Program.keyLits,Tryz.underlying45,Ydo, *]
 by_cases hP:([.int .i64 a0,.int .i64 a1]:List Lit)=[.int .i64 0,.int .i64 0]
 ·refine⟨true,λw=>?_⟩
  obtain⟨r,g1,g2⟩:=run_equalIn_deep (P:=Tryz.prog) 9995 5 45 Zk w 6 6 (.agg #[.int .i64 a0,.int .i64 a1]) (.agg #[.int .i64 0,.int .i64 0]) _ _ Zk Zk e1 e2;obtain rfl:r=true:=g2.2 hP;rw[run_eql_struct,show(10000:Nat)=9995+5 from rfl,g1];rfl
 ·refine⟨false,λw=>?_⟩
  obtain⟨r,g1,g2⟩:=run_equalIn_deep (P:=Tryz.prog) 9995 5 45 Zk w 6 6 (.agg #[.int .i64 a0,.int .i64 a1]) (.agg #[.int .i64 0,.int .i64 0]) _ _ Zk Zk e1 e2;cases r with
  | true=>exact absurd (g2.1 rfl) hP
  | false =>
    rw[run_eql_struct,show(10000:Nat)=9995+5 from rfl,g1];rfl
theorem Zmn (b:Bool) (kind curv conic curvx conicx a0 a1 a2 a3 p0 p1 order thick semi hole dx dy ax ay az:Int) (glass:ByteArray) (p:Option Addr) (n c:Nat) (w:World)
  (h4:∃b,∀w:World,(binOp .eql 83 (.agg #[.int .i64 a0,.int .i64 a1,.int .i64 a2,.int .i64 a3]) (.agg #[.int .i64 0,.int .i64 0,.int .i64 0,.int .i64 0])).run Tryz.prog w=.ok (.bool b) w)
  (h2:∃b,∀w:World,(binOp .eql 45 (.agg #[.int .i64 p0,.int .i64 p1]) (.agg #[.int .i64 0,.int .i64 0])).run Tryz.prog w=.ok (.bool b) w)
  (hk:kind=1∧curvx=0∧conicx=0∧dx=0∧dy=0∧ax=0∧ay=0∧az=0∧(order=0∧p0=0∧p1=0∨order≠0∧glass≠mirror)∨kind=2∧a0=0∧a1=0∧a2=0∧a3=0∧p0=0∧p1=0∧order=0∧dx=0∧dy=0∧ax=0∧ay=0∧az=0∨
   kind=3∧curvx=0∧conicx=0∧a0=0∧a1=0∧a2=0∧a3=0∧p0=0∧p1=0∧order=0∧glass = {data:=#[]}∧n=0∧curv=0∧conic=0∧semi=0∧hole=0∨
   kind=4∧curvx=0∧conicx=0∧a0=0∧a1=0∧a2=0∧a3=0∧p0=0∧p1=0∧order=0∧dx=0∧dy=0∧ax=0∧ay=0∧az=0∧glass = {data:=#[]}∧n=0∧conic=0)
  (hsm:∀W,Below w.heap.size w W->Calls Tryz.prog 181 #[.agg #[.int .i64 kind,.int .i64 curv,.int .i64 conic,.int .i64 curvx,.int .i64 conicx,.int .i64 a0,.int .i64 a1,.int .i64 a2,.int .i64 a3,.int .i64 p0,.int .i64 p1,.int .i64 order,.int .i64 thick,.string glass,.int .i64 semi,.int .i64 hole,.int .i64 dx,.int .i64 dy,.int .i64 ax,.int .i64 ay,.int .i64 az,.slice p n c]] W λe w'=>e=.returned (.bool b)∧Below W.heap.size W w') :
  Calls Tryz.prog 151 #[.agg #[.int .i64 kind,.int .i64 curv,.int .i64 conic,.int .i64 curvx,.int .i64 conicx,.int .i64 a0,.int .i64 a1,.int .i64 a2,.int .i64 a3,.int .i64 p0,.int .i64 p1,.int .i64 order,.int .i64 thick,.string glass,.int .i64 semi,.int .i64 hole,.int .i64 dx,.int .i64 dy,.int .i64 ax,.int .i64 ay,.int .i64 az,.slice p n c]] w λe w'=>e=.returned (.bool b)∧Below w.heap.size w w':=by
 obtain⟨b4,h4⟩:=h4;obtain⟨b2,h2⟩:=h2;have hi:(Tryz.prog.info? 115).map (·.size)=some 22:=Zk;have h92:∀w:World,(binOp .eql 83 (.agg #[.int .i64 0,.int .i64 0,.int .i64 0,.int .i64 0]) (.agg #[.int .i64 0,.int .i64 0,.int .i64 0,.int .i64 0])).run Tryz.prog w=.ok (.bool true) w:=λw=>Zk;have h49:∀w:World,(binOp .eql 45 (.agg #[.int .i64 0,.int .i64 0]) (.agg #[.int .i64 0,.int .i64 0])).run Tryz.prog w=.ok (.bool true) w:=λw=>Zk;replace hk:=Yah hk;go_enter Tryz.func151,Tryz.ntmps151
 go_step
 go_step
 go_step
 go_step
 go_step
 go_step
 go_step
 go_step
 go_step
 go_step
 go_step
 go_step
 go_step
 go_step
 go_step
 refine Zdl λW hB hsz bS=>?_;refine Zac rfl 115 _ rfl w.heap.size rfl 115 _ bS _ Tryz.underlying115 rfl hi ?_;go_wp2_with fail
 refine(hsm W hB).mono ?_;rintro e W1 ⟨rfl,hb⟩;replace hB:=Zaa hB hb;replace bS:=bS.below hb;have lS:=bS.lt;have cS:=bS.cell;clear hsm hi bS hb hsz;cases b with
 | false =>
   go_wp2
   go_ret
   exact⟨rfl,hB⟩
 | true =>
   rcases hk.out with ⟨rfl,rfl,rfl,rfl,rfl,rfl,rfl,rfl,⟨rfl,rfl,rfl⟩|⟨ho,hg⟩⟩|⟨rfl,rfl,rfl,rfl,rfl,rfl,rfl,rfl,rfl,rfl,rfl,rfl,rfl⟩|⟨rfl,rfl,rfl,rfl,rfl,rfl,rfl,rfl,rfl,rfl,rfl,rfl,rfl,rfl,rfl,rfl⟩|⟨rfl,rfl,rfl,rfl,rfl,rfl,rfl,rfl,rfl,rfl,rfl,rfl,rfl,rfl,rfl,rfl,rfl,rfl⟩
   ·clear h2
    cases b4<;>(go_wp2;all_goals (go_ret;exact⟨rfl,hB⟩))
   ·have hg':(glass.toList==[77,73,82,82,79,82])=false:=beq_eq_false_iff_ne.2 λe=>hg (by
     have:glass.data.toList=[77,73,82,82,79,82]:=by rw[<-e];simp[Ycs]
     cases glass with
     | mk d =>
       simp only[mirror,Ydw];apply Yfo;simpa using this)
    clear hg;cases b4<;>cases b2<;>(go_wp2;all_goals (go_ret;exact⟨rfl,hB⟩))
   ·clear h4 h2
    go_wp2
    all_goals (go_ret;exact⟨rfl,hB⟩)
   ·clear h4 h2
    go_wp2
    all_goals (go_ret;exact⟨rfl,hB⟩)
   ·clear h4 h2
    go_wp2
    all_goals (go_ret;exact⟨rfl,hB⟩)
theorem Zpk {s:Srf} (hs:s.core) :
  s.kind=1∧s.curvx=0∧s.conicx=0∧s.dx=0∧s.dy=0∧s.ax=0∧s.ay=0∧s.az=0∧(s.order=0∧s.p0=0∧s.p1=0∨s.order≠0∧s.glass≠mirror)∨s.kind=2∧s.a0=0∧s.a1=0∧s.a2=0∧s.a3=0∧s.p0=0∧s.p1=0∧s.order=0∧s.dx=0∧s.dy=0∧s.ax=0∧s.ay=0∧s.az=0∨
   s.kind=3∧s.curvx=0∧s.conicx=0∧s.a0=0∧s.a1=0∧s.a2=0∧s.a3=0∧s.p0=0∧s.p1=0∧s.order=0∧s.glass = {data:=#[]}∧s.co.length=0∧s.curv=0∧s.conic=0∧s.semi=0∧s.hole=0∨
   s.kind=4∧s.curvx=0∧s.conicx=0∧s.a0=0∧s.a1=0∧s.a2=0∧s.a3=0∧s.p0=0∧s.p1=0∧s.order=0∧s.dx=0∧s.dy=0∧s.ax=0∧s.ay=0∧s.az=0∧s.glass = {data:=#[]}∧s.co.length=0∧s.conic=0:=by
 have hk:=hs.kept;have k1:=hs.k1;have k2:=hs.k2;clear hs;obtain⟨kind,curv,conic,curvx,conicx,a0,a1,a2,a3,p0,p1,order,thick,glass,semi,hole,dx,dy,ax,ay,az,co⟩:=s;simp only at k1 k2;rcases(by omega:kind=1∨kind=2∨kind=3∨kind=4) with rfl|rfl|rfl|rfl
 ·left
  by_cases h0:order=0
  ·subst h0
   simp[Srf.kept]at hk;obtain⟨rfl,rfl,rfl,rfl,rfl,rfl,rfl,rfl,rfl⟩:=hk;simp
  ·by_cases hg:glass=mirror
   ·subst hg
    simp[Srf.kept,h0]at hk;exact absurd hk.2.2.2.2.1.symm h0
   ·simp[Srf.kept,h0,hg]at hk
    obtain⟨rfl,rfl,rfl,rfl,rfl,rfl,rfl⟩:=hk;simp[h0,hg]
 ·simp[Srf.kept]at hk
  obtain⟨rfl,rfl,rfl,rfl,rfl,rfl,rfl,rfl,rfl,rfl,rfl,rfl⟩:=hk;simp
 ·simp[Srf.kept]at hk
  obtain⟨rfl,rfl,rfl,rfl,rfl,rfl,rfl,rfl,rfl,rfl,rfl,rfl,rfl,rfl,rfl⟩:=hk;simp
 ·simp[Srf.kept]at hk
  obtain⟨rfl,rfl,rfl,rfl,rfl,rfl,rfl,rfl,rfl,rfl,rfl,rfl,rfl,rfl,rfl,rfl,rfl⟩:=hk;simp
theorem Zfy (s:Srf) (hs:s.core) (p:Option Addr) (c:Nat) (w:World) (hco:CoatAt w p c s.co) :
  Calls Tryz.prog 151 #[.agg (s.cs p c)] w λe w'=>e=.returned (.bool (decide s.ring))∧Below w.heap.size w w':=
 Zmn (decide s.ring) s.kind s.curv s.conic s.curvx s.conicx s.a0 s.a1 s.a2 s.a3 s.p0 s.p1 s.order s.thick s.semi s.hole s.dx s.dy s.ax s.ay s.az s.glass p s.co.length c w (Zwy _ _ _ _ hs.a0 hs.a1 hs.a2 hs.a3) (Zwz _ _ hs.p0 hs.p1) (Zpk hs)
  λW hW=>Zk6 s hs p c W (hco.below hW)
theorem Zcv (s:Srf) (hs:s.ok) (p:Option Addr) (c:Nat) (w:World) (hco:CoatAt w p c s.co) :
  Calls Tryz.prog 151 #[.agg (s.cs p c)] w λe w'=>e=.returned (.bool true)∧Below w.heap.size w w':=by
 have h:=Zfy s hs.core p c w hco;rwa [decide_eq_true hs.toRing]at h
end Go.Proofs.W
namespace Go.Mono
theorem Zfr {l:List Srf}:∀(r done:List Chg),madeS l done≠none->madeS l (dConf l done r)≠none
 | [],done,h=>by unfold dConf;exact h
 | c :: r, done, h => by
   unfold dConf;split
   ·rename_i hs
    exact Zfr r _ λe=>by rw[e]at hs;cases hs
   ·exact Zfr r _ h
theorem Ze7 {l:List Srf}:∀(r done:List Chg),(dConf l done r).length<=done.length+r.length
 | [],done=>by unfold dConf;simp
 | c :: r, done => by
   unfold dConf;split
   ·have:=Ze7 (l:=l) r (done++[c])
    simp only[Yay,Ybm,Ydf]at this ⊢;omega
   ·have:=Ze7 (l:=l) r done
    simp only[Ybm];omega
theorem Ze8 {l:List Srf}:∀(r done:List Chg) (x:Chg),x∈dConf l done r->x∈done∨x∈r
 | [],done,x,h=>by unfold dConf at h;exact .inl h
 | c :: r, done, x, h => by
   unfold dConf at h;split at h
   ·rcases Ze8 r _ x h with h|h
    ·rcases Ycn.1 h with h|h
     ·exact .inl h
     ·exact .inr (by rw[Ycd.1 h];exact Ycl ..)
    ·exact .inr (Ybs _ h)
   ·rcases Ze8 r _ x h with h|h
    ·exact .inl h
    ·exact .inr (Ybs _ h)
theorem LD.fieldM_in {d:LD} {z:Int} (hz:U8 z):In (if d.farM=0 then 1000000 else 1000000000) (d.fieldM z).1∧In (if d.farM=0 then 1000000 else 1000000000) (d.fieldM z).2:=by
 obtain⟨h0,h1⟩:=hz;unfold LD.fieldM;by_cases h:d.farM=0
 ·rw[if_pos h,if_neg Zo]
  exact⟨⟨by dsimp only;omega,by dsimp only;omega⟩,⟨by dsimp only;omega,by dsimp only;omega⟩⟩
 ·rw[if_neg h]
  split
  ·exact⟨⟨by dsimp only;omega,by dsimp only;omega⟩,⟨by dsimp only;omega,by dsimp only;omega⟩⟩
  ·exact⟨⟨by dsimp only;omega,by dsimp only;omega⟩,⟨by dsimp only;omega,by dsimp only;omega⟩⟩
theorem LD.fieldsM_in {d:LD} (hu:∀z∈d.fields,U8 z):∀k,k<=d.fields.length->∀f∈d.fieldsM k,In (if d.farM=0 then 1000000 else 1000000000) f.1∧In (if d.farM=0 then 1000000 else 1000000000) f.2
 | 0, _, f, hf => by
   obtain rfl:=Ycd.1 hf;have:(0:Int)<=if d.farM=0 then 1000000 else 1000000000:=by split<;>decide
   exact⟨⟨by dsimp only;omega,by dsimp only;omega⟩,⟨by dsimp only;omega,by dsimp only;omega⟩⟩
 | k + 1, hk, f, hf => by
   unfold LD.fieldsM at hf;split at hf
   ·exact LD.fieldsM_in hu k Zo f hf
   ·rcases Ycn.1 hf with hf|hf
    ·exact LD.fieldsM_in hu k Zo f hf
    ·rw[Ycd.1 hf]
     exact LD.fieldM_in (hu _ (by rw[Yac,Yao Zo];exact Ybw Zo))
theorem LD.fieldsM_nodup {d:LD}:∀k,(d.fieldsM k).Nodup
 | 0=>by simp[LD.fieldsM]
 | k + 1 => by
   unfold LD.fieldsM;split
   ·exact LD.fieldsM_nodup k
   ·rename_i h
    rw[List.nodup_append];exact⟨LD.fieldsM_nodup k,Zs,λa ha b hb e=>h (by rw[<-Ycd.1 hb,<-e];exact ha)⟩
end Go.Mono
namespace Go.Proofs.W
open Go.RowKit Go.Mono
theorem Zsw {v:Value} {a:Nat} (w:World) (h:LgV 600 w v a) :
  Calls Tryz.prog 160 #[v] w λe w'=>∃v',e=.returned (.tuple #[v',.int .i64 0])∧LgV 600 w' v' (rtN a)∧Below w.heap.size w w':=by
 have q1:=λ(X:World) (hX:Ext w X)=>Zcr X (h.ext hX);have q2:=λ(X:World) (hX:Ext w X)=>Zsv X (h.ext hX) (Yab _);have hv:∃p n c,v=.agg #[.bool false,.slice p n c]:=by
  obtain⟨p,n,c,f,rfl,s1,d1,e1,l1⟩:=h;exact⟨p,n,c,by rw[decide_eq_false Zo]⟩
 obtain⟨p,n,c,rfl⟩:=hv;go_enter Tryz.func160,Tryz.ntmps160
 go_wp2_with first|(refine Zbm (T0:=49) λW hB hs b0 b1=>?_)|(refine Zac rfl 49 (.tmp 1) rfl w.heap.size rfl 49 #[.bool false,.slice p n c] b0 _ Tryz.underlying49 rfl Zae ?_)
 refine(q1 W (.of_below hB)).mono ?_;rintro e W1 ⟨rfl,hb⟩;replace hB:=Zaa hB hb;replace b0:=b0.below hb;replace b1:=b1.below hb;have c0:=b0.cell 0;have l0:=b0.lt;go_wp2_with (refine Zac rfl 49 (.tmp 1) rfl w.heap.size rfl 49 #[.bool false,.slice p n c] b0 _ Tryz.underlying49 rfl Zae ?_)
 refine(q2 W1 (.of_below hB)).mono ?_;rintro e W2 ⟨v',rfl,hr,hb2⟩;obtain⟨sr,pr,nr,cr,rfl⟩:=hr.parts;replace hB:=Zaa hB hb2;replace b1:=b1.below hb2;clear q1 q2 b0 c0 l0;go_wp2_with (refine Zab rfl 49 _ _ rfl (w.heap.size+1) 0 49 _ #[.bool sr,.slice pr nr cr] #[.bool sr,.slice pr nr cr] rfl rfl b1 Zae (Yaa rfl) (Zal _ _ _ _) (Zaf rfl) ?_;intro W3 hk b3)
 have hB3:=hk.below hB (Nat.le_succ _) hB.size;exact bodyPost_ret (b3.resultsT rfl _ _ rfl Tryz.underlying49 rfl Zae) rfl ⟨_,rfl,hr.ext (hk.ext b1 Zd),hB3⟩
theorem Zu6 {v:Value} {z:Nat} (w:World) (h:LgV 600 w v z) (hz:z<1000000000) :
  Calls Tryz.prog 161 #[v] w λe w'=>e=.returned (.tuple #[.int .i64 (z:Int),.int .i64 0])∧Below w.heap.size w w':=by
 have q1:=λ(X:World) (hX:Ext w X)=>Zcr X (h.ext hX);have q2:=λ(X:World) (hX:Ext w X) {m:Nat} {u:Value} {y:Int} (hu:LgV m X u y)=>Zft X (h.ext hX) hu
 have h1 : LgV 1 w v z := h.tight (by have : pw 1 = 1000000000 := by decide
                                      omega)
 obtain⟨p,n,c,f,rfl,s1,d1,e1,l1⟩:=h1;rw[decide_eq_false (show ¬(z:Int)<0 by omega)]at *;obtain⟨hc1,hn1,hx1⟩:=s1.opens;have hn01:n=0∨n=1:=Zo;have hval:n=0->z=0:=λe=>by subst e;simp[vf]at e1;omega
 have hval1:n=1->(z:Int)=f 0:=λe=>by subst e;simp[vf,pw]at e1;omega
 clear h s1 d1 e1;go_enter Tryz.func161,Tryz.ntmps161
 go_wp2_with first|(refine Zdl (T0:=49) λW hB hs b0=>?_)|(refine Zac rfl 49 (.tmp 1) rfl w.heap.size rfl 49 #[.bool false,.slice p n c] b0 _ Tryz.underlying49 rfl Zae ?_)
 refine(q1 W (.of_below hB)).mono ?_;rintro e W1 ⟨rfl,hb⟩;replace hB:=Zaa hB hb;replace b0:=b0.below hb;clear q1 hb;go_wp2_with fail
 refine(Zea (-9223372036854775808) W1 Zd Zd).mono ?_;rintro e W2 ⟨v2,rfl,hv2,hb2⟩;obtain⟨L,hL,hv2⟩:∃L:Int,L<0∧LgV 3 W2 v2 L:=⟨_,Zd,hv2⟩
 obtain⟨s2,p2,n2,c2,rfl⟩:=hv2.parts;replace b0:=b0.below hb2;replace hB:=Zaa hB hb2;go_wp2_with fail
 refine(Zea 9223372036854775807 W2 Zd Zd).mono ?_;rintro e W3 ⟨v3,rfl,hv3,hb3⟩;obtain⟨M,hM,hv3⟩:∃M:Int,1000000000<M∧LgV 3 W3 v3 M:=⟨_,Zd,hv3⟩
 obtain⟨s3,p3,n3,c3,rfl⟩:=hv3.parts;replace b0:=b0.below hb3;replace hv2:=hv2.below hb3;replace hB:=Zaa hB hb3;clear hb2 hb3;go_wp2_with (refine Zcc 49 4 5 _ _ #[.bool s2,.slice p2 n2 c2] #[.bool s3,.slice p3 n3 c3] _ rfl rfl rfl rfl rfl rfl rfl rfl rfl rfl rfl rfl Zbw (by as_aux_lemma=>(intro _ _;kernel_rfl)) (by as_aux_lemma=>(intro _ _;kernel_rfl)) (by as_aux_lemma=>(intro _ _;kernel_rfl)) (by as_aux_lemma=>(intro _ _;kernel_rfl)) Zae rfl rfl (Zal _ _ _ _) (Zal _ _ _ _) ?_;intro W4 B4 B5 _ _ _ hB4 b4 b5;replace b0:=b0.below hB4;go_wp2_with first|(refine Zac rfl 49 (.tmp 1) rfl w.heap.size Zx 49 #[.bool false,.slice p n c] b0 _ Tryz.underlying49 rfl Zae ?_)|(refine Zac rfl 49 (.tmp 4) rfl B4 Zx 49 #[.bool s2,.slice p2 n2 c2] b4 _ Tryz.underlying49 rfl Zae ?_))
 replace hv2:=hv2.below hB4;replace hv3:=hv3.below hB4;replace hB:=Zaa hB hB4;refine(q2 W4 (.of_below hB) hv2).mono ?_;rintro e W5 ⟨rfl,hb5⟩;replace b0:=b0.below hb5;replace b5:=b5.below hb5;replace hv3:=hv3.below hb5;replace hB:=Zaa hB hb5;have hsg1:¬((z:Int)-L).sign<0:=by rw[Yeg Zo];decide
 generalize ((z:Int)-L).sign=g1 at *;clear hb5 hB4 b4 hv2;have cb0:=b0.cell;have lb0:=b0.lt;have fb0:=b0.frozen;have cb5:=b5.cell;have lb5:=b5.lt;have fb5:=b5.frozen;go_wp2_with fail
 refine(q2 W5 (.of_below hB) hv3).mono ?_;rintro e W6 ⟨rfl,hb6⟩;replace b0:=b0.below hb6;replace hB:=Zaa hB hb6;have hsg2:¬0<((z:Int)-M).sign:=by rw[Yep Zo];decide
 generalize ((z:Int)-M).sign=g2 at *;clear hb6 b5 cb5 lb5 fb5 cb0 lb0 fb0 hv3 q2;have cb0:=b0.cell;have lb0:=b0.lt;have fb0:=b0.frozen;rcases hn01 with rfl|rfl
 ·have hz0:=hval rfl
  subst hz0;clear hx1 hval hval1;go_wp2_with fail
  go_loopw [6,7] (λx y wr=>x=.int .i64 0∧y=.int .i64 (-1)∧wr=W6) (λ_ _ _=>0)
  case atStart=>exact⟨rfl,rfl,rfl⟩
  case round=>
   obtain⟨rfl,rfl,rfl⟩:=hrel;go_wp2
   go_ret2
   exact⟨rfl,hB⟩
 ·have hz1:=hval1 rfl
  obtain⟨b,off,rfl,hb,hcell⟩:=hx1 Zd;have x0:W6.cell? ⟨b,off,none⟩=some (.int .i64 (z:Int)):=by rw[hz1];simpa using(hB.cell (p:=⟨b,off+0,none⟩) hb).trans (hcell 0 Zd)
  clear hcell hval hval1 hz1;go_wp2_with fail
  go_loopw [6,7] (λx y wr=>((x=.int .i64 0∧y=.int .i64 0)∨(x=.int .i64 (z:Int)∧y=.int .i64 (-1)))∧wr=W6) (λ_ y _=>(intOf y+1).toNat)
  case atStart=>exact⟨.inl ⟨rfl,rfl⟩,rfl⟩
  case round=>
   obtain⟨⟨rfl,rfl⟩|⟨rfl,rfl⟩,rfl⟩:=hrel
   ·go_wp2
    go_roundw
    case rel=>exact⟨.inr ⟨Zs,Zs⟩,Zs⟩
    case measure=>simp[intOf]
   ·go_wp2
    go_ret2
    exact⟨rfl,hB⟩
theorem Zsx {v1 v2:Value} {z y:Int} (w:World) (h1:LgV 600 w v1 z) (h2:LgV 600 w v2 y) (hz:0<=z) (hy:0<y) :
  Calls Tryz.prog 186 #[v1,v2] w λe w'=>∃v,e=.returned v∧LgV 600 w' v (z/y)∧Below w.heap.size w w':=by
 have q1:=λ(X:World) (hX:Ext w X)=>Zcq X (h1.ext hX) (h2.ext hX) (show y≠0 by omega) Zd Zd;have e1:z.tdiv y=z/y:=Ybk hz;have e2:¬z.tmod y<0:=by have:=Int.tmod_nonneg y hz;omega
 rw[e1]at q1;obtain⟨s1,p1,n1,c1,rfl⟩:=h1.parts;obtain⟨s2,p2,n2,c2,rfl⟩:=h2.parts;go_enter Tryz.func186,Tryz.ntmps186
 go_wp2_with fail
 refine Zbk λW hB hs b0 b1 b2=>?_;refine(q1 W (.of_below hB)).mono ?_;rintro e W1 ⟨vq,vr,rfl,hq,hr,hb⟩;obtain⟨sq,pq,nq,cq,rfl⟩:=hq.parts;have hr':∃pr nr cr,vr=.agg #[.bool false,.slice pr nr cr]:=by
  obtain⟨pr,nr,cr,f,rfl,_⟩:=hr;exact⟨pr,nr,cr,by rw[decide_eq_false Zo]⟩
 obtain⟨pr,nr,cr,rfl⟩:=hr';replace hB:=Zaa hB hb;replace b2:=b2.below hb;clear q1 hr b0 b1 hb;go_wp2_with (refine Zcc 49 5 6 _ _ #[.bool sq,.slice pq nq cq] #[.bool false,.slice pr nr cr] _ rfl rfl rfl rfl rfl rfl rfl rfl rfl rfl rfl rfl Zbw (by as_aux_lemma=>(intro _ _;kernel_rfl)) (by as_aux_lemma=>(intro _ _;kernel_rfl)) (by as_aux_lemma=>(intro _ _;kernel_rfl)) (by as_aux_lemma=>(intro _ _;kernel_rfl)) Zae rfl rfl (Zal _ _ _ _) (Zal _ _ _ _) ?_;intro W2 B5 B6 _ _ _ hB2 b5 b6;replace b2:=b2.below hB2;have c6:=b6.cell 0;have l6:=b6.lt;go_wp2_with first|(refine Zac rfl 49 (.tmp 5) rfl B5 Zx 49 #[.bool sq,.slice pq nq cq] b5 _ Tryz.underlying49 rfl Zae ?_)|(refine Zab rfl 49 _ _ rfl (w.heap.size+1+1) 0 49 _ #[.bool sq,.slice pq nq cq] #[.bool sq,.slice pq nq cq] rfl rfl b2 Zae (Yaa rfl) (Zal _ _ _ _) (Zaf rfl) ?_;intro W3 hk b3))
 have hB2':=Zaa hB hB2;have hB3:=hk.below hB2' Zo hB2'.size;exact bodyPost_ret (b3.results rfl _ _ rfl Tryz.underlying49 rfl Zae) rfl ⟨_,rfl,(hq.below hB2).ext (hk.ext b2 Zd),hB3⟩
theorem Zpx {v:Value} {q:Rat} (w:World) (h:QtV 600 w v q) (hq0:0<=q.num) :
  Calls Tryz.prog 157 #[v] w λe w'=>∃v',e=.returned (.tuple #[v',.int .i64 0])∧LgV 600 w' v' (q.num/q.den)∧Below w.heap.size w w':=by
 have q1:=λ(X:World) (hX:Ext w X)=>Zbq X (h.ext hX);obtain⟨s1,p1,n1,c1,s2,p2,n2,c2,rfl,h1,h2⟩:=h;have q2:=λ(X:World) (hX:Ext w X)=>Zsx X (h1.ext hX) (h2.ext hX) hq0 (by have:=q.den_pos;omega);go_enter Tryz.func157,Tryz.ntmps157
 go_wp2_with first|(refine Zbm (T0:=51) λW hB hs b0 b1=>?_)|(refine Zac rfl 51 (.tmp 1) rfl w.heap.size rfl 51 #[.bool s1,.slice p1 n1 c1,.bool s2,.slice p2 n2 c2] b0 _ Tryz.underlying51 rfl Zah ?_)
 refine(q1 W (.of_below hB)).mono ?_;rintro e W1 ⟨rfl,hb⟩;replace hB:=Zaa hB hb;replace b0:=b0.below hb;replace b1:=b1.below hb;have cb0:=b0.cell;have lb0:=b0.lt;have fb0:=b0.frozen;go_wp2_with fail
 refine(q2 W1 (.of_below hB)).mono ?_;rintro e W2 ⟨v2,rfl,hv2,hb2⟩;replace hB:=Zaa hB hb2;replace b1:=b1.below hb2;have hv2':=hv2;obtain⟨p3,n3,c3,f3,rfl,_,_,_,hl3⟩:=hv2';have hl3':¬(600:Int)<n3:=Zo;generalize decide (q.num/q.den<0)=s3 at *;clear q1 q2 b0 cb0 lb0 fb0;go_wp2_with (refine Zcb 49 4 _ #[.bool s3,.slice p3 n3 c3] _ rfl rfl rfl rfl rfl rfl Zbw (by as_aux_lemma=>(intro _;kernel_rfl)) (by as_aux_lemma=>(intro _;kernel_rfl)) Zae rfl (Zal _ _ _ _) ?_;intro W4 B4 _ hB4 b4;replace b1:=b1.below hB4;have c4:=b4.cell 1;have l4:=b4.lt;go_wp2_with first|(refine Zac rfl 49 (.tmp 4) rfl B4 Zx 49 #[.bool s3,.slice p3 n3 c3] b4 _ Tryz.underlying49 rfl Zae ?_)|(refine Zab rfl 49 _ _ rfl (w.heap.size+1) 0 49 _ #[.bool s3,.slice p3 n3 c3] #[.bool s3,.slice p3 n3 c3] rfl rfl b1 Zae (Yaa rfl) (Zal _ _ _ _) (Zaf rfl) ?_;intro W5 hk b5))
 have hB4':=Zaa hB hB4;have hB5:=hk.below hB4' Zo hB4'.size;exact bodyPost_ret (b5.resultsT rfl _ _ rfl Tryz.underlying49 rfl Zae) rfl ⟨_,rfl,(hv2.below hB4).ext (hk.ext b1 Zd),hB5⟩
def hasK (kind order p:Int):Bool:=
 decide (p=9) || (if kind=1 then decide (p=1) || decide (p=2) || (decide (5<=p)&&decide (p<9)) || decide (p=10) || ((decide (p=16) || decide (p=17))&&decide (order≠0))
  else if kind=2 then(decide (1<=p)&&decide (p<=4)) || decide (p=10)
  else if kind=3 then decide (11<=p)&&decide (p<=15)
  else decide (p=1) || decide (p=10))
theorem Zur (A:Array Value) (hA:A.size=22) (kind order p:Int) (k1:1<=kind) (k2:kind<=4) (g0:A[0]? = some (.int .i64 kind)) (g11:A[11]? = some (.int .i64 order)) (w:World)
  (hr:∀W,Below w.heap.size w W->Calls Tryz.prog 151 #[.agg A] W λe w'=>e=.returned (.bool true)∧Below W.heap.size W w') :
  Calls Tryz.prog 209 #[.agg A,.int .i64 p] w λe w'=>e=.returned (.bool (hasK kind order p))∧Below w.heap.size w w':=by
 have hi:(Tryz.prog.info? 115).map (·.size)=some A.size:=by rw[hA];kernel_rfl
 obtain⟨b,hb⟩:∃b,hasK kind order p=b:=⟨_,rfl⟩
 rw[hb];replace hb:=Yah hb;go_enter Tryz.func209,Tryz.ntmps209
 go_step
 go_step
 go_step
 go_step
 go_step
 go_step
 go_step
 go_step
 go_step
 go_step
 go_step
 go_step
 go_step
 go_step
 go_step
 refine Zdl λW hB hsz bS=>?_;refine Zac rfl 115 _ rfl w.heap.size rfl 115 A bS _ Tryz.underlying115 rfl hi ?_;go_wp2_with fail
 refine(hr W hB).mono ?_;rintro e W1 ⟨rfl,hb1⟩;replace hB:=Zaa hB hb1;replace bS:=bS.below hb1;have lS:=bS.lt;have f0:=(bS.cell 0).trans g0;have f11:=(bS.cell 11).trans g11;clear hr g0 g11 hA hi bS hb1 hsz;rcases(by omega:kind=1∨kind=2∨kind=3∨kind=4) with rfl|rfl|rfl|rfl
 all_goals
  go_wp2
  all_goals
   go_ret
   refine⟨?_,hB⟩;rw[<-hb.out];clear hb hB lS f0 f11;show Ending.returned (Value.bool _)=Ending.returned (Value.bool _);congr 2
   unfold hasK;simp only[beq_iff_eq,beq_eq_false_iff_ne,ne_eq]at *;rw[Ycx];simp;try omega
theorem Zn4 (s:Srf) (hs:s.ok) (p:Option Addr) (c:Nat) (k:Int) (w:World) (hco:CoatAt w p c s.co) :
  Calls Tryz.prog 209 #[.agg (s.cs p c),.int .i64 k] w λe w'=>e=.returned (.bool (hasS s k))∧Below w.heap.size w w':=
 Zur (s.cs p c) rfl s.kind s.order k hs.k1 hs.k2 rfl rfl w λW hW=>Zcv s hs p c W (hco.below hW)
section
open Go.Ex
variable {K:Nat->Value} {hK:∀i,(K i).oneCell'=true}
def cR4Sign (w0:World) (X:Nat->Prop):Ctr (qDen K hK) Tryz.prog w0 X:=.plain 183 (λargs _ orc=>match args with
    | [.agg x]=>(asQ x).map λq=>(.tup [.one (.sym q.num.sign),okV],[],orc)
    | _=>none)<|by
    intro args bk orc v obl orc' hr hobl ρ w vals hfr hb hargs;split at hr
    ·rename_i x
     obtain⟨a,ha,e⟩:=Yad.1 hr;cases e;obtain⟨v1,r1,rfl,h1,h3⟩:=hargs;obtain rfl:r1=[]:=h3;refine(Zsu w (Zeq ha h1).qt).mono ?_;rintro e w' ⟨rfl,hbl⟩;exact⟨_,rfl,⟨[_,.int .i64 0],rfl,_,_,rfl,rfl,_,_,rfl,⟨rfl,rfl⟩,rfl⟩,hbl⟩
    ·cases hr
theorem Zvn {w:World} {v:Value} {n:Nat} (h:LgV 600 w v n) (ρ:Nm):denA (qDen K hK) ρ w (.agg [.val (.bool false),.dig n]) v:=by
 obtain⟨s,p,k,c,rfl⟩:=h.parts;obtain⟨hs,hz⟩:=h.sz;subst hs;rw[decide_eq_false (show ¬(n:Int)<0 by omega)];exact⟨[.bool false,.slice p k c],rfl,[_],_,rfl,⟨rfl,rfl⟩,[_],[],rfl,⟨_,⟨⟨_,_,_,rfl⟩,by simpa using hz⟩,rfl⟩,rfl⟩
theorem Zyb {w:World} {v:Value} {n:Nat} {ρ:Nm} (h:denA (qDen K hK) ρ w (.agg [.val (.bool false),.dig n]) v):LgV 600 w v n:=by
 obtain⟨cs,rfl,c1,d1,rfl,⟨rfl,_⟩,c2,d2,rfl,⟨v2,⟨⟨p,k,c,rfl⟩,hs2⟩,rfl⟩,hd2⟩:=h;obtain rfl:d2=[]:=hd2;exact LgV.of_sz (by rw[decide_eq_false Zo]) (by simpa using hs2)
def asL (l:List U):Option Nat:=
 match l with
 | [.val (.bool false),.dig n]=>some n
 | _=>none
theorem Zvo {l:List U} {n:Nat} (h:asL l=some n) {w:World} {v:Value} {ρ:Nm} (hd:denA (qDen K hK) ρ w (.agg l) v):LgV 600 w v n:=by
 unfold asL at h;split at h
 ·cases h;exact Zyb hd
 ·cases h
def digV (n:Nat):SA:=.agg [.val (.bool false),.dig n]
def cR4Floor (w0:World) (X:Nat->Prop):Ctr (qDen K hK) Tryz.prog w0 X:=.plain 157 (λargs _ orc=>match args with
    | [.agg x]=>(asQ x).map λq=>(.tup [digV q.floor.toNat,okV],[0<=q],orc)
    | _=>none)<|by
    intro args bk orc v obl orc' hr hobl ρ w vals hfr hb hargs;split at hr
    ·rename_i x
     obtain⟨a,ha,e⟩:=Yad.1 hr;cases e;obtain⟨v1,r1,rfl,h1,h3⟩:=hargs;obtain rfl:r1=[]:=h3;have h0:0<=a.num:=Rat.num_nonneg.2 (hobl (0<=a) Zs);refine(Zpx w (Zeq ha h1).qt h0).mono ?_;rintro e w' ⟨v',rfl,hl,hbl⟩;have hf:a.num/(a.den:Int)=(a.floor.toNat:Int):=by
      rw[Rat.floor_def,Int.toNat_of_nonneg (Ydq h0 Zo)]
     rw[hf]at hl;exact⟨_,rfl,⟨[v',.int .i64 0],rfl,_,_,rfl,Zvn hl _,_,_,rfl,⟨rfl,rfl⟩,rfl⟩,hbl⟩
    ·cases hr
noncomputable def cR3Sqrt (w0:World) (X:Nat->Prop):Ctr (qDen K hK) Tryz.prog w0 X:=.plain 160 (λargs _ orc=>match args with
  | [.agg x]=>(asL x).map λ(n:Nat)=>(.tup [digV (rtN n),okV],[],orc)
  | _=>none)<|by
  intro args bk orc v obl orc' hr hobl ρ w vals hfr hb hargs;split at hr
  ·rename_i x
   obtain⟨a,ha,e⟩:=Yad.1 hr;cases e;obtain⟨v1,r1,rfl,h1,h3⟩:=hargs;obtain rfl:r1=[]:=h3;refine(Zsw w (Zvo ha h1)).mono ?_;rintro e w' ⟨v',rfl,hl,hbl⟩;exact⟨_,rfl,⟨[v',.int .i64 0],rfl,_,_,rfl,Zvn hl _,_,_,rfl,⟨rfl,rfl⟩,rfl⟩,hbl⟩
  ·cases hr
def cR3Int (w0:World) (X:Nat->Prop):Ctr (qDen K hK) Tryz.prog w0 X:=.plain 161 (λargs _ orc=>match args with
    | [.agg x]=>(asL x).map λ(n:Nat)=>(.tup [.one (.sym (n:Int)),okV],[n<1000000000],orc)
    | _=>none)<|by
    intro args bk orc v obl orc' hr hobl ρ w vals hfr hb hargs;split at hr
    ·rename_i x
     obtain⟨a,ha,e⟩:=Yad.1 hr;cases e;obtain⟨v1,r1,rfl,h1,h3⟩:=hargs;obtain rfl:r1=[]:=h3;refine(Zu6 w (Zvo ha h1) (hobl (a<1000000000) Zs)).mono ?_;rintro e w' ⟨rfl,hbl⟩;exact⟨_,rfl,⟨[_,.int .i64 0],rfl,_,_,rfl,rfl,_,_,rfl,⟨rfl,rfl⟩,rfl⟩,hbl⟩
    ·cases hr
noncomputable def spG (w0:World) (X:Nat->Prop):List (Ctr (qDen K hK) Tryz.prog w0 X):=[cR4Add sideS w0 X,cR4Mul sideS w0 X,cR4Of w0 X,cR4Div sideS w0 X,cR4Sign w0 X,cR4Floor w0 X,cR3Sqrt w0 X,cR3Int w0 X]
end
end Go.Proofs.W
