/- Contracts of package paraxial,and a verified evaluator. Part 14 of 28. No condition beside the row. -/
import Derived.Great.BuildSlice
import Derived.Test.YtfgmlkjibdegfaaGreatDoorA13
set_option linter.unusedVariables false
set_option linter.unusedSimpArgs false
set_option maxRecDepth 100000
set_option maxHeartbeats 4000000
namespace Go.Mono
def Flm.join (f g:Flm):Flm:=⟨f.ix,f.p*g.q+g.p*f.q,f.q*g.q-f.p*g.p⟩
end Go.Mono
namespace Go.Ex
open Go.RowKit Go.Mono
section
def pureOf {α:Type} (P:Program):Sem α->Option α
 | .pure a=>some a
 | .program k=>pureOf P (k P)
 | .mark _ k=>pureOf P k
 | _=>none
theorem Zdb {α:Type} {P:Program}:∀{s:Sem α} {x:α},pureOf P s=some x->∀w,s.run P w=.ok x w
 | .pure a,x,h,w=>by simp only[pureOf,Ybp]at h;subst h;rfl
 | .program k,x,h,w=>by simp only[pureOf]at h;exact Zdb h w
 | .mark _ k,x,h,w=>by simp only[pureOf]at h;exact Zdb h w
def szOf (P:Program) (t:TypeId):Option Nat:=(P.info? t).map (·.size)
def rowT (P:Program) (t:TypeId):Option Bool:=(P.underlying t).map TypeDesc.isRow
section
variable {P:Program} {w:World} {B off:Nat}
theorem Zcl {t:TypeId} {n:Nat} (h:szOf P t=some n) (w:World):(sizeOf t).run P w=.ok n w:=by
 obtain⟨i,hi,rfl⟩:=Yad.1 h;unfold sizeOf typeInfo;simp[hi]
theorem Zf2 {t:TypeId} {b:Bool} (h:rowT P t=some b) (w:World):(isAgg t).run P w=.ok b w:=by
 obtain⟨d,hd,rfl⟩:=Yad.1 h;unfold isAgg;simp only[Yar,run_underlying hd,Yag];cases d<;>rfl
theorem Zjs {s f:Nat} {fs:Array Field} {fl:Field} {n:Nat} (hs:P.underlying s=some (.struct fs)) (hf:fs[f]? = some fl) (hz:szOf P fl.type=some (n+1)) :
  (Instr.fieldAt s (.pointer (some ⟨B,off,none⟩)) f).run P w=.ok (.pointer (some ⟨B,off+fl.offset,none⟩)) w:=by
 unfold Instr.fieldAt;simp only[Yar,run_underlying hs,Yag,hf,Instr.sureAddr,Yau,fieldPlace,Zcl hz];simp[Yem]
theorem Zcm {t e len cap:Nat} {k:IntKind} {i:Int} {n:Nat} (hs:P.underlying t=some (.slice e)) (hz:szOf P e=some n) (hi:0<=i∧i<len) :
  (Instr.indexAt t (.slice (some ⟨B,off,none⟩) len cap) (.int k i)).run P w=.ok (.pointer (some ⟨B,off+i.toNat*n,none⟩)) w:=by
 unfold Instr.indexAt;simp only[Yar,asIntOf,run_underlying hs,Yag,Yau,if_pos hi,Zcl hz,Yem]
theorem Zil {t e len:Nat} {k:IntKind} {i:Int} {n:Nat} (hs:P.underlying t=some (.array len e)) (hz:szOf P e=some n) (hi:0<=i∧i<len) :
  (Instr.indexAt t (.pointer (some ⟨B,off,none⟩)) (.int k i)).run P w=.ok (.pointer (some ⟨B,off+i.toNat*n,none⟩)) w:=by
 unfold Instr.indexAt;simp only[Yar,asIntOf,run_underlying hs,Yag,Yau,Instr.sureAddr,if_pos hi,Zcl hz,Yem]
end
def fieldAddrS (P:Program) (s:TypeId) (x:Option SV) (f:Nat):Option SV:=
 match x with
 | some (.a (.one (.ptr k off))) => match P.underlying s with
   | some (.struct fs) => match fs[f]? with
     | some fl => match szOf P fl.type with
       | some (_+1)=>some (.a (.one (.ptr k (off+fl.offset))))
       | _=>none
     | none=>none
   | _=>none
 | _=>none
def indexAddrS (P:Program) (t:TypeId) (x ix:Option SV):Option SV:=
 match x,ix with
 | some (.a (.one (.ptr k off))), some (.a (.one (.val (.int _ i)))) => match P.underlying t with
   | some (.array n e) => match szOf P e with
     | some s=>if 0<=i∧i<n then some (.a (.one (.ptr k (off+i.toNat*s)))) else none
     | none=>none
   | _=>none
 | some (.a (.one (.slc k off len _))), some (.a (.one (.val (.int _ i)))) => match P.underlying t with
   | some (.slice e) => match szOf P e with
     | some s=>if 0<=i∧i<len then some (.a (.one (.ptr k (off+i.toNat*s)))) else none
     | none=>none
   | _=>none
 | some (.a (.one (.sli k off len))), some (.a (.one (.val (.int _ i)))) => match P.underlying t with
   | some (.slice e) => match szOf P e with
     | some s=>if 0<=i∧i<len then some (.a (.one (.ptr k (off+i.toNat*s)))) else none
     | none=>none
   | _=>none
 | some (.a (.one (.own k len _))), some (.a (.one (.val (.int _ i)))) => match P.underlying t with
   | some (.slice e) => match szOf P e with
     | some s=>if 0<=i∧i<len then some (.a (.one (.ptr k (i.toNat*s)))) else none
     | none=>none
   | _=>none
 | some (.a (.one (.slx k off m _))), some (.a (.one (.val (.int _ i)))) => match P.underlying t with
   | some (.slice e) => match szOf P e with
     | some s=>if 0<=i∧i<m then some (.a (.one (.ptr k (off+i.toNat*s)))) else none
     | none=>none
   | _=>none
 | _,_=>none
def partS (P:Program) (t:TypeId) (l:List U) (off:Nat):Option SV:=
 match rowT P t,szOf P t with
 | some true,some n=>(subX l off n).map λm=>.a (.agg m)
 | some false, some _ => match subX l off 1 with
   | some [u]=>some (.a (.one u))
   | _=>none
 | _,_=>none
def fieldS (P:Program) (t:TypeId) (x:Option SV) (f:Nat):Option SV:=
 match x with
 | some (.a (.agg l)) => match P.underlying t with
   | some (.struct fs) => match fs[f]? with
     | some fl=>partS P fl.type l fl.offset
     | none=>none
   | _=>none
 | _=>none
def indexS (P:Program) (t:TypeId) (x ix:Option SV):Option SV:=
 match x,ix with
 | some (.a (.agg l)), some (.a (.one (.val (.int _ i)))) => match P.underlying t with
   | some (.array n e) => match szOf P e with
     | some s=>if 0<=i∧i<n then partS P e l (i.toNat*s) else none
     | none=>none
   | _=>none
 | _,_=>none
section
variable {D:Den} {P:Program} {ρ:Nm} {wc w:World}
theorem Zmr {t:TypeId} {l:List U} {off:Nat} {x:SV} {cs:List Value} (h:partS P t l off=some x) (hl:denL D ρ wc l cs) :
  ∃v,(part t cs.toArray off).run P w=.ok v w∧denV D ρ wc x v:=by
 unfold partS at h;split at h
 ·rename_i n hr hz
  obtain⟨m,hm,rfl⟩:=Yad.1 h;obtain⟨h1,h2⟩:=Zf1 hm hl;refine⟨.agg ((cs.drop off).take n).toArray,?_,_,rfl,h1⟩;unfold part;simp only[Yar,Zf2 hr,Yag,if_true,Zcl hz,Yau];congr 2
  apply Yee.1;simp[List.extract_eq_take_drop]
 ·rename_i n hr hz
  split at h
  ·rename_i u hu
   cases h;obtain⟨h1,h2⟩:=Zf1 hu hl;obtain⟨c,d,e,hc,hd⟩:=h1;obtain rfl:d=[]:=hd;rw[Ydg]at e;rw[e]at h2;obtain⟨v,rfl⟩:∃v,c=[v]:=Ydr.1 h2;refine⟨v,?_,hc⟩;have hv:cs[off]? = some v:=by
    have:=congrArg (·[0]?) e;simpa using this
   unfold part;simp only[Yar,Zf2 hr,Yag,Ybq,if_false,List.getElem?_toArray,hv,Yau]
  ·cases h
 ·cases h
end
end
end Go.Ex
namespace Go.Mono
def isLetter (z:Int):Prop:=(65<=z∧z<=90)∨(97<=z∧z<=122)∨(48<=z∧z<=57)∨z=45∨z=95
end Go.Mono
namespace Go.Proofs.W
open Go.RowKit Go.Mono
theorem Zql (z:Int) (h:isLetter z) (w:World) :
  Calls Tryz.prog 220 #[.int .u8 z] w λe w'=>e=.returned (.bool true)∧w'=w:=by
 rcases h with ⟨h1,h2⟩|⟨h1,h2⟩|⟨h1,h2⟩|rfl|rfl
 ·go_enter Tryz.func220,Tryz.ntmps220
  go_wp2
  go_ret
  exact⟨rfl,rfl⟩
 ·have h3:65<=z:=by omega
  have h4:¬(z<=90):=Zo;go_enter Tryz.func220,Tryz.ntmps220
  go_wp2
  go_ret
  exact⟨rfl,rfl⟩
 ·have h3:¬(65<=z):=by omega
  have h4:¬(97<=z):=Zo;go_enter Tryz.func220,Tryz.ntmps220
  go_wp2
  go_ret
  exact⟨rfl,rfl⟩
 ·go_enter Tryz.func220,Tryz.ntmps220
  go_wp2
  go_ret
  exact⟨rfl,rfl⟩
 ·go_enter Tryz.func220,Tryz.ntmps220
  go_wp2
  go_ret
  exact⟨rfl,rfl⟩
theorem Zqm (s:ByteArray) (h0:1<=s.size) (h1:s.size<=16) (hl:∀i (hi:i<s.size),isLetter (s[i].toNat:Int)) (w:World) :
  Calls Tryz.prog 204 #[.string s] w λe w'=>e=.returned (.bool true)∧w'=w:=by
 go_enter Tryz.func204,Tryz.ntmps204
 go_wp2
 go_loopw [6] (λa wr=>∃k:Nat,k<=s.size∧a=.int .i64 (k:Int)∧wr=w) (λa _=>(s.size-intOf a).toNat)
 case atStart=>exact⟨0,Yat _,rfl,rfl⟩
 case round=>
  obtain⟨k,hk,rfl,rfl⟩:=hrel;by_cases hks:k<s.size
  ·have hlk:=Zql _ (hl k hks) wr
   have h0':(k:Int)<s.size:=Zo;have hg:s.data[k]? = some s[k]:=by
    rw[Yby (by exact hks)];rfl
   clear hl;go_wp2_with (go_at_call 220;refine hlk.mono ?_;rintro e w' ⟨rfl,rfl⟩)
   go_roundw
   case rel=>refine⟨k+1,Zo,?_⟩;simp
   case measure=>simp[intOf];omega
  ·obtain rfl:k=s.size:=by omega
   have h0':(1:Int)<=s.size:=Zo;have h1':(s.size:Int)<=16:=Zo;go_wp2
   go_ret
   exact⟨rfl,rfl⟩
end Go.Proofs.W
namespace Go.Mono
open Go.RowKit
theorem LgV.unique {m m':Nat} {w:World} {v:Value} {z z':Int} (h:LgV m w v z) (h':LgV m' w v z'):z=z':=by
 obtain⟨p,n,c,f,rfl,s1,d1,e1,_⟩:=h;obtain⟨p',n',c',f',hv,s2,d2,e2,_⟩:=h';simp only[Value.agg.injEq,Array.mk.injEq,List.cons.injEq,Value.bool.injEq,Ydm,and_true]at hv;obtain⟨hs,rfl,rfl,rfl⟩:=hv;have hf:∀i,i<n->f i=f' i:=λi hi=>by
  obtain⟨_,_,x1⟩:=s1.opens;obtain⟨_,_,x2⟩:=s2.opens;obtain⟨b,off,hp,_,g1⟩:=x1 Zo;obtain⟨b',off',hp',_,g2⟩:=x2 Zo;rw[hp]at hp';simp only[Ybp,Addr.mk.injEq]at hp';obtain⟨rfl,rfl,_⟩:=hp';have:=g1 i hi;rw[g2 i hi]at this;simpa using this.symm
 have e:=Zbk hf;have h3:(z<0↔z'<0):=by simpa using hs
 omega
def IsVal (w:World) (B:Nat) (T:TypeId) (k:Nat):Prop:=∃C z m,Box w B T C∧LgV m w (.agg C) z∧z.natAbs=k
noncomputable def valAt (w:World) (B:Nat) (T:TypeId):Nat:=Classical.epsilon (IsVal w B T)
theorem Zgc {w:World} {B:Nat} {T:TypeId} {C:Array Value} {z:Int} {m:Nat} (hb:Box w B T C) (h:LgV m w (.agg C) z):valAt w B T=z.natAbs:=by
 obtain⟨C',z',m',hb',h',e⟩:=Classical.epsilon_spec (p:=IsVal w B T) ⟨z.natAbs,C,z,m,hb,h,rfl⟩;have hc:C'=C:=by
  have:=hb.blk.symm.trans hb'.blk;simp at this;exact this.symm
 subst hc;have:=h.unique h';subst this;exact e.symm
end Go.Mono
namespace Go.Proofs.W
open Go.RowKit Go.Mono
theorem Zcq {m1 m2:Nat} {v1 v2:Value} {z y:Int} (w:World) (h1:LgV m1 w v1 z) (h2:LgV m2 w v2 y) (hy:y≠0) (hm1:m1<=100000) (hm2:m2<=100000) :
  Calls Tryz.prog 187 #[v1,v2] w λe w'=>∃q r,e=.returned (.tuple #[q,r])∧LgV m1 w' q (z.tdiv y)∧LgV m2 w' r (z.tmod y)∧Below w.heap.size w w':=by
 obtain⟨p,n,c,f,rfl,s1,d1,e1,l1⟩:=h1;obtain⟨q,m,c',g,rfl,s2,d2,e2,l2⟩:=h2;have hm0:0<m:=d2.pos.1 Zo;obtain⟨m,rfl⟩:∃k,m=k+1:=⟨m-1,Zo⟩
 obtain⟨t1,t2,t3,t4⟩:=Zoo z y hy;refine(Zhp _ _ p q n m c c' f g w s1 s2 d1 d2 Zo Zo).mono ?_;rintro e w' ⟨p1,k1,c1,h1,p2,k2,c2,h2,rfl,hs1,hd1,hv1,hk1,hs2,hd2,hv2,hk2,hb⟩;rw[e1,e2]at hv1 hv2 ⊢;rw[t1]at hv1 ⊢;rw[t2]at hv2 ⊢;rw[t3,t4];exact⟨_,_,rfl,⟨p1,k1,c1,h1,rfl,hs1,hd1,hv1,Zo⟩,⟨p2,k2,c2,h2,rfl,hs2,hd2,hv2,Zo⟩,hb⟩
theorem Zg0 {m:Nat} {v1 v2:Value} {z y:Int} (w:World) (h1:LgV m w v1 z) (h2:LgV m w v2 y) (hm:m<=100000) :
  Calls Tryz.prog 184 #[v1,v2] w λe w'=>∃v,e=.returned v∧LgV m w' v (Int.gcd z y)∧Below w.heap.size w w':=by
 obtain⟨A0,rfl,hA0,hA0o⟩:=h1.cells;obtain⟨A1,rfl,hA1,hA1o⟩:=h2.cells;obtain⟨gz,hgz⟩:∃k,Int.gcd z y=k:=⟨_,rfl⟩
 rw[hgz];go_enter Tryz.func184,Tryz.ntmps184
 go_wp2_with fail
 refine Zfs λW hB hs b0 b1 b2=>?_;go_loopw [5,6] (λu v wr=>∃(A B:Array Value) (a b:Int),Box wr w.heap.size 52 A∧Box wr (w.heap.size+1) 52 B∧LgV m wr (.agg A) a∧LgV m wr (.agg B) b∧Int.gcd a b=gz∧Box wr (w.heap.size+1+1) 52 #[.bool false,.slice none 0 0]∧Below w.heap.size w wr∧w.heap.size+1+1+1<=wr.heap.size) (λ_ _ wr=>valAt wr (w.heap.size+1) 52)
 case atStart=>exact⟨A0,A1,z,y,b0,b1,h1.below hB,h2.below hB,hgz,b2,hB,hs⟩
 case round=>
  clear b0 b1 b2 hB hs h1 h2 hgz;obtain⟨A,B,a,b,b0,b1,ha,hb,hg,b2,hB,hsz⟩:=hrel;by_cases hb0:b=0
  ·subst hb0
   obtain⟨pz,cz,hBv⟩:=hb.zero;cases hBv;have hga:(Int.natAbs a)=gz:=by rw[<-hg];simp
   obtain⟨p,n,c,f,hAv,s1,d1,e1,l1⟩:=ha;cases hAv;generalize decide (a<0)=sa at *;have hmade:=λ(X:World) (hX:Ext wr X)=>Zbp false p n c f X (s1.ext hX) Zo d1.lo d1.hi;have cb0:=b0.cell;have lb0:=b0.lt;have fb0:=b0.frozen;have cb1:=b1.cell;have lb1:=b1.lt;have fb1:=b1.frozen;go_wp2_with fail
   refine(hmade wr (Ext.refl _)).mono ?_;rintro e W2 ⟨v',rfl,ho2,d3,e3,hbb⟩;replace b2:=b2.below hbb;have hB1:=Zaa hB hbb;obtain⟨p',c',rfl⟩:=ho2.shape;have hlg:LgV m W2 (.agg #[.bool false,.slice p' (trimN f n) c']) (gz:Int):=⟨p',_,c',f,by rw[decide_eq_false Zo],ho2.sl (by have:=Za7 f n;omega),d3,by rw[e3,e1,hga];rfl,by have:=Za7 f n;omega⟩
   rw[Bool.false_and];clear hmade ho2 b0 b1 cb0 cb1 fb0 fb1 lb0 lb1 hB hb;go_wp2_with first|(refine Zab rfl 52 _ _ rfl (w.heap.size+1+1) 0 52 _ #[.bool false,.slice p' (trimN f n) c'] #[.bool false,.slice p' (trimN f n) c'] rfl rfl b2 Zae (Yaa rfl) (Zas _ _ _ _) (Zah rfl) ?_;intro W3 hk b4)
   have hb2:=hk.below hB1 Zo hB1.size;exact bodyPost_ret (b4.results rfl _ _ rfl Tryz.underlying52 rfl Zae) rfl ⟨_,rfl,hlg.ext (hk.ext b2 Zd),hb2⟩
  ·have hval:=Zgc b1 hb
   have hpt:=λ(X:World) (hX:Ext wr X)=>Zcq X (ha.ext hX) (hb.ext hX) hb0 hm hm;have hg2:Int.gcd b (a.tmod b)=gz:=by
    rw[<-hg];unfold Int.gcd;rw[Ydy,Nat.gcd_comm a.natAbs b.natAbs,Nat.gcd_comm b.natAbs (a.natAbs%b.natAbs)];exact(Nat.gcd_rec b.natAbs a.natAbs).symm
   have hlt:(a.tmod b).natAbs<b.natAbs:=by
    rw[Ydy];exact Nat.mod_lt _ Zo
   obtain⟨q,n,c,hBv,hn0⟩:=hb.nz hb0;have hn':(0:Int)<n:=Zo;cases hBv;obtain⟨sa,pa,na,ca,hAv⟩:=ha.parts;cases hAv;generalize decide (b<0)=sb at *;have cb0:=b0.cell;have lb0:=b0.lt;have fb0:=b0.frozen;have cb1:=b1.cell;have lb1:=b1.lt;have fb1:=b1.frozen;go_wp2_with fail
   refine(hpt wr (Ext.refl _)).mono ?_;rintro e W2 ⟨vq,vr,rfl,hq,hr,hbb⟩;obtain⟨sq,pq,nq,cq,rfl⟩:=hq.parts;obtain⟨sr,pr,nr,cr,rfl⟩:=hr.parts;have hsz2:=hbb.size;replace b0:=b0.below hbb;replace b1:=b1.below hbb;replace b2:=b2.below hbb;replace hb:=hb.below hbb;have hB2:=Zaa hB hbb;clear hpt ha hq cb0 lb0 fb0 cb1 lb1 fb1 hB hbb hg;go_wp2_with fail
   have h2n:=(Yae W2.heap.size W2).alloc (Yab _) (.cells #[.bool sq,.slice pq nq cq] 52);have b6:=Box.new (W2.alloc (.cells #[.bool sq,.slice pq nq cq] 52)) 52 #[.bool sr,.slice pr nr cr];rw[Yav]at b6;have hbn:Below W2.heap.size W2 ((W2.alloc (.cells #[.bool sq,.slice pq nq cq] 52)).alloc (.cells #[.bool sr,.slice pr nr cr] 52)):=Zad (Zad (Yae _ _) _) _;replace b0:=b0.below hbn;replace b1:=b1.below hbn;replace b2:=b2.below hbn;replace hb:=hb.below hbn;replace hr:=hr.below hbn;replace hB2:=Zaa hB2 hbn;have hs3:=hbn.size;generalize (W2.alloc (.cells #[.bool sq,.slice pq nq cq] 52)).alloc (.cells #[.bool sr,.slice pr nr cr] 52)=V at *;refine wp_region_held_drew (S:=λw'=>Box w' (W2.heap.size+1) 52 #[.bool sr,.slice pr nr cr]∧Below w.heap.size w w') Zx ⟨b6.drew,hB2.drew⟩ (λhHeld=>?_);have c0:=b0.drew;have c1:=b1.drew;have c2:=b2.drew;have hbX:LgV m V.drew (.agg #[.bool sb,.slice q n c]) b:=hb.ext (Ext.refl _).drew;have hrX:LgV m V.drew (.agg #[.bool sr,.slice pr nr cr]) (a.tmod b):=hr.ext (Ext.refl _).drew;have hsX:w.heap.size+1+1+1<=V.drew.heap.size:=by show _<=V.heap.size;omega
   clear b0 b1 b2 hb hr b6 hbn h2n hB2;generalize V.drew=X0 at *;refine tl 1 (some 18) rfl (.agg #[.bool sr,.slice pr nr cr]) (Zaj 52 _ rfl (W2.heap.size+1) 0 rfl #[.bool sr,.slice pr nr cr] (λw h=>h.1.range) _ Tryz.underlying52 rfl Zae) ?_;refine Mono.sta 0 (some 17) (.agg #[.bool sb,.slice q n c]) X0 hHeld (λhHeld=>Mono.pt ?_) rfl rfl Zx Zx (Zaj (S:=λw=>w=X0) 52 _ rfl (w.heap.size+1) 0 Zx #[.bool sb,.slice q n c] (λw hS=>by subst hS;exact c1.range) _ Tryz.underlying52 rfl Zae X0 rfl);refine Zb4 w.heap.size 52 2 rfl rfl rfl rfl 0 #[.bool sb,.slice q n c] #[.bool sa,.slice pa na ca] #[.bool sb,.slice q n c] Zx (λX i u h=>⟨h.1.other _ _ (by show W2.heap.size+1≠w.heap.size;omega),Zai h.2 Zo _ _⟩) Zx Zx c0 hHeld Zae (Yaa rfl) (Zas _ _ _ _) (Zah rfl) (λY1 hk1 r0 hHeld=>?_);have d1:=hk1.box c1 c1.lt Zo;have d2:=hk1.box c2 c2.lt Zo;have e1:=hk1.ext c0 Zd;refine Zb4 (w.heap.size+1) 52 3 rfl rfl rfl rfl 0 #[.bool sr,.slice pr nr cr] #[.bool sb,.slice q n c] #[.bool sr,.slice pr nr cr] Zx (λX i u h=>⟨h.1.other _ _ (by show W2.heap.size+1≠w.heap.size+1;omega),Zai h.2 Zo _ _⟩) Zx Zx d1 hHeld Zae (Yaa rfl) (Zas _ _ _ _) (Zah rfl) (λY2 hk2 r1 hHeld=>?_);have r0':=hk2.box r0 r0.lt Zo;have d2':=hk2.box d2 d2.lt Zo;have e2:=hk2.ext d1 Zd;have hbY:=(hbX.ext e1).ext e2;have hrY:=(hrX.ext e1).ext e2;have hBY:=hHeld.2;have hsY:w.heap.size+1+1+1<=Y2.heap.size:=by have:=hk1.size;have:=hk2.size;omega
   have hvn:=Zgc r1 hrY;replace hval:=Yah hval;refine wpAnyH_done Zx ?_ _;clear hHeld hk1 hk2 r0 c0 c1 c2 d1 d2 e1 e2 hbX hrX;go_wp2
   go_roundw
   case rel=>exact⟨_,_,b,a.tmod b,r0',r1,hbY,hrY,hg2,d2',hBY,hsY⟩
   case measure=>rw[hvn,hval.out];exact hlt
end Go.Proofs.W
namespace Go.Mono
def Mov (N D:Nat) (x:Mat):Prop:=∃d,d<=D∧Ov N d x.a∧Ov N d x.b∧Ov N d x.c∧Ov N d x.d
def bnd:Nat:=4000000000000000000000
theorem Mov.parts {N D N' D':Nat} {x y:Mat} (h:Mov N D x) (g:Mov N' D' y):∃d,d<=D*D'∧
  (∀u v,(u=x.a∨u=x.b∨u=x.c∨u=x.d)->(v=y.a∨v=y.b∨v=y.c∨v=y.d)->Ov (N*N') d (u*v)):=by
 obtain⟨d,hd,a,b,c,e⟩:=h;obtain⟨d',hd',a',b',c',e'⟩:=g;refine⟨d*d',Ybv hd hd',?_⟩;intro u v hu hv;rcases hu with rfl|rfl|rfl|rfl<;>rcases hv with rfl|rfl|rfl|rfl<;>exact Ov.mul (by assumption) (by assumption)
theorem Mov.mul {N D N' D':Nat} {x y:Mat} (h:Mov N D x) (g:Mov N' D' y):Mov (2*(N*N')) (D*D') (x.mul y):=by
 obtain⟨d,hd,hp⟩:=h.parts g;rw[Nat.two_mul];exact⟨d,hd,(hp _ _ Zs Zs).sub_same (hp _ _ Zs Zs),(hp _ _ Zs Zs).add_same (hp _ _ Zs Zs),(hp _ _ Zs Zs).add_same (hp _ _ Zs Zs),(hp _ _ Zs Zs).sub_same (hp _ _ Zs Zs)⟩
theorem Mov.one:Mov 1 1 Mat.one:=by
 have h0:Ov 1 1 (0:Rat):=Ov.of 0 1 Zd 1 Zd;have h1:Ov 1 1 (1:Rat):=Ov.of 1 1 Zd 1 Zd;exact⟨1,Yab _,h1,h0,h0,h1⟩
end Go.Mono
namespace Go.Ex
open Go.RowKit Go.Mono
section
theorem Zde {v:Value} (h:v.oneCell'=true):v.cells = #[v]:=by
 cases v<;>first|rfl|simp[Value.oneCell']at h
def unitsA:SA->List U
 | .one u=>[u]
 | .agg l=>l
theorem Zfc {D:Den} {ρ:Nm} {w:World}:∀{x:SA} {v:Value},denA D ρ w x v->denL D ρ w (unitsA x) v.cells.toList
 | .one u, v, h => by
   rw[Zde (denU.ones h v Zs)];exact⟨[v],[],rfl,h,rfl⟩
 | .agg l,v,⟨cs,e,hl⟩=>by rw[e];exact hl
def fillS (place:Nat->Option (Nat×Nat)) (l:List U):List (Nat×List U)->Option (List U)
 | []=>some l
 | (i, us) :: r => match place i with
   | none=>none
   | some (off,size)=>if widths us=size then(putX l off us).bind λm=>fillS place m r else none
theorem Zjt (off:Nat):∀(vs:List Value) (k:Nat) (cs:Array Value),off+k+vs.length<=cs.size->
  (vs.zipIdx k).foldl (λc (p:Value×Nat)=>c.setIfInBounds (off+p.2) p.1) cs=(cs.toList.take (off+k)++vs++cs.toList.drop (off+k+vs.length)).toArray
 | [],k,cs,h=>Zs
 | v :: r, k, cs, h => by
   have hl:off+k+(r.length+1)<=cs.size:=by simpa using h
   rw[List.zipIdx_cons,List.foldl_cons,Zjt off r (k+1) _ (by simp;omega)];apply congrArg;rw[Array.toList_setIfInBounds,<-Ybj];have hL:off+k<cs.toList.length:=by rw[Yaz];omega
   rw[List.set_eq_take_append_cons_drop,if_pos hL];generalize off+k=m at *;have e1:(cs.toList.take m).length=m:=by rw[Ycq];omega
   have t1:(cs.toList.take m++v::cs.toList.drop (m+1)).take (m+1)=cs.toList.take m++[v]:=by
    rw[List.take_append,e1,Ycm Zo,show m+1-m=0+1 by omega,List.take_succ_cons];simp
   have t2:(cs.toList.take m++v::cs.toList.drop (m+1)).drop (m+1+r.length)=cs.toList.drop (m+(r.length+1)):=by
    rw[List.drop_append,e1,Yfi Zo,show m+1+r.length-m=r.length+1 by omega,List.drop_succ_cons,List.drop_drop,Ydp];congr 1
    omega
   rw[t1,t2];simp
section
variable {D:Den} {ρ:Nm} {w:World}
def denParts (D:Den) (ρ:Nm) (w:World):List (Nat×List U)->List (Nat×Value)->Prop
 | [],vs=>vs=[]
 | p::r,vs=>∃v s,vs=(p.1,v)::s∧denL D ρ w p.2 v.cells.toList∧denParts D ρ w r s
theorem Zf3 (place:Nat->Option (Nat×Nat)):∀{ps:List (Nat×List U)} {l m:List U} {cs:List Value} {vs:List (Nat×Value)},fillS place l ps=some m->denL D ρ w l cs->denParts D ρ w ps vs->
  ∃c:Array Value,Instr.fill place cs.toArray vs=some c∧denL D ρ w m c.toList
 | [], l, m, cs, vs, h, hl, hp => by
   obtain rfl:vs=[]:=hp;cases h;exact⟨_,rfl,hl⟩
 | (i, us) :: r, l, m, cs, vs, h, hl, hp => by
   obtain⟨v,s,rfl,hv,hs⟩:=hp;unfold fillS at h;cases hpl:place i with
   | none=>rw[hpl]at h;cases h
   | some os =>
     obtain⟨off,size⟩:=os;rw[hpl]at h;dsimp only at h;split at h
     ·rename_i hw
      obtain⟨m',hm',h2⟩:=Ybg.1 h;obtain⟨k1,k2⟩:=Zmq hm' hl hv;have hlen:=hv.len;have hsz:v.cells.size=size:=by rw[<-hw,<-hlen,Yaz]
      have hk:¬(off+v.cells.size>cs.length):=by
       rw[Yaz]at k2;omega
      obtain⟨c,hc1,hc2⟩:=Zf3 place h2 k1 hs;refine⟨c,?_,hc2⟩;show(match place i with
       | none=>none
       | some (off, size) =>
         if v.cells.size≠size || off+v.cells.size>cs.toArray.size then none
         else Instr.fill place (v.cells.zipIdx.foldl (λcs (c,j)=>cs.setIfInBounds (off+j) c) cs.toArray) s)=some c
      rw[hpl];dsimp only;rw[if_neg (by simp[hsz];omega),<-hc1];congr 1
      have:=Zjt off v.cells.toList 0 cs.toArray (by simp;rw[Yaz]at k2;omega);simp only[Yce,Yex]at this;rw[<-this,<-Array.foldl_toList];simp
     ·cases h
end
def zeroU (P:Program) (t:TypeId):Option (List U):=
 match (P.info? t).bind (·.zero) with
 | some z=>if z.cells.toList.all (·.oneCell') then some (z.cells.toList.map .val) else none
 | none=>none
theorem Zms {P:Program} {t:TypeId} {l:List U} (h:zeroU P t=some l) (D:Den) (ρ:Nm) (w:World) :
  ∃i z,P.info? t=some i∧i.zero=some z∧denL D ρ w l z.cells.toList:=by
 unfold zeroU at h;split at h
 ·rename_i z hz
  obtain⟨i,hi,hz'⟩:=Ybg.1 hz;split at h
  ·rename_i ha
   cases h;exact⟨i,z,hi,hz',Zdr _ λv hv=>Ybn.1 ha v hv⟩
  ·cases h
 ·cases h
def getS (tm:List (Nat×SV)):Operand->Option SV
 | .tmp t=>tm.look t
 | .const v=>ofVal v
 | .global g=>some (.a (.one (.val (.pointer (some ⟨g,0,none⟩)))))
 | .func f=>some (.a (.one (.clo f [])))
structure TSat (D:Den) (ρ:Nm) (w:World) (n:Nat) (tm:List (Nat×SV)) (a:Act):Prop where
 size:a.tmps.size=n
 at_:∀t x,tm.look t=some x->∃v,a.tmps[t]? = some v∧denV D ρ w x v
theorem TSat.get {D:Den} {ρ:Nm} {w:World} {n:Nat} {tm:List (Nat×SV)} {a:Act} (h:TSat D ρ w n tm a):∀{x:Operand} {z:SV},getS tm x=some z->denV D ρ w z (a.eval x)
 | .tmp t, z, hz => by
   obtain⟨v,hv,hd⟩:=h.at_ t z hz;have:a.eval (.tmp t)=v:=by
    show a.tmps.getD t undef=v;simp[Yax,hv]
   rw[this];exact hd
 | .const v,z,hz=>Zjr hz
 | .global g,z,hz=>by cases hz;exact⟨rfl,rfl⟩
 | .func f,z,hz=>by cases hz;exact⟨[],rfl,rfl⟩
theorem TSat.mono {D:Den} {ρ ρ':Nm} {w w':World} {n:Nat} {tm:List (Nat×SV)} {a:Act} (h:TSat D ρ w n tm a) (hr:ρ.le ρ') (hx:Ext w w'):TSat D ρ' w' n tm a:=
 ⟨h.size,λt x hl=>let ⟨v,hv,hd⟩:=h.at_ t x hl;⟨v,hv,hd.mono hr hx⟩⟩
def partsS (get:Operand->Option SV):List (Nat×Operand)->Option (List (Nat×List U))
 | []=>some []
 | (i, x) :: r => match get x with
   | some (.a s)=>(partsS get r).map ((i,unitsA s)::·)
   | _=>none
theorem Zgq {D:Den} {ρ:Nm} {w:World} {get:Operand->Option SV} {ev:Operand->Value} (hg:∀x z,get x=some z->denV D ρ w z (ev x)) :
  ∀{l:List (Nat×Operand)} {ps:List (Nat×List U)},partsS get l=some ps->denParts D ρ w ps (l.map λ(i,x)=>(i,ev x))
 | [],ps,h=>by cases h;rfl
 | (i, x) :: r, ps, h => by
   unfold partsS at h;split at h
   ·rename_i s hs
    obtain⟨q,hq,rfl⟩:=Yad.1 h;exact⟨_,_,rfl,Zfc (hg _ _ hs),Zgq hg hq⟩
   ·cases h
def buildS (P:Program) (t:TypeId) (parts:List (Nat×Operand)) (get:Operand->Option SV):Option SV:=
 match zeroU P t,partsS get parts with
 | some z, some ps => match P.underlying t with
   | some (.array _ e) => match szOf P e with
     | some s=>(fillS (λi=>some (i*s,s)) z ps).map λm=>.a (.agg m)
     | none=>none
   | some (.struct fields) => match fields.toList.mapM (λf => (P.info? f.type).map λi => (f.offset, i.size)) with
     | some places=>(fillS (places.toArray[·]?) z ps).map λm=>.a (.agg m)
     | none=>none
   | _=>none
 | _,_=>none
theorem Zpz {D:Den} {P:Program} {ρ:Nm} {w:World} {get:Operand->Option SV} {ev:Operand->Value} (hg:∀x z,get x=some z->denV D ρ w z (ev x))
  {t:TypeId} {parts:Array (Nat×Operand)} {x:SV} (h:buildS P t parts.toList get=some x) (W:World) :
  ∃v,(Instr.build t (parts.map λ(i,x)=>(i,ev x))).run P W=.ok v W∧denV D ρ w x v:=by
 unfold buildS at h;split at h
 ·rename_i z ps hz hp
  obtain⟨it,zv,h1,h2,h3⟩:=Zms hz D ρ w;have hps:=Zgq hg hp;split at h
  ·rename_i n e hu
   split at h
   ·rename_i s hs
    obtain⟨m,hm,rfl⟩:=Yad.1 h;obtain⟨c,hc1,hc2⟩:=Zf3 _ hm h3 hps;obtain⟨ie,hie,rfl⟩:=Yad.1 hs;refine⟨.agg c,run_build W t _ c ?_,c.toList,Zs,hc2⟩;unfold Program.built;rw[h1,hu];dsimp only;rw[h2,hie];simpa using hc1
   ·cases h
  ·rename_i fields hu
   split at h
   ·rename_i places hpl
    obtain⟨m,hm,rfl⟩:=Yad.1 h;obtain⟨c,hc1,hc2⟩:=Zf3 _ hm h3 hps;refine⟨.agg c,run_build W t _ c ?_,c.toList,Zs,hc2⟩;unfold Program.built;rw[h1,hu];dsimp only;rw[h2,hpl];simpa using hc1
   ·cases h
  ·cases h
 ·cases h
end
end Go.Ex
