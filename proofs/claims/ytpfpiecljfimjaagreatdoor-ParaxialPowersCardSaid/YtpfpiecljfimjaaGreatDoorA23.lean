/- Contracts of package paraxial,and a verified evaluator. Part 23 of 26. No condition beside the row. -/
import Derived.Test.YtpfpiecljfimjaaGreatDoorA09
import Derived.Test.YtpfpiecljfimjaaGreatDoorA17
import Derived.Test.YtpfpiecljfimjaaGreatDoorA18
import Derived.Test.YtpfpiecljfimjaaGreatDoorA21
import Derived.Test.YtpfpiecljfimjaaGreatDoorA22
set_option linter.unusedVariables false
set_option linter.unusedSimpArgs false
set_option maxRecDepth 100000
set_option maxHeartbeats 4000000
namespace Go.Mono
open Go.RowKit
section
def KR (R:Nat) (W w:World):Prop:=KeepBut R W.heap.size W w∧∀o,o<4->w.cell? ⟨R,o,none⟩=W.cell? ⟨R,o,none⟩
section
variable {R:Nat} {W w w':World}
theorem KR.refl (R:Nat) (W:World):KR R W W:=⟨KeepBut.refl _ _,λ_ _=>rfl⟩
theorem KR.drew (h:KR R W w):KR R W w.drew:=⟨h.1.drew,h.2⟩
theorem KR.call (h:KR R W w) (hR:R<W.heap.size) (hb:Below w.heap.size w w'):KR R W w':=
 ⟨h.1.call hb,λo ho=>(hb.cell (p:=⟨R,o,none⟩) (Yaf hR h.1.size)).trans (h.2 o ho)⟩
theorem KR.alloc (h:KR R W w) (hR:R<W.heap.size) (x:Obj):KR R W (w.alloc x):=h.call hR ((Yae _ _).alloc (Yab _) x)
theorem KR.set (h:KR R W w) (i:Nat) (hi:4<=i) (u:Value):KR R W (w.setCell ⟨R,i,none⟩ u):=
 ⟨h.1.set i u,λo ho=>(Yet _ _ _ _ (by intro e;have:=congrArg Addr.off e;simp at this;omega)).trans (h.2 o ho)⟩
theorem KR.ext (h:KR R W w) {T:TypeId} {cs:Array Value} (hb:Box W R T cs) (hT:T≠3):Ext W w:=h.1.ext hb hT
theorem KR.S (h:KR R W w):(∀b o,b<W.heap.size->b≠R->w.cell? ⟨b,o,none⟩=W.cell? ⟨b,o,none⟩)∧(∀o,o<4->w.cell? ⟨R,o,none⟩=W.cell? ⟨R,o,none⟩)∧KR R W w:=⟨h.1.cell,h.2,h⟩
end
theorem KeepBut.of_below {R:Nat} {w W w':World} (hB:Below w.heap.size w W) (h:KeepBut R W.heap.size W w'):KeepBut R w.heap.size w w':=
 ⟨h.os.trans hB.os,h.tape.trans hB.tape,h.output.trans hB.output,Yak hB.size h.size,λk hk hR=>(h.block k (Yaf hk hB.size) hR).trans (hB.block k hk)⟩
section
variable {w:World} {R:Nat} {T:TypeId} {y u:Rat} {p:Option Addr} {k c:Nat} {p':Option Addr} {k' c':Nat} {r:Option Addr} {l d:Nat} {r':Option Addr} {l' d':Nat} {o0 o1 o2 o3:Value}
end
end
theorem LgV.len {m:Nat} {w:World} {s:Bool} {p:Option Addr} {n c:Nat} {z:Int} (h:LgV m w (.agg #[.bool s,.slice p n c]) z):n<=m∧s=decide (z<0)∧(0<z.natAbs↔0<n):=by
 obtain⟨p',n',c',f,hv,h1,h2,h3,h4⟩:=h;simp only[Value.agg.injEq,Array.mk.injEq,List.cons.injEq,Value.bool.injEq,Ydm,and_true]at hv;obtain⟨rfl,rfl,rfl,rfl⟩:=hv;refine⟨h4,rfl,?_⟩;have:=h2.pos;rw[h3]at this;omega
end Go.Mono
namespace Go.Proofs.W
open Go.RowKit Go.Mono
theorem Ze5 {v1:Value} {a:Rat} (w:World) (h1:QtV 600 w v1 a) :
  Calls Tryz.prog 139 #[v1] w λe w'=>e=.returned (.tuple #[v1,.int .i64 0])∧Below w.heap.size w w':=by
 obtain⟨s1,p1,n1,c1,t1,q1,m1,d1,rfl,x1,x2⟩:=h1;have l1:=x1.len.1;have l2:=x2.len.1;have l1':¬((600:Int)<n1):=Zo;have l2':¬((600:Int)<m1):=Zo;clear x1 x2;go_enter Tryz.func139,Tryz.ntmps139
 go_wp2
 have b:=Box.new (w.alloc (.cells #[.bool s1,.slice p1 n1 c1,.bool t1,.slice q1 m1 d1] 51)) 51 #[.bool s1,.slice p1 n1 c1,.bool t1,.slice q1 m1 d1];simp only[Yav]at b;exact bodyPost_ret (b.resultsT rfl _ _ rfl Tryz.underlying51 rfl Zah) rfl ⟨rfl,Zad (Zad (Yae _ _) _) _⟩
theorem Zbq {v1:Value} {a:Rat} (w:World) (h1:QtV 600 w v1 a) :
  Calls Tryz.prog 138 #[v1] w λe w'=>e=.returned (.bool true)∧Below w.heap.size w w':=by
 obtain⟨s1,p1,n1,c1,t1,q1,m1,d1,rfl,x1,x2⟩:=h1;have hg:(Int.gcd a.num a.den:Int)=1:=by
  have:=a.reduced;have h:Int.gcd a.num a.den=1:=by simpa[Int.gcd,Nat.Coprime]using this
  rw[h];rfl
 have ht:t1=false:=by
  rw[x2.len.2.1];exact decide_eq_false Zo
 subst ht;have hn:=x2.len.2.2.1 (by have:=a.den_pos;omega);have hn':(0:Int)<m1:=Zo;have hr1:=λ(X:World) (hX:Ext w X)=>Zcr X (x1.ext hX);have hr2:=λ(X:World) (hX:Ext w X)=>Zcr X (x2.ext hX);have hc:=λ(X:World) (hX:Ext w X)=>Zg6 X (x1.ext hX) (x2.ext hX) Zd;rw[hg]at hc;clear x1 x2 hg;go_enter Tryz.func138,Tryz.ntmps138
 go_wp2_with fail
 refine Zbg λW hB hs b0=>?_;refine(hr1 W (.of_below hB)).mono ?_;rintro e W2 ⟨rfl,hb⟩;replace b0:=b0.below hb;replace hB:=Zaa hB hb;have cb0:=b0.cell;have lb0:=b0.lt;have fb0:=b0.frozen;clear hb;go_wp2_with (go_at_call 164;refine(hr2 W2 (.of_below hB)).mono ?_;rintro e W3 ⟨rfl,hb3⟩;replace b0:=b0.below hb3;replace hB:=Zaa hB hb3;clear cb0 lb0 fb0 hb3;have cb0:=b0.cell;have lb0:=b0.lt;have fb0:=b0.frozen)
 go_wp2_with (go_at_call 172;refine(hc W3 (.of_below hB)).mono ?_;rintro e W4 ⟨v,rfl,hv,hb4⟩;replace hB:=Zaa hB hb4)
 go_wp2_with (go_at_call 128;refine(Zea 1 W4 Zd Zd).mono ?_;rintro e W5 ⟨u,rfl,hu,hb5⟩;replace hB:=Zaa hB hb5)
 go_wp2_with (go_at_call 44;refine(Ze4 W5 (hv.below hb5) hu).mono ?_;rintro e W6 ⟨rfl,hb6⟩;replace hB:=Zaa hB hb6)
 go_wp2
 go_ret
 exact⟨Zs,hB⟩
end Go.Proofs.W
namespace Go.Mono
open Go.RowKit

end Go.Mono
namespace Go.Proofs.W
open Go.RowKit Go.Mono
theorem Zwt (a:Lns) (q:Plc) (hchk:Chk a q) (k:Nat) (w:World) (h:OptAt w a q) (k1:k<a.nw) :
  Calls Tryz.prog 36 #[.agg (a.ovals q),.int .i64 (k:Int)] w λe w'=>e=.returned (.agg (a.vvals q k))∧Below w.heap.size w w':=by
 have hc:=λW (hW:Below w.heap.size w W)=>hchk W (h.below hW);have hi:(Tryz.prog.info? 93).map (·.size)=some 11:=Zk;have k1':(k:Int)<a.nw:=Zo;simp only[Lns.ovals,Lns.vvals]at hc ⊢;clear h hchk;go_enter Tryz.func36,Tryz.ntmps36
 go_wp2_with fail
 refine Zbj λW hB hs bO bR=>?_;refine(hc W hB).mono ?_;rintro e W1 ⟨rfl,hb⟩;replace hB:=Zaa hB hb;replace bO:=bO.below hb;replace bR:=bR.below hb;have cO:=bO.cell;have lO:=bO.lt;go_wp2_with (refine Zab rfl 93 (.tmp 4) (.tmp 27) rfl (w.heap.size+1) 0 93 _ #[.string a.nm,.int .i64 a.di,.int .i64 a.pu,.int .i64 a.st,.int .i64 a.pr,.slice q.pf a.nf q.cf,.slice q.pw a.nw q.cw,.slice q.ps a.ns q.cs,.slice q.pc 0 q.cc,.slice q.pi a.ns q.ci,.int .i64 (k:Int)] #[.string a.nm,.int .i64 a.di,.int .i64 a.pu,.int .i64 a.st,.int .i64 a.pr,.slice q.pf a.nf q.cf,.slice q.pw a.nw q.cw,.slice q.ps a.ns q.cs,.slice q.pc 0 q.cc,.slice q.pi a.ns q.ci,.int .i64 (k:Int)] rfl rfl bR hi (Yaa rfl) (by simp[Value.oneCell']) rfl ?_;intro W4 hk4 b4)
 refine bodyPost_ret (b4.results rfl _ _ rfl Tryz.underlying93 rfl hi) rfl ?_;exact⟨rfl,hk4.below hB Zo hB.size⟩
theorem Zuo {v1 v2:Value} {a b:Rat} (w:World) (h1:QtV 600 w v1 a) (h2:QtV 600 w v2 b) (hf:Fits (a+b)) :
  Calls Tryz.prog 94 #[v1,v2] w λe w'=>∃C,e=.returned (.tuple #[.agg C,.int .i64 0])∧QtV 600 w' (.agg C) (a+b)∧Below w.heap.size w w':=by
 have hr1:=λ(X:World) (hX:Ext w X)=>Zbq X (h1.ext hX);have hr2:=λ(X:World) (hX:Ext w X)=>Zbq X (h2.ext hX);have hc:=λ(X:World) (hX:Ext w X)=>Zn2 X (h1.ext hX) (h2.ext hX) Zd;obtain⟨s1,p1,n1,c1,t1,q1,m1,d1,rfl,x1,x2⟩:=h1;obtain⟨s2,p2,n2,c2,t2,q2,m2,d2,rfl,y1,y2⟩:=h2;clear x1 x2 y1 y2;go_enter Tryz.func94,Tryz.ntmps94
 go_wp2_with fail
 refine Zbk λW hB hs b0 b1 bO=>?_;refine(hr1 W (.of_below hB)).mono ?_;rintro e W2 ⟨rfl,hb⟩;replace b0:=b0.below hb;replace b1:=b1.below hb;replace bO:=bO.below hb;replace hB:=Zaa hB hb;have cb0:=b0.cell;have lb0:=b0.lt;have fb0:=b0.frozen;have cb1:=b1.cell;have lb1:=b1.lt;have fb1:=b1.frozen;clear hb hr1 hs;go_wp2_with fail
 refine(hr2 W2 (.of_below hB)).mono ?_;rintro e W3 ⟨rfl,hb⟩;replace b0:=b0.below hb;replace b1:=b1.below hb;replace bO:=bO.below hb;replace hB:=Zaa hB hb;clear cb0 lb0 fb0 cb1 lb1 fb1;have cb0:=b0.cell;have lb0:=b0.lt;have fb0:=b0.frozen;have cb1:=b1.cell;have lb1:=b1.lt;have fb1:=b1.frozen;clear hb hr2;go_wp2_with fail
 refine(hc W3 (.of_below hB)).mono ?_;rintro e W4 ⟨V,rfl,hV,hb4⟩;replace bO:=bO.below hb4;replace hB:=Zaa hB hb4;go_wp2_with fail
 refine(Ze5 W4 (hV.tight hf.1 hf.2)).mono ?_;rintro e W5 ⟨rfl,hb9⟩;have h9:=(hV.tight hf.1 hf.2).below hb9;obtain⟨C,rfl,zC,oC⟩:=h9.cells;replace bO:=bO.below hb9;replace hB:=Zaa hB hb9;go_wp2_with first|(refine Zab rfl 51 (.tmp 4) (.tmp 19) rfl (w.heap.size+1+1) 0 51 _ C C rfl rfl bO (by rw[zC];exact Zah) (Ybl (by rw[zC];rfl)) oC (Zaf (by rw[zC];rfl)) ?_;intro W6 hk b2)
 refine bodyPost_ret (b2.resultsT rfl _ _ rfl Tryz.underlying51 rfl (by rw[zC];exact Zah)) rfl ?_;exact⟨_,rfl,h9.ext (hk.ext bO Zd),hk.below hB Zo hB.size⟩
theorem Zn3 {v1 v2:Value} {a b:Rat} (w:World) (h1:QtV 600 w v1 a) (h2:QtV 600 w v2 b) (hf:Fits (a*b)) :
  Calls Tryz.prog 97 #[v1,v2] w λe w'=>∃C,e=.returned (.tuple #[.agg C,.int .i64 0])∧QtV 600 w' (.agg C) (a*b)∧Below w.heap.size w w':=by
 have hr1:=λ(X:World) (hX:Ext w X)=>Zbq X (h1.ext hX);have hr2:=λ(X:World) (hX:Ext w X)=>Zbq X (h2.ext hX);have hc:=λ(X:World) (hX:Ext w X)=>Zr4 X (h1.ext hX) (h2.ext hX) Zd;obtain⟨s1,p1,n1,c1,t1,q1,m1,d1,rfl,x1,x2⟩:=h1;obtain⟨s2,p2,n2,c2,t2,q2,m2,d2,rfl,y1,y2⟩:=h2;clear x1 x2 y1 y2;go_enter Tryz.func97,Tryz.ntmps97
 go_wp2_with fail
 refine Zbk λW hB hs b0 b1 bO=>?_;refine(hr1 W (.of_below hB)).mono ?_;rintro e W2 ⟨rfl,hb⟩;replace b0:=b0.below hb;replace b1:=b1.below hb;replace bO:=bO.below hb;replace hB:=Zaa hB hb;have cb0:=b0.cell;have lb0:=b0.lt;have fb0:=b0.frozen;have cb1:=b1.cell;have lb1:=b1.lt;have fb1:=b1.frozen;clear hb hr1 hs;go_wp2_with fail
 refine(hr2 W2 (.of_below hB)).mono ?_;rintro e W3 ⟨rfl,hb⟩;replace b0:=b0.below hb;replace b1:=b1.below hb;replace bO:=bO.below hb;replace hB:=Zaa hB hb;clear cb0 lb0 fb0 cb1 lb1 fb1;have cb0:=b0.cell;have lb0:=b0.lt;have fb0:=b0.frozen;have cb1:=b1.cell;have lb1:=b1.lt;have fb1:=b1.frozen;clear hb hr2;go_wp2_with fail
 refine(hc W3 (.of_below hB)).mono ?_;rintro e W4 ⟨V,rfl,hV,hb4⟩;replace bO:=bO.below hb4;replace hB:=Zaa hB hb4;go_wp2_with fail
 refine(Ze5 W4 (hV.tight hf.1 hf.2)).mono ?_;rintro e W5 ⟨rfl,hb9⟩;have h9:=(hV.tight hf.1 hf.2).below hb9;obtain⟨C,rfl,zC,oC⟩:=h9.cells;replace bO:=bO.below hb9;replace hB:=Zaa hB hb9;go_wp2_with first|(refine Zab rfl 51 (.tmp 4) (.tmp 19) rfl (w.heap.size+1+1) 0 51 _ C C rfl rfl bO (by rw[zC];exact Zah) (Ybl (by rw[zC];rfl)) oC (Zaf (by rw[zC];rfl)) ?_;intro W6 hk b2)
 refine bodyPost_ret (b2.resultsT rfl _ _ rfl Tryz.underlying51 rfl (by rw[zC];exact Zah)) rfl ?_;exact⟨_,rfl,h9.ext (hk.ext bO Zd),hk.below hB Zo hB.size⟩
end Go.Proofs.W
namespace Go.Mono
open Go.RowKit
theorem LgV.tail {m:Nat} {w:World} {v:Value} {z:Int} (h:LgV m w v z):∃p n c,v=.agg #[.bool (decide (z<0)),.slice p n c]∧(z≠0↔0<n):=by
 obtain⟨p,n,c,f,rfl,h1,h2,h3,h4⟩:=h;refine⟨p,n,c,rfl,?_⟩;have:=h2.pos;rw[h3]at this;omega
end Go.Mono
namespace Go.Proofs.W
open Go.RowKit Go.Mono
theorem Zpg {v1 v2:Value} {n d:Int} (w:World) (h1:LgV 3 w v1 n) (h2:LgV 3 w v2 d) (hd:0<d) :
  Calls Tryz.prog 127 #[v1,v2] w λe w'=>∃C,e=.returned (.tuple #[.agg C,.int .i64 0])∧QtV 3 w' (.agg C) (Rat.divInt n d)∧Below w.heap.size w w':=by
 have hr1:=λ(X:World) (hX:Ext w X)=>Zcr X ((h1.ext hX).mono Zd);have hr2:=λ(X:World) (hX:Ext w X)=>Zcr X ((h2.ext hX).mono Zd);have hc:=λ(X:World) (hX:Ext w X)=>Zc0 X (h1.ext hX) (h2.ext hX) hd Zd;obtain⟨p1,n1,c1,rfl,_⟩:=h1.tail;obtain⟨p2,n2,c2,rfl,hn2⟩:=h2.tail;have hn2':((n2:Int)==0)=false:=by have:=hn2.1 (Zo);simp;omega
 generalize decide (n<0)=s1 at *;generalize decide (d<0)=s2 at *;clear h1 h2 hn2;go_enter Tryz.func127,Tryz.ntmps127
 go_wp2_with fail
 refine Zbk λW hB hs b0 b1 bO=>?_;refine(hr1 W (.of_below hB)).mono ?_;rintro e W2 ⟨rfl,hb⟩;replace b0:=b0.below hb;replace b1:=b1.below hb;replace bO:=bO.below hb;replace hB:=Zaa hB hb;have cb0:=b0.cell;have lb0:=b0.lt;have fb0:=b0.frozen;have cb1:=b1.cell;have lb1:=b1.lt;have fb1:=b1.frozen;clear hb hr1 hs;go_wp2_with fail
 refine(hr2 W2 (.of_below hB)).mono ?_;rintro e W3 ⟨rfl,hb⟩;replace b0:=b0.below hb;replace b1:=b1.below hb;replace bO:=bO.below hb;replace hB:=Zaa hB hb;clear cb0 lb0 fb0 cb1 lb1 fb1;have cb0:=b0.cell;have lb0:=b0.lt;have fb0:=b0.frozen;have cb1:=b1.cell;have lb1:=b1.lt;have fb1:=b1.frozen;clear hb hr2;go_wp2_with fail
 refine(hc W3 (.of_below hB)).mono ?_;rintro e W4 ⟨V,rfl,hV,hb4⟩;obtain⟨C,rfl,zC,oC⟩:=hV.cells;replace bO:=bO.below hb4;replace hB:=Zaa hB hb4;go_wp2_with first|(refine Zab rfl 51 (.tmp 4) (.tmp 22) rfl (w.heap.size+1+1) 0 51 _ C C rfl rfl bO (by rw[zC];exact Zah) (Ybl (by rw[zC];rfl)) oC (Zaf (by rw[zC];rfl)) ?_;intro W6 hk b2)
 refine bodyPost_ret (b2.resultsT rfl _ _ rfl Tryz.underlying51 rfl (by rw[zC];exact Zah)) rfl ?_;exact⟨_,rfl,hV.ext (hk.ext bO Zd),hk.below hB Zo hB.size⟩
theorem Zr5 (n d:Int) (w:World) (hd:0<d) (a1 : -9223372036854775808<=n) (a2:n<=9223372036854775807) (b2:d<=9223372036854775807) :
  Calls Tryz.prog 85 #[.int .i64 n,.int .i64 d] w λe w'=>∃C,e=.returned (.tuple #[.agg C,.int .i64 0])∧QtV 3 w' (.agg C) (Rat.divInt n d)∧Below w.heap.size w w':=by
 go_enter Tryz.func85,Tryz.ntmps85
 go_wp2_with fail
 refine Zbg λW hB hs bO=>?_;refine(Zea n W a1 a2).mono ?_;rintro e W2 ⟨v1,rfl,h1,hb⟩;replace bO:=bO.below hb;replace hB:=Zaa hB hb;clear hb;go_wp2_with fail
 refine(Zea d W2 Zo b2).mono ?_;rintro e W3 ⟨v2,rfl,h2,hb⟩;replace bO:=bO.below hb;replace hB:=Zaa hB hb;replace h1:=h1.below hb;clear hb;go_wp2_with fail
 refine(Zpg W3 h1 h2 hd).mono ?_;rintro e W4 ⟨C,rfl,hV,hb⟩;obtain⟨_,e,zC,oC⟩:=hV.cells;cases e;replace bO:=bO.below hb;replace hB:=Zaa hB hb;clear hb h1 h2;go_wp2_with first|(refine Zab rfl 51 (.tmp 4) (.tmp 11) rfl w.heap.size 0 51 _ C C rfl rfl bO (by rw[zC];exact Zah) (Ybl (by rw[zC];rfl)) oC (Zaf (by rw[zC];rfl)) ?_;intro W6 hk b2)
 refine bodyPost_ret (b2.resultsT rfl _ _ rfl Tryz.underlying51 rfl (by rw[zC];exact Zah)) rfl ?_;exact⟨_,rfl,hV.ext (hk.ext bO Zd),hk.below hB Zo hB.size⟩
theorem Zdf (n d:Int) (w:World) (hd:0<d) (a1 : -9223372036854775808<=n) (a2:n<=9223372036854775807) (b2:d<=9223372036854775807) :
  Calls Tryz.prog 45 #[.int .i64 n,.int .i64 d] w λe w'=>∃C,e=.returned (.agg C)∧QtV 3 w' (.agg C) (Rat.divInt n d)∧Below w.heap.size w w':=by
 go_enter Tryz.func45,Tryz.ntmps45
 go_wp2_with fail
 refine Zbg λW hB hs bO=>?_;refine(Zr5 n d W hd a1 a2 b2).mono ?_;rintro e W2 ⟨C,rfl,hV,hb⟩;obtain⟨_,e,zC,oC⟩:=hV.cells;cases e;replace bO:=bO.below hb;replace hB:=Zaa hB hb;clear hb;go_wp2_with first|(refine Zcb 51 5 _ C _ rfl rfl rfl rfl rfl rfl Zda (by as_aux_lemma=>(intro _;kernel_rfl)) (by as_aux_lemma=>(intro _;kernel_rfl)) (by rw[zC];exact Zah) (by rw[zC];rfl) oC ?_;intro W3 B5 _ hB3 b5;replace bO:=bO.below hB3)|(refine Zac rfl 51 (.tmp 5) rfl B5 Zx 51 C b5 _ Tryz.underlying51 rfl (by rw[zC];exact Zah) ?_)|(refine Zab rfl 51 (.tmp 4) (.tmp 13) rfl w.heap.size 0 51 _ C C rfl rfl bO (by rw[zC];exact Zah) (Ybl (by rw[zC];rfl)) oC (Zaf (by rw[zC];rfl)) ?_;intro W6 hk b2)
 refine bodyPost_ret (b2.results rfl _ _ rfl Tryz.underlying51 rfl (by rw[zC];exact Zah)) rfl ?_;exact⟨_,rfl,(hV.below hB3).ext (hk.ext bO Zd),hk.below (Zaa hB hB3) Zo (Zaa hB hB3).size⟩
section
open Go.Ex
variable {K:Nat->Value} {hK:∀i,(K i).oneCell'=true}
def cR4Add (S:Side) (w0:World) (X:Nat->Prop):Ctr (qDen K hK) Tryz.prog w0 X:=binSpec S.cl w0 X 94 (λa b=>a+b) (λa b=>S.fit (a+b)) λa b u v L w hs hL h1 h2=>(Zuo w h1.qt h2.qt (S.hfit _ _ hs hL)).mono λe w' ⟨C,e1,hC,hb⟩=>⟨_,e1,hC.qv,hb⟩
def cR4Mul (S:Side) (w0:World) (X:Nat->Prop):Ctr (qDen K hK) Tryz.prog w0 X:=binSpec S.cl w0 X 97 (λa b=>a*b) (λa b=>S.fit (a*b)) λa b u v L w hs hL h1 h2=>(Zn3 w h1.qt h2.qt (S.hfit _ _ hs hL)).mono λe w' ⟨C,e1,hC,hb⟩=>⟨_,e1,hC.qv,hb⟩
def ofR4 (args:List SA) (bk:List (Nat×Blk)) (orc:List (Option Bool)):Option (SV×List Prop×List (Option Bool)):=
 match args with
 | [x, y] => match intOf (some (.a x)), intOf (some (.a y)) with
   | some (.i64,n,_),some (.i64,d,_)=>some (.tup [.agg [.quo (Rat.divInt n d)],okV],[inR n,inR d,0<d],orc)
   | _,_=>none
 | _=>none
def cR4Of (w0:World) (X:Nat->Prop):Ctr (qDen K hK) Tryz.prog w0 X:=.plain 85 ofR4<|by
    intro args bk orc v obl orc' hr hobl ρ w vals hfr hb hargs;unfold ofR4 at hr;split at hr
    ·rename_i x y
     split at hr
     ·rename_i n s d s' hx hy
      cases hr;obtain⟨v1,r1,rfl,h1,v2,r2,rfl,h2,h3⟩:=hargs;obtain rfl:r2=[]:=h3;obtain rfl:=Za6 (D:=qDen K hK) (ρ:=ρ) (w:=w) hx h1;obtain rfl:=Za6 (D:=qDen K hK) (ρ:=ρ) (w:=w) hy h2;obtain⟨a1,a2⟩:=hobl (inR n) Zs;obtain⟨b1,b2⟩:=hobl (inR d) Zs;refine(Zr5 n d w (hobl (0<d) Zs) a1 a2 b2).mono ?_;rintro e w' ⟨C,rfl,hC,hbl⟩;exact⟨_,rfl,⟨[_,.int .i64 0],rfl,_,_,rfl,den_quo.2 (hC.mono Zd).qv,_,_,rfl,⟨rfl,rfl⟩,rfl⟩,hbl⟩
     ·cases hr
    ·cases hr
end
end Go.Proofs.W
namespace Go.Mono
open Go.RowKit
section
theorem Zmd {P:Program} {S:World->Prop} {oi:Oper} {a:Act} (ty:TypeId) (x ix:Operand) (ok:Bool) (ho:oi.op=.lookup ty x ix ok) (m kv v:Value) (hx:a.eval x=m) (hk:a.eval ix=kv)
  (hrun:∀w,S w->(Instr.lookup ty m kv ok).run P w=.ok v w):∀w,S w->(execOp a.eval oi).run P w=.ok (.value v) w:=λw hS=>by
 unfold execOp;simp only[ho,hx,hk,Yar,hrun w hS,Yag,Yau]
section
variable {P:Program} {ops:Array Oper} {Q:Exit->Act->World->Prop} {md:Region.Mode} {S:World->Prop}
theorem Zjb (B:Nat) (T:TypeId) (i:Nat) {o:Oper} (hi:ops[i]? = some o) (hg:o.guard=none) (hd:o.dst=none) {ty:TypeId} {x y:Operand} (ho:o.op=.store ty x y) (off:Nat) (cells cs new:Array Value) {a:Act} {fuel:Nat} {listed:Array Bool} {w:World}
  (hr:Region.ready md ops listed=[i]) (hS:∀w i u,S w->S (w.setCell ⟨B,i,none⟩ u)) (hx:a.eval x=.pointer (some ⟨B,off,none⟩)) (hy:a.eval y=.agg cells)
  (hb:Box w B T cs) (hs:S w) (hi2:(P.info? ty).map (·.size)=some cells.size) (hoff:off+cells.size<=cs.size) (h1:cells.all (·.oneCell')=true)
  (hn:cs.toList.take off++cells.toList++cs.toList.drop (off+cells.size)=new.toList)
  (h:∀w',KeepBut B w.heap.size w w'->Box w' B T new->S w'->wpAnyH P md ops Q S fuel (listed.setIfInBounds i true) a w'):wpAnyH P md ops Q S (fuel+1) listed a w:=by
 refine wpAnyH_all hr Zs λj hj=>?_;obtain rfl:j=i:=by simpa using hj
 unfold wpOp;rw[hi];have hw:Region.wanted o (yielded ops a.tmps)=true:=by simp[Region.wanted,hg]
 simp only[hw,if_true];left
 have hb2:=Box.setCells cells.toList off w cs hb (by simpa using hoff);have hb3:Box (w.setCells B off cells.toList) B T new:=by simpa[hn]using hb2
 have hs2:=Zbp hS cells.toList off w hs;refine wp_store_mid ty x y ho B off cells hx hy (hb.there off cells.size hoff) hi2 h1 ?_;rw[hd];exact⟨hs2,h _ ((KeepBut.refl _ _).setCells _ _ _) hb3 hs2⟩
end
def CB (R:Nat) (W w:World):Prop:=(∀b o,b<W.heap.size->b≠R->w.cell? ⟨b,o,none⟩=W.cell? ⟨b,o,none⟩)∧KeepBut R W.heap.size W w
theorem CB.set {R:Nat} {W:World} (w:World) (i:Nat) (u:Value) (h:(∀b o,b<W.heap.size->b≠R->w.cell? ⟨b,o,none⟩=W.cell? ⟨b,o,none⟩)∧KeepBut R W.heap.size W w) :
  (∀b o,b<W.heap.size->b≠R->(w.setCell ⟨R,i,none⟩ u).cell? ⟨b,o,none⟩=W.cell? ⟨b,o,none⟩)∧KeepBut R W.heap.size W (w.setCell ⟨R,i,none⟩ u):=KeepBut.S (h.2.set i u)
theorem Zme {R:Nat} {W w:World} (h:KeepBut R W.heap.size W w):(∀b o,b<W.heap.size->b≠R->w.cell? ⟨b,o,none⟩=W.cell? ⟨b,o,none⟩)∧KeepBut R W.heap.size W w:=KeepBut.S h
end
end Go.Mono
namespace Go.Proofs.W
open Go.RowKit Go.Mono
structure PowsAt (w:World) (m:Nat):Prop where
 lt:m<w.heap.size
 pos:0<w.heap.size
 cell:w.cell? ⟨0,0,none⟩=some (.map (some m))
 look:∀w':World,w'.heap[m]? = w.heap[m]?->(Instr.lookup 161 (.map (some m)) (.int .i64 1) false).run Tryz.prog w'=.ok (.func (.func 275) #[] #[]) w'∧(Instr.lookup 161 (.map (some m)) (.int .i64 2) false).run Tryz.prog w'=.ok (.func (.func 275) #[] #[]) w'∧
  (Instr.lookup 161 (.map (some m)) (.int .i64 3) false).run Tryz.prog w'=.ok (.func (.func 276) #[] #[]) w'∧(Instr.lookup 161 (.map (some m)) (.int .i64 4) false).run Tryz.prog w'=.ok (.func (.func 277) #[] #[]) w'
theorem PowsAt.below {w w':World} {m:Nat} (h:PowsAt w m) (hB:Below w.heap.size w w'):PowsAt w' m:=
 ⟨Yaf h.lt hB.size,Yaf h.pos hB.size,(hB.cell (p:=⟨0,0,none⟩) h.pos).trans h.cell,λw2 h2=>h.look w2 (h2.trans (hB.block m h.lt))⟩
theorem PowsAt.kind {w:World} {m:Nat} (h:PowsAt w m) {kd:Int} (k1:1<=kd) (k2:kd<=4):∀w':World,w'.heap[m]? = w.heap[m]?->(Instr.lookup 161 (.map (some m)) (.int .i64 kd) false).run Tryz.prog w'=.ok (.func (.func (if kd=3 then 276 else if kd=4 then 277 else 275)) #[] #[]) w':=λw' hw=>by
 obtain⟨h1,h2,h3,h4⟩:=h.look w' hw;rcases(by omega:kd=1∨kd=2∨kd=3∨kd=4) with rfl|rfl|rfl|rfl
 ·exact h1
 ·exact h2
 ·exact h3
 ·exact h4
theorem Zo5 (kd:Int):∀args w,(callFunc (if kd=3 then 276 else if kd=4 then 277 else 275) args).run Tryz.prog w=.ok (.enter (if kd=3 then 276 else if kd=4 then 277 else 275) args) w:=by
 by_cases h3:kd=3
 ·rw[if_pos h3];exact Go.Proofs.enters_of Tryz.func276 Zk rfl
 ·rw[if_neg h3]
  by_cases h4:kd=4
  ·rw[if_pos h4];exact Go.Proofs.enters_of Tryz.func277 Zk rfl
  ·rw[if_neg h4];exact Go.Proofs.enters_of Tryz.func275 Zk rfl
structure PowFits (a:Lns) (k s:Nat):Prop where
 f1:Fits (a.step k s)
 f2:Fits (a.cv s*a.step k s)
 f3:Fits (a.gr k s)
 f4:Fits (a.cv s*a.step k s-a.gr k s)
theorem Zwr (a:Lns) (ha:a.opt) (q:Plc) (hchk:Chk a q) (s k:Nat) (w:World) (h:OptAt w a q) (s1:s<a.ns) (k1:k<a.nw) (hf:PowFits a k s) :
  Calls Tryz.prog (if(a.S s).kind=3 then 276 else if(a.S s).kind=4 then 277 else 275) #[.agg (a.vvals q k),.int .i64 (s:Int)] w λe w'=>∃C,e=.returned (.agg C)∧QV w' (.agg C) (a.pow k s)∧Below w.heap.size w w':=by
 by_cases h3:(a.S s).kind=3
 ·rw[if_pos h3]
  have e:a.pow k s=Rat.divInt 0 1:=by unfold Lns.pow;rw[if_pos h3]
  rw[e];exact Zwp _ _ w
 ·rw[if_neg h3]
  by_cases h4:(a.S s).kind=4
  ·rw[if_pos h4]
   have e:a.pow k s=a.cv s:=by unfold Lns.pow;rw[if_neg h3,if_pos h4]
   rw[e];have:=(ha.base.sok s s1).curv;exact Zuh a q s k w h s1 this.1 this.2
  ·rw[if_neg h4]
   have e:a.pow k s=a.cv s*a.step k s-a.gr k s:=by unfold Lns.pow;rw[if_neg h3,if_neg h4]
   rw[e];exact Zru a ha q hchk s k w h s1 k1 hf.f1 hf.f2 hf.f3 hf.f4
theorem Zui (a:Lns) (ha:a.opt) (q:Plc) (hchk:Chk a q) (s k:Nat) (w:World) (h:OptAt w a q) (s1:s<a.ns) (k1:k<a.nw) (hf:PowFits a k s) (m:Nat) (hp:PowsAt w m) :
  Calls Tryz.prog 42 #[.agg (a.vvals q k),.int .i64 (s:Int)] w λe w'=>∃C,e=.returned (.agg C)∧QV w' (.agg C) (a.pow k s)∧Below w.heap.size w w':=by
 obtain⟨b,off,hps,hbl,hcell⟩:=h.surfs.2.2 Zo;have f0:w.cell? ⟨b,off+s*22,none⟩=some (.int .i64 (a.S s).kind):=hcell s 0 s1 Zo;have hc:=λW (hW:Below w.heap.size w W)=>Zwr a ha q hchk s k W (h.below hW) s1 k1 hf;have eg:=Zo5 (a.S s).kind;have hlk:=hp.kind (ha.base.sok s s1).k1 (ha.base.sok s s1).k2;have hpc:=hp.cell;have hpl:=hp.lt;simp only[Lns.vvals]at hc ⊢;rw[hps]at hc ⊢;have s1':(s:Int)<a.ns:=Zo;have hp0:=hp.pos;clear hcell hf;generalize (a.S s).kind=kd at *;generalize (if kd=3 then 276 else if kd=4 then 277 else 275)=g at *;go_enter Tryz.func42,Tryz.ntmps42
 go_wp2_with fail
 refine Zd3 λW hB hs bV bR=>?_;have cV:=bV.cell;have lV:=bV.lt;replace f0:=(hB.cell (p:=⟨b,off+s*22,none⟩) hbl).trans f0;have lb:=Yaf hbl hB.size;have nb:b≠w.heap.size+1:=Zo;have nV:w.heap.size≠w.heap.size+1:=Zo;have n0:0≠w.heap.size+1:=Zo;have l0:0<W.heap.size:=Zo;replace hpc:=(hB.cell (p:=⟨0,0,none⟩) hp0).trans hpc;have hlk':∀w',((∀b o,b<W.heap.size->b≠w.heap.size+1->w'.cell? ⟨b,o,none⟩=W.cell? ⟨b,o,none⟩)∧KeepBut (w.heap.size+1) W.heap.size W w')->(Instr.lookup 161 (.map (some m)) (.int .i64 kd) false).run Tryz.prog w'=.ok (.func (.func g) #[] #[]) w':=λw' hS=>
  hlk w' ((hS.2.block m Zo Zo).trans (hB.block m hpl))
 have hSt:=λ(w':World) (i:Nat) (u:Value)=>CB.set (R:=w.heap.size+1) (W:=W) w' i u;replace hSt:=Yah hSt;replace hlk':=Yah hlk';clear hlk;refine wp_region_held_drew (S:=λw'=>(∀b o,b<W.heap.size->b≠w.heap.size+1->w'.cell? ⟨b,o,none⟩=W.cell? ⟨b,o,none⟩)∧KeepBut (w.heap.size+1) W.heap.size W w') Zk (Zme (KeepBut.refl _ _).drew) (λhHeld=>?_);refine tk 0 (some 5) ?_;refine tk 1 (some 6) ?_;refine tk 2 (some 7) ?_;refine tk 3 (some 8) ?_;refine tk 4 (some 9) ?_;refine tk 5 (some 10) ?_;refine tk 6 (some 11) ?_;refine tk 7 (some 12) ?_;refine tk 8 (some 13) ?_;refine tl 9 (some 14) rfl (.func (.func g) #[] #[]) (Zmd 161 _ _ false rfl (.map (some m)) (.int .i64 kd) _ rfl rfl hlk'.out) ?_;refine tk 10 (some 15) ?_;refine tk 11 (some 16) ?_;refine Mono.st 12 ?_;intro K hK;go_simp
 (refine(hc _ ?_).mono ?_;(exact hHeld.2.below hB Zo hB.size);rintro e W2 ⟨C,rfl,R,hb⟩)
 refine kp hK (Zme (hHeld.2.call hb)) (λhHeld=>?_);clear hK K;obtain⟨C',hC',hC,h1⟩:=R.cells;cases hC';have hi:(Tryz.prog.info? 51).map (·.size)=some C.size:=by rw[hC];exact Zah
 have bR2:=bR.drew.below hb;refine Zjb (w.heap.size+1) 51 13 rfl rfl rfl rfl 0 C _ C Zk hSt.out rfl rfl bR2 hHeld hi (Ybl (by rw[hC];rfl)) h1 (Zaf (by rw[hC];rfl)) (λW3 hk3 b3 hHeld3=>?_);refine wpAnyH_done Zk ?_ _;go_wp2
 refine bodyPost_ret (b3.results rfl _ _ rfl Tryz.underlying51 rfl hi) rfl ?_;exact⟨C,rfl,R.ext (hk3.ext bR2 Zd),hHeld3.2.below hB Zo hB.size⟩
section
open Go.Ex
def pK (m:Nat):Nat->Value
 | 0=>.map (some m)
 | _=>.bool false
theorem pK1 (m:Nat):∀i,(pK m i).oneCell'=true
 | 0=>rfl
 | _+1=>rfl
def powRun (o:Oper) (get:Operand->Option SV):Option SV:=
 match o.op with
 | .load t x => if Nat.beq t 161 then match get x with
   | some (.a (.one (.val (.pointer (some ⟨0,0,none⟩)))))=>some (.a (.one (.tok 0)))
   | _=>none
   else none
 | .lookup t x k false => if Nat.beq t 161 then match get x, get k with
   | some (.a (.one (.tok 0))),some (.a (.one (.val (.int .i64 (.ofNat 1)))))=>some (.a (.one (.clo 275 [])))
   | some (.a (.one (.tok 0))),some (.a (.one (.val (.int .i64 (.ofNat 2)))))=>some (.a (.one (.clo 275 [])))
   | some (.a (.one (.tok 0))),some (.a (.one (.val (.int .i64 (.ofNat 3)))))=>some (.a (.one (.clo 276 [])))
   | some (.a (.one (.tok 0))),some (.a (.one (.val (.int .i64 (.ofNat 4)))))=>some (.a (.one (.clo 277 [])))
   | _,_=>none
   else none
 | _=>none
def powF {K:Nat->Value} {hK:∀i,(K i).oneCell'=true} {w0:World} {m:Nat} (h:PowsAt w0 m) (h0:K 0=.map (some m):=by rfl):Fct (qDen K hK) Tryz.prog w0 (λ_=>False) where
 run:=powRun
 sound:=by
  intro o get x hr ρ wc w ev hfr hg;unfold powRun at hr;split at hr
  ·rename_i t x' ho
   split at hr
   ·rename_i ht
    obtain rfl:=Ybe ht;split at hr
    ·rename_i hx
     cases hr;have e1:ev x'=.pointer (some ⟨0,0,none⟩):=by simpa using(hg _ _ hx).1
     have hc:w.cell? ⟨0,0,none⟩=some (.map (some m)):=(Zel (hfr.block 0 h.pos id) 0).trans h.cell;refine⟨.map (some m),?_,(show[Value.map (some m)]=[K 0] by rw[h0])⟩;unfold execOp;rw[ho];simp only[e1,Instr.loadAt,loadVar,Yar,Instr.sureAddr,Yau,Yag,Zf7 (P:=Tryz.prog) (t:=161) (b:=false) Zk,Ybq,if_false];rw[run_load,hc];rfl
    ·cases hr
   ·cases hr
  ·rename_i t y k ho
   split at hr
   ·rename_i ht
    obtain rfl:=Ybe ht;have hb:w.heap[m]? = w0.heap[m]?:=hfr.block m h.lt id;obtain⟨l1,l2,l3,l4⟩:=h.look w hb
    have go:∀{z:Int} {g:Nat},get y=some (.a (.one (.tok 0)))->get k=some (.a (.one (.val (.int .i64 z))))->(Instr.lookup 161 (.map (some m)) (.int .i64 z) false).run Tryz.prog w=.ok (.func (.func g) #[] #[]) w->
      ∃v,(execOp ev o).run Tryz.prog w=.ok (.value v) w∧denV (qDen K hK) ρ wc (.a (.one (.clo g []))) v:=by
     intro z g hy hk hl;have e1:ev y=.map (some m):=by
      have:[ev y]=[K 0]:=hg _ _ hy;rw[h0]at this;simpa using this
     have e2:ev k=.int .i64 z:=by simpa using(hg _ _ hk).1
     refine⟨_,?_,[],rfl,rfl⟩;unfold execOp;simp only[ho,e1,e2,Yar,hl,Yag,Yau]
    split at hr
    ·rename_i hy hk;cases hr;exact go hy hk l1
    ·rename_i hy hk;cases hr;exact go hy hk l2
    ·rename_i hy hk;cases hr;exact go hy hk l3
    ·rename_i hy hk;cases hr;exact go hy hk l4
    ·cases hr
   ·cases hr
  ·cases hr
end
end Go.Proofs.W
namespace Go.Ex
open Go.RowKit Go.Mono
def srfU (s:Srf) (p:Option Addr) (c:Nat) (l:List U):List U:=
 .sym s.kind::.sym s.curv::.sym s.conic::.sym s.curvx::.sym s.conicx::.sym s.a0::.sym s.a1::.sym s.a2::.sym s.a3::.sym s.p0::.sym s.p1::.sym s.order::.sym s.thick::.val (.string s.glass)::.sym s.semi::.sym s.hole::.sym s.dx::.sym s.dy::.sym s.ax::.sym s.ay::.sym s.az::.val (.slice p s.co.length c)::l
def srfsU (a:Lns) (q:Plc):Nat->Nat->List U
 | _,0=>[]
 | s,n+1=>srfU (a.S s) (q.cp s) (q.cl s) (srfsU a q (s+1) n)
theorem Zuk {D:Den} {ρ:Nm} {w:World} {s:Srf} {p:Option Addr} {c:Nat} {l:List U}:∀{cs:List Value},denL D ρ w (srfU s p c l) cs↔∃ds,cs=(s.cs p c).toList++ds∧denL D ρ w l ds:=by
 intro cs;constructor
 ·rintro⟨_,d0,rfl,h0,_,d1,rfl,h1,_,d2,rfl,h2,_,d3,rfl,h3,_,d4,rfl,h4,_,d5,rfl,h5,_,d6,rfl,h6,_,d7,rfl,h7,_,d8,rfl,h8,_,d9,rfl,h9,_,d10,rfl,h10,_,d11,rfl,h11,_,d12,rfl,h12,_,d13,rfl,⟨h13,_⟩,_,d14,rfl,h14,_,d15,rfl,h15,_,d16,rfl,h16,_,d17,rfl,h17,_,d18,rfl,h18,_,d19,rfl,h19,_,d20,rfl,h20,_,d21,rfl,⟨h21,_⟩,h⟩
  refine⟨d21,?_,h⟩;cases h0;cases h1;cases h2;cases h3;cases h4;cases h5;cases h6;cases h7;cases h8;cases h9;cases h10;cases h11;cases h12;cases h13;cases h14;cases h15;cases h16;cases h17;cases h18;cases h19;cases h20;cases h21;rfl
 ·rintro⟨ds,rfl,h⟩
  exact⟨[_],_,rfl,rfl,[_],_,rfl,rfl,[_],_,rfl,rfl,[_],_,rfl,rfl,[_],_,rfl,rfl,[_],_,rfl,rfl,[_],_,rfl,rfl,[_],_,rfl,rfl,[_],_,rfl,rfl,[_],_,rfl,rfl,[_],_,rfl,rfl,[_],_,rfl,rfl,[_],_,rfl,rfl,[_],_,rfl,⟨rfl,rfl⟩,[_],_,rfl,rfl,[_],_,rfl,rfl,[_],_,rfl,rfl,[_],_,rfl,rfl,[_],_,rfl,rfl,[_],_,rfl,rfl,[_],_,rfl,rfl,[_],_,rfl,⟨rfl,rfl⟩,h⟩
def srfsC (a:Lns) (q:Plc) (s n:Nat):List Value:=(List.range' s n).flatMap λi=>((a.S i).cs (q.cp i) (q.cl i)).toList
theorem Zbe {D:Den} {ρ:Nm} {w:World} {a:Lns} {q:Plc}:∀(n s:Nat) {cs:List Value},denL D ρ w (srfsU a q s n) cs↔cs=srfsC a q s n
 | 0,s,cs=>Iff.rfl
 | n + 1, s, cs => by
   unfold srfsU;rw[Zuk,srfsC,List.range'_succ,List.flatMap_cons];constructor
   ·rintro⟨ds,rfl,h⟩
    rw[(Zbe n (s+1)).1 h];rfl
   ·rintro rfl
    exact⟨_,rfl,(Zbe n (s+1)).2 rfl⟩
theorem Zcg (a:Lns) (q:Plc):∀(n s i j:Nat),i<n->j<22->(srfsC a q s n)[i*22+j]? = some (((a.S (s+i)).cs (q.cp (s+i)) (q.cl (s+i))).getD j undef)
 | 0,_,_,_,h,_=>absurd h Zo
 | n + 1, s, i, j, hi, hj => by
   have e:srfsC a q s (n+1)=((a.S s).cs (q.cp s) (q.cl s)).toList++srfsC a q (s+1) n:=by unfold srfsC;rw[List.range'_succ,List.flatMap_cons]
   have h22:((a.S s).cs (q.cp s) (q.cl s)).toList.length=22:=rfl;rw[e];match i with
   | 0 =>
     rw[Yez,Yba,Ybb Zo,Yce,Yaq,Yax,Yby (show j<((a.S s).cs (q.cp s) (q.cl s)).size from hj)];rfl
   | i + 1 =>
     rw[Ybc Zo,h22,show(i+1)*22+j-22=i*22+j by omega,Zcg a q n (s+1) i j Zo hj,show s+1+i=s+(i+1) by omega]
theorem Zca {w:World} {b o:Nat} {v:Value} (h:w.cell? ⟨b,o,none⟩=some v):b<w.heap.size:=
 Nat.lt_of_not_le λhle=>by
  have:=Yfj hle;simp[World.cell?,this]at h
def optU (a:Lns) (q:Plc) (ns k:Nat):List U:=[.val (.string a.nm),.sym a.di,.sym a.pu,.sym a.st,.sym a.pr,.raw 1 [.slice q.pf a.nf q.cf],.raw 1 [.slice q.pw a.nw q.cw],.slc k 0 ns q.cs,.val (.slice q.pc 0 q.cc),.val (.slice q.pi a.ns q.ci)]
theorem Zex {D:Den} {ρ:Nm} {w:World} {a:Lns} {q:Plc} {ns k:Nat} (hns:a.ns=ns) {cs:List Value}:denL D ρ w (optU a q ns k) cs↔∃B,ρ k=some B∧cs=(a.ovals {q with ps:=some ⟨B.blk,B.base,none⟩}).toList:=by
 subst hns;constructor
 ·rintro⟨_,d0,rfl,⟨h0,_⟩,_,d1,rfl,h1,_,d2,rfl,h2,_,d3,rfl,h3,_,d4,rfl,h4,_,d5,rfl,⟨h5,_⟩,_,d6,rfl,⟨h6,_⟩,_,d7,rfl,⟨B,hB,h7⟩,_,d8,rfl,⟨h8,_⟩,_,d9,rfl,⟨h9,_⟩,h⟩
  refine⟨B,hB,?_⟩;cases h0;cases h1;cases h2;cases h3;cases h4;cases h5;cases h6;cases h7;cases h8;cases h9;obtain rfl:d9=[]:=h;rfl
 ·rintro⟨B,hB,rfl⟩
  exact⟨[_],_,rfl,⟨rfl,rfl⟩,[_],_,rfl,rfl,[_],_,rfl,rfl,[_],_,rfl,rfl,[_],_,rfl,rfl,[_],_,rfl,⟨rfl,rfl,by simp[Value.oneCell']⟩,[_],_,rfl,⟨rfl,rfl,by simp[Value.oneCell']⟩,[_],_,rfl,⟨B,hB,rfl⟩,[_],_,rfl,⟨rfl,rfl⟩,[_],_,rfl,⟨rfl,rfl⟩,rfl⟩
end Go.Ex
namespace Go.Proofs.W
open Go.RowKit Go.Mono
section
open Go.Ex
theorem Zwu {ns:Nat} (h:2<=ns∧ns<=6):ns=2∨ns=3∨ns=4∨ns=5∨ns=6:=Zo
theorem Zrw {a:Lns} (ha:a.opt) (q:Plc):Chk a q:=λW h=>Zmc a ha q W h
def srfB (a:Lns) (q:Plc) (ns:Nat):Blk:=⟨115,srfsU a q 0 ns,true,false,false⟩
def seesO (a:Lns) (q:Plc) (ns:Nat) (l:List U) (bk:List (Nat×Blk)):Option (List Prop):=
 match l with
 | [_,_,_,_,_,_,_,.slc k _ _ _,_,_]=>(bk.look k).map λb=>[l=optU a q ns k,b=srfB a q ns]
 | _=>none
theorem Zb4 {D:Den} {w:World} {a:Lns} {q:Plc} {ns:Nat} (hns:a.ns=ns) (h0:2<=ns) (ho:OptAt w a q) {l:List U} {bk:List (Nat×Blk)} {L:List Prop} (h:seesO a q ns l bk=some L) (hL:∀p∈L,p) {ρ:Nm} (hb:BkOk D ρ w w bk) {cs:List Value} (hd:denL D ρ w l cs) :
  ∃q',cs=(a.ovals q').toList∧OptAt w a q'∧q'.cp=q.cp∧q'.cl=q.cl:=by
 unfold seesO at h;split at h
 ·rename_i k _ _ _ _ _
  obtain⟨b,hk,e⟩:=Yad.1 h;subst e;have e1:=hL _ (Ycl ..);have e2:b=srfB a q ns:=hL _ Zs;subst e2;rw[e1]at hd;obtain⟨B,hB,rfl⟩:=(Zex hns).1 hd;obtain⟨B',cs',hB',hH,hC,_⟩:=hb _ _ hk rfl;rw[hB]at hB';cases hB';obtain rfl:=(Zbe ns 0).1 hC;refine⟨_,rfl,⟨⟨ho.fields,ho.waves,?_,ho.coat⟩,ho.index,ho.row⟩,rfl,rfl⟩;obtain⟨h1,h2,_⟩:=ho.surfs;have hc:=λi j (hi:i<a.ns) (hj:j<22)=>hH.cell (Zcg a q ns 0 i j Zo hj);refine⟨h1,h2,λ_=>⟨B.blk,B.base,rfl,Zca (hc 0 0 Zo Zd),λi j hi hj=>?_⟩⟩;have:=hc i j hi hj;rw[Yba]at this;rw[Ybj];exact this
 ·cases h
def viewOf (l:List U):Option (List U×Int):=
 match l with
 | [a, b, c, d, e, f, g, h, i, j, x] => match Ex.intOf (some (.a (.one x))) with
   | some (.i64,k,_)=>some ([a,b,c,d,e,f,g,h,i,j],k)
   | _=>none
 | _=>none
theorem Zrx {D:Den} {ρ:Nm} {w:World} {l m:List U} {k:Int} (h:viewOf l=some (m,k)) {cs:List Value} (hd:denL D ρ w l cs):∃ds,cs=ds++[.int .i64 k]∧denL D ρ w m ds:=by
 unfold viewOf at h;split at h
 ·split at h
  ·rename_i hx
   cases h;obtain⟨c0,d0,rfl,h0,c1,d1,rfl,h1,c2,d2,rfl,h2,c3,d3,rfl,h3,c4,d4,rfl,h4,c5,d5,rfl,h5,c6,d6,rfl,h6,c7,d7,rfl,h7,c8,d8,rfl,h8,c9,d9,rfl,h9,c10,d10,rfl,h10,hd⟩:=hd;obtain rfl:d10=[]:=hd;obtain⟨v,rfl⟩:∃v,c10=[v]:=by
    unfold Ex.intOf at hx;split at hx
    ·rename_i e;cases e;exact⟨_,h10.1⟩
    ·rename_i e;cases e;exact⟨_,h10⟩
    ·rename_i e;cases e;exact⟨_,h10⟩
    ·cases hx
   obtain rfl:=Za6 (D:=D) (ρ:=ρ) (w:=w) hx h10;exact⟨c0++(c1++(c2++(c3++(c4++(c5++(c6++(c7++(c8++(c9++[]))))))))),Zs,c0,_,rfl,h0,c1,_,rfl,h1,c2,_,rfl,h2,c3,_,rfl,h3,c4,_,rfl,h4,c5,_,rfl,h5,c6,_,rfl,h6,c7,_,rfl,h7,c8,_,rfl,h8,c9,_,rfl,h9,rfl⟩
  ·cases h
 ·cases h
variable {K:Nat->Value} {hK:∀i,(K i).oneCell'=true}
def ofRunT (args:List SA) (bk:List (Nat×Blk)) (orc:List (Option Bool)):Option (SV×List Prop×List (Option Bool)):=
 match args with
 | [x, y] => match Ex.intOf (some (.a x)), Ex.intOf (some (.a y)) with
   | some (.i64,n,_),some (.i64,d,_)=>some (.tup [.agg [.quo (Rat.divInt n d)],okV],[inR n,inR d,d≠0],orc)
   | _,_=>none
 | _=>none
def cOfT (w0:World) (X:Nat->Prop):Ctr (qDen K hK) Tryz.prog w0 X:=.plain 64 ofRunT<|by
    intro args bk orc v obl orc' hr hobl ρ w vals hfr hb hargs;unfold ofRunT at hr;split at hr
    ·rename_i x y
     split at hr
     ·rename_i n s d s' hx hy
      cases hr;obtain⟨v1,r1,rfl,h1,v2,r2,rfl,h2,h3⟩:=hargs;obtain rfl:r2=[]:=h3;obtain rfl:=Za6 (D:=qDen K hK) (ρ:=ρ) (w:=w) hx h1;obtain rfl:=Za6 (D:=qDen K hK) (ρ:=ρ) (w:=w) hy h2;obtain⟨a1,a2⟩:=hobl (inR n) Zs;obtain⟨b1,b2⟩:=hobl (inR d) Zs;refine(Zq9 n d (hobl (d≠0) Zs) w a1 a2 b1 b2).mono ?_;rintro e w' ⟨r,rfl,hr,hbl⟩;exact⟨_,rfl,⟨[r,.int .i64 0],rfl,_,_,rfl,den_quo.2 hr,_,_,rfl,⟨rfl,rfl⟩,rfl⟩,hbl⟩
     ·cases hr
    ·cases hr
def surfRun (a:Lns) (q:Plc) (ns:Nat) (f:Nat->Nat->Rat) (ob:Nat->Nat->List Prop) (args:List SA) (bk:List (Nat×Blk)) (orc:List (Option Bool)):Option (SV×List Prop×List (Option Bool)):=
 match args with
 | [.agg l, x] => match viewOf l, Ex.intOf (some (.a x)) with
   | some (m,k),some (.i64,s,_)=>(seesO a q ns m bk).map λL=>(.a (.agg [.quo (f k.toNat s.toNat)]),L++(0<=k∧k<a.nw)::(0<=s∧s<(ns:Int))::ob k.toNat s.toNat,orc)
   | _,_=>none
 | _=>none
def surfCtr {a:Lns} (ha:a.opt) {q:Plc} {ns:Nat} (hns:a.ns=ns) {w0:World} (ho:OptAt w0 a q) (g:FuncId) (f:Nat->Nat->Rat) (ob:Nat->Nat->List Prop)
    (hg:∀q' k s w,OptAt w a q'->Below w0.heap.size w0 w->k<a.nw->s<a.ns->(∀p∈ob k s,p)->Calls Tryz.prog g #[.agg (a.vvals q' (k:Int)),.int .i64 (s:Int)] w λe w'=>∃C,e=.returned (.agg C)∧QV w' (.agg C) (f k s)∧Below w.heap.size w w'):Ctr (qDen K hK) Tryz.prog w0 (λ_=>False):=.plain g (surfRun a q ns f ob)<|by
 intro args bk orc v obl orc' hr hobl ρ w vals hfr hb hargs;unfold surfRun at hr;split at hr
 ·rename_i l x
  split at hr
  ·rename_i m k s b hm hx
   obtain⟨L,hL,e⟩:=Yad.1 hr;cases e;obtain⟨v1,r1,rfl,⟨cs,rfl,d1⟩,v2,r2,rfl,d2,h3⟩:=hargs;obtain rfl:r2=[]:=h3;obtain rfl:=Za6 (D:=qDen K hK) (ρ:=ρ) (w:=w) hx d2;obtain⟨ds,rfl,d3⟩:=Zrx hm d1;have hn2:=ha.base.ns.1;obtain⟨q',rfl,ho',_⟩:=Zb4 hns Zo (ho.below hfr.below) hL (λp hp=>hobl p (Ycy _ hp)) hb d3;obtain⟨k0,k1⟩:=hobl (0<=k∧k<a.nw) Zs;obtain⟨s0,s1⟩:=hobl (0<=s∧s<(ns:Int)) Zs;obtain⟨sn,rfl⟩:∃sn:Nat,s=sn:=⟨s.toNat,Zo⟩
   obtain⟨kn,rfl⟩:∃kn:Nat,k=kn:=⟨k.toNat,Zo⟩
   simp only[Ycb]at hobl;refine(hg q' kn sn w ho' hfr.below Zo Zo (λp hp=>hobl p (by simp[hp]))).mono ?_;rintro e w' ⟨C,rfl,hC,hbl⟩;refine⟨_,rfl,?_,hbl⟩;rw[Ycb,Ycb];exact den_quo.2 hC
  ·cases hr
 ·cases hr
def obPow (a:Lns) (k s:Nat):List Prop:=[PowFits a k s]
def cIdxN {a:Lns} (ha:a.opt) {q:Plc} {ns:Nat} (hns:a.ns=ns) {w0:World} (ho:OptAt w0 a q):Ctr (qDen K hK) Tryz.prog w0 (λ_=>False):=
 surfCtr ha hns ho 38 a.nI (λ_ _=>[]) λq' k s w h _ k1 s1 _=>Zi8 a ha q' (Zrw ha q') s k w h s1 k1
def cPowN {a:Lns} (ha:a.opt) {q:Plc} {ns m:Nat} (hns:a.ns=ns) {w0:World} (ho:OptAt w0 a q) (hp:PowsAt w0 m):Ctr (qDen K hK) Tryz.prog w0 (λ_=>False):=
 surfCtr ha hns ho 42 a.pow (obPow a) λq' k s w h hB k1 s1 hob=>Zui a ha q' (Zrw ha q') s k w h s1 k1 (hob _ (Ycl ..)) m (hp.below hB)
def lookRun (a:Lns) (q:Plc) (ns:Nat) (args:List SA) (bk:List (Nat×Blk)) (orc:List (Option Bool)):Option (SV×List Prop×List (Option Bool)):=
 match args with
 | [.agg l, x] => match Ex.intOf (some (.a x)), l with
   | some (.i64,k,_),[a0,a1,a2,a3,a4,a5,a6,a7,a8,a9]=>(seesO a q ns l bk).map λL=>(.a (.agg [a0,a1,a2,a3,a4,a5,a6,a7,a8,a9,.sym k]),L++[0<=k∧k<a.nw],orc)
   | _,_=>none
 | _=>none
def cLookN {a:Lns} (ha:a.opt) {q:Plc} {ns:Nat} (hns:a.ns=ns) {w0:World} (ho:OptAt w0 a q):Ctr (qDen K hK) Tryz.prog w0 (λ_=>False):=.plain 36 (lookRun a q ns)<|by
 intro args bk orc v obl orc' hr hobl ρ w vals hfr hb hargs;unfold lookRun at hr;split at hr
 ·rename_i l x
  split at hr
  ·rename_i k b a0 a1 a2 a3 a4 a5 a6 a7 a8 a9 hx
   obtain⟨L,hL,e⟩:=Yad.1 hr;cases e;obtain⟨v1,r1,rfl,⟨cs,rfl,d1⟩,v2,r2,rfl,d2,h3⟩:=hargs;obtain rfl:r2=[]:=h3;obtain rfl:=Za6 (D:=qDen K hK) (ρ:=ρ) (w:=w) hx d2;have hn2:=ha.base.ns.1;obtain⟨q',rfl,ho',_⟩:=Zb4 hns Zo (ho.below hfr.below) hL (λp hp=>hobl p (Ycy _ hp)) hb d1;obtain⟨k0,k1⟩:=hobl (0<=k∧k<a.nw) Zs;obtain⟨kn,rfl⟩:∃kn:Nat,k=kn:=⟨k.toNat,Zo⟩
   refine(Zwt a q' (Zrw ha q') kn w ho' Zo).mono ?_;rintro e w' ⟨rfl,hbl⟩;refine⟨_,rfl,⟨(a.ovals q').toList++[.int .i64 (kn:Int)],rfl,?_⟩,hbl⟩;have hE:Ext w w':=.of_below hbl;obtain⟨c0,d0,e0,h0,c1,d1,rfl,h1,c2,d2,rfl,h2,c3,d3,rfl,h3,c4,d4,rfl,h4,c5,d5,rfl,h5,c6,d6,rfl,h6,c7,d7,rfl,h7,c8,d8,rfl,h8,c9,d9,rfl,h9,hd⟩:=(denL.mono (Nm.le.refl ρ) hE d1)
   obtain rfl:d9=[]:=hd;rw[e0];simp only[Ybx,Ydp];exact⟨c0,_,rfl,h0,c1,_,rfl,h1,c2,_,rfl,h2,c3,_,rfl,h3,c4,_,rfl,h4,c5,_,rfl,h5,c6,_,rfl,h6,c7,_,rfl,h7,c8,_,rfl,h8,c9,_,rfl,h9,[_],[],rfl,rfl,rfl⟩
  ·cases hr
 ·cases hr
end
end Go.Proofs.W
