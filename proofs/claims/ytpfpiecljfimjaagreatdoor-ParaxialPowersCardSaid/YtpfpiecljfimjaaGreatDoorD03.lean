/- The drafted optics of chapter 13: what it is and that it is valid. Part 3 of 14. No condition beside the row. -/
import Derived.Laws.AppendOwn
import Derived.Laws.AppendOwnNone
import Derived.Great.BuildSlice
import Derived.Great.FillDense
import Derived.Test.YtpfpiecljfimjaaGreatDoorA03
import Derived.Test.YtpfpiecljfimjaaGreatDoorA06
import Derived.Test.YtpfpiecljfimjaaGreatDoorA09
import Derived.Test.YtpfpiecljfimjaaGreatDoorA13
import Derived.Test.YtpfpiecljfimjaaGreatDoorA23
import Derived.Test.YtpfpiecljfimjaaGreatDoorD02
set_option linter.unusedVariables false
set_option linter.unusedSimpArgs false
set_option maxRecDepth 100000
set_option maxHeartbeats 4000000
namespace Go.Proofs.W
open Go.RowKit Go.Mono
theorem Zsu {v1:Value} {a:Rat} (w:World) (h1:QtV 600 w v1 a) :
  Calls Tryz.prog 183 #[v1] w λe w'=>e=.returned (.tuple #[.int .i64 a.num.sign,.int .i64 0])∧Below w.heap.size w w':=by
 have hr1:=λ(X:World) (hX:Ext w X)=>Zbq X (h1.ext hX);obtain⟨s1,p1,n1,c1,t1,q1,m1,d1,rfl,x1,x2⟩:=h1;go_enter Tryz.func183,Tryz.ntmps183
 go_wp2_with fail
 refine Zbg λW hB hs b0=>?_;refine(hr1 W (.of_below hB)).mono ?_;rintro e W2 ⟨rfl,hb⟩;replace b0:=b0.below hb;replace hB:=Zaa hB hb;clear hb hr1 hs;go_wp2_with fail
 refine wp_region_held_drew (S:=λw'=>(∀b o,b<W2.heap.size->w'.cell? ⟨b,o,none⟩=W2.cell? ⟨b,o,none⟩)∧Below W2.heap.size W2 w') Zx (Za1 (Yae _ _).drew) (λhHeld=>?_);have hBel:Below W2.heap.size W2 W2.drew:=(Yae _ _).drew;have hpre:∀w',Below W2.heap.size W2 w'->w'.rangeAt w.heap.size 0 (#[Value.bool s1,Value.slice p1 n1 c1]:Array Value).toList:=λw' h j v hj=>by
  have hc:=(b0.below h).cell (0+j);match j,hj with
  | 0,hj=>cases hj;exact hc
  | 1,hj=>cases hj;exact hc
  | j+2,hj=>simp at hj
 refine tk 0 (some 7) ?_;refine tl 1 (some 8) rfl (.agg #[.bool s1,.slice p1 n1 c1]) (Zai 49 _ rfl w.heap.size 0 rfl #[.bool s1,.slice p1 n1 c1] (λw' h=>hpre w' h.2) _ Tryz.underlying49 rfl Zae) ?_;refine Mono.stc 2 (some 9) (Zea 0 _ Zd Zd) (λe Wn2 hR=>?_);obtain⟨V2,rfl,R2,hb2⟩:=hR;replace hBel:=Zaa hBel hb2;refine⟨Za1 (Zaa hHeld.2 hb2),λhHeld=>Mono.pt ?_⟩;refine Mono.stc 3 (some 10) (Zft _ (x1.ext ((Ext.of_below hB).trans (.of_below hBel))) R2) (λe Wn3 hR=>?_);obtain⟨rfl,hb3⟩:=hR;replace hBel:=Zaa hBel hb3;refine⟨Za1 (Zaa hHeld.2 hb3),λhHeld=>Mono.pt ?_⟩;refine tk 4 (some 2) ?_;refine tk 5 (some 3) ?_;refine wpAnyH_done Zx ?_ _;go_wp2
 go_ret2
 exact⟨Zs,Zaa hB hBel⟩
theorem Ze6 (s:ByteArray) (hs:NameOk s) (w:World) :
  Calls Tryz.prog 110 #[.string s] w λe w'=>e=.returned (.bool true)∧w'=w:=by
 obtain⟨h0,h1,hl⟩:=hs;go_enter Tryz.func110,Tryz.ntmps110
 go_wp2
 go_loopw [3] (λx wr=>∃k:Nat,k<=s.size∧x=.int .i64 (k:Int)∧wr=w) (λx _=>(s.size-intOf x).toNat)
 case atStart=>exact⟨0,Yat _,rfl,rfl⟩
 case round=>
  obtain⟨k,hk,rfl,rfl⟩:=hrel;by_cases hks:k<s.size
  ·have hlk:=hl k hks
   have h0':(k:Int)<s.size:=Zo;have hg:s.data[k]? = some s[k]:=by
    rw[Yby (by exact hks)];rfl
   clear hl;generalize hz:(s[k].toNat:Int)=z at *;rcases hlk with ⟨h1,h2⟩|⟨h1,h2⟩|⟨h1,h2⟩|h1|h1
   ·go_wp2
    go_roundw
    case rel=>refine⟨k+1,Zo,?_⟩;simp
    case measure=>simp[intOf];omega
   ·have h3:65<=z:=by omega
    have h4:¬(z<=90):=Zo;go_wp2
    go_roundw
    case rel=>refine⟨k+1,Zo,?_⟩;simp
    case measure=>simp[intOf];omega
   ·have h3:¬(65<=z):=by omega
    have h4:¬(97<=z):=Zo;go_wp2
    go_roundw
    case rel=>refine⟨k+1,Zo,?_⟩;simp
    case measure=>simp[intOf];omega
   ·subst h1
    go_wp2
    go_roundw
    case rel=>refine⟨k+1,Zo,?_⟩;simp
    case measure=>simp[intOf];omega
   ·subst h1
    go_wp2
    go_roundw
    case rel=>refine⟨k+1,Zo,?_⟩;simp
    case measure=>simp[intOf];omega
  ·obtain rfl:k=s.size:=by omega
   have h0':(1:Int)<=s.size:=Zo;have h1':(s.size:Int)<=16:=Zo;go_wp2
   go_ret
   exact⟨rfl,rfl⟩
theorem Zsa (f:Flm) (hf:f.ok) (w:World) :
  Calls Tryz.prog 211 #[.agg f.vals] w λe w'=>e=.returned (.bool true)∧Below w.heap.size w w':=by
 obtain⟨h1,h2,h3,h4,h5,h6⟩:=hf;unfold Flm.vals;go_enter Tryz.func211,Tryz.ntmps211
 go_wp2
 go_ret
 exact⟨rfl,Zad (Yae _ _) _⟩
end Go.Proofs.W
namespace Go.Mono
open Go.RowKit
def crow (C:Nat->List Value):Nat->List Value
 | 0=>[]
 | n+1=>crow C n++C n
theorem Zbn {C:Nat->List Value} {sz:Nat} (h:∀i,(C i).length=sz):∀n,(crow C n).length=n*sz
 | 0=>by simp[crow]
 | n+1=>by rw[crow,Yay,Zbn h n,h n,Yeb]
theorem Zgj {C:Nat->List Value} {sz:Nat} (h:∀i,(C i).length=sz):∀(n i j:Nat),i<n->j<sz->(crow C n)[i*sz+j]? = (C i)[j]?
 | 0,i,j,hi,hj=>Zo
 | n + 1, i, j, hi, hj => by
   rw[crow];by_cases hin:i<n
   ·have:i*sz+j<n*sz:=by
     have:=Ybd sz (show i+1<=n by omega);rw[Yeb]at this;omega
    rw[Ybb (by rw[Zbn h];exact this)];exact Zgj h n i j hin hj
   ·obtain rfl:i=n:=by omega
    rw[Ybc (by rw[Zbn h];omega),Zbn h,Nat.add_sub_cancel_left]
theorem Zas {C D:Nat->List Value}:∀{n:Nat},(∀i,i<n->C i=D i)->crow C n=crow D n
 | 0,_=>rfl
 | n+1,h=>by rw[crow,crow,Zas λi hi=>h i Zo,h n Zo]
def ccat (C:Nat->List Value) (n:Nat) (H:Nat->List Value) (i:Nat):List Value:=if i<n then C i else H (i-n)
theorem Zn5 (C H:Nat->List Value) (n:Nat):∀m,crow C n++crow H m=crow (ccat C n H) (n+m)
 | 0 => by
   rw[Zas (C:=C) (D:=ccat C n H) (λi hi=>by unfold ccat;rw[if_pos hi])];simp[crow]
 | m + 1 => by
   show crow C n++(crow H m++H m)=crow (ccat C n H) (n+m)++ccat C n H (n+m);rw[<-Ybx,Zn5 C H n m];congr 1
   unfold ccat;rw[if_neg Zo,Nat.add_sub_cancel_left]
theorem Zn6 {C:Nat->List Value}:∀{n:Nat},(∀i,i<n->∀u∈C i,u.oneCell'=true)->∀u∈crow C n,u.oneCell'=true
 | 0,_,u,hu=>by cases hu
 | n + 1, h, u, hu => by
   rw[crow,Ycn]at hu;rcases hu with hu|hu
   ·exact Zn6 (λi hi=>h i Zo) u hu
   ·exact h n Zo u hu
theorem Zeb {w:World} {base:Nat} {p:Option Addr} {n cap sz:Nat} {e:TypeId} {C:Nat->List Value} (hC:∀i,(C i).length=sz) (h:w.ownsRow base e sz (.slice p n cap) n (crow C n)) (hn:n<=1000):RdC w p n cap sz (λi j=>(C i).getD j undef):=by
 obtain⟨hl,h⟩:=h;rcases h with ⟨h1,h0⟩|⟨g',cap',cur,hv,hb,hg,h1,h2,h3,h4⟩
 ·cases h1
  exact⟨Yab _,Zo,λh=>Zo⟩
 ·cases hv
  refine⟨h1,Zo,λ_=>⟨g',0,rfl,Zam hg,λi j hi hj=>?_⟩⟩;have hc:=(Box.mk hg).cell (0+i*sz+j);rw[hc,<-Yaq,Yba];have:=Zgj hC n i j hi hj;have hlt:i*sz+j<n*sz:=by
   have:=Ybd sz (show i+1<=n by omega);rw[Yeb]at this;omega
  rw[<-h4,List.getElem?_take_of_lt hlt]at this;dsimp only;rw[this,Yac,Yao (by rw[hC];exact hj)];rfl
theorem Zay {w:World} {base:Nat} {p:Option Addr} {n cap sz:Nat} {e:TypeId} {C:Nat->List Value} {f:Nat->Nat->Value} (hC:∀i,(C i).length=sz) (hf:∀i j,i<n->j<sz->(C i).getD j undef=f i j) (h:w.ownsRow base e sz (.slice p n cap) n (crow C n)) (hn:n<=1000):RdC w p n cap sz f:=by
 obtain⟨h1,h2,h3⟩:=Zeb hC h hn;refine⟨h1,h2,λh0=>?_⟩;obtain⟨b,off,hp,hb,hc⟩:=h3 h0;exact⟨b,off,hp,hb,λi j hi hj=>by
  rw[hc i j hi hj];exact congrArg some (hf i j hi hj)⟩
theorem Zie {w:World} {base n size:Nat} {v:Value} {e:TypeId} {vals:List Value} (h:w.ownsRow base e size v n vals):∃p c,v=.slice p n c∧(p=none->n=0∧c=0):=by
 obtain⟨hl,h⟩:=h;rcases h with ⟨h1,h0⟩|⟨g,cap,cur,hv,_⟩
 ·exact⟨none,0,by rw[h1,h0],λ_=>⟨h0,rfl⟩⟩
 ·exact⟨_,_,hv,λh=>by cases h⟩
theorem Zus {w:World} {b:Addr} {m c sz:Nat} {H:Nat->List Value} (hH:∀i,(H i).length=sz) (h:RdC w (some b) m c sz (λi j=>(H i).getD j undef)) (hsz:0<sz):∀j u,(crow H m)[j]? = some u->w.cell? (b.add j)=some u:=by
 intro j u hj;have hl:j<(crow H m).length:=(Yan.1 hj).1;rw[Zbn hH]at hl;have hm:0<m:=Yck λe=>by rw[e,Yez]at hl;omega
 obtain⟨b',off,hp,hb,hc⟩:=h.2.2 hm;cases hp;have hd:j/sz<m:=Nat.div_lt_of_lt_mul (by rw[Ycu];exact hl);have hr:j%sz<sz:=Nat.mod_lt _ hsz;have h1:=hc (j/sz) (j%sz) hd hr;have h2:=Zgj hH m (j/sz) (j%sz) hd hr;rw[show j/sz*sz+j%sz=j by rw[Ycu];exact Nat.div_add_mod j sz]at h2;rw[h2]at hj;have h3:(H (j/sz)).getD (j%sz) undef=u:=by rw[Yac,hj];rfl
 dsimp only at h1;rw[h3]at h1;rw[Addr.add_lit,<-h1];congr 2
 have:=Nat.div_add_mod j sz;rw[Ycu]at this;omega
theorem Zsb {P:Program} {ts te:TypeId} {i:TypeInfo} {z:Value} {sz bytes:Nat} (h1:P.underlying ts=some (.slice te)) (h2:P.info? te=some i) (h3:i.zero=some z) (h4:i.size=sz) (h5:i.bytes=bytes) (h6:z.cells.size=sz) (h7:0<sz)
  (ty:TypeId) {V:World} {base:Nat} {v:Value} {n:Nat} {C:Nat->List Value} (hown:V.ownsRow base te sz v n (crow C n)) {q:Option Addr} {m c:Nat} {H:Nat->List Value} (hH:∀i,(H i).length=sz) (hH1:∀i,i<m->∀u∈H i,u.oneCell'=true)
  (hq:RdC V q m c sz (λi j=>(H i).getD j undef)) (hnil:q=none->m=0∧c=0) (hbase:base<=V.heap.size) (hnm:n+m<=1000) (hby:(n+m)*bytes<=140737488355328) :
  ∃p' c' W,(Builtin.append_ #[ts,ts] ty #[v,.slice q m c]).run P V=.ok (.slice p' (n+m) c') W∧W.ownsRow base te sz (.slice p' (n+m) c') (n+m) (crow (ccat C n H) (n+m))∧V.grownBy W v.ownBlock∧(p'=none->n+m=0∧c'=0):=by
 have hf:=Zn5 C H n m;cases q with
 | none =>
   obtain⟨rfl,rfl⟩:=hnil rfl;have hrun:=run_append_owned_none (P:=P) (w:=V) base ts ty te i sz h1 h2 v n _ hown;obtain⟨p',c',rfl,hn⟩:=Zie hown;refine⟨p',c',V,hrun,?_,⟨rfl,rfl,rfl,Yab _,λ_ _ _=>rfl⟩,hn⟩;rw[<-hf];simpa[crow]using hown
 | some b =>
   obtain⟨v',W,hr,g1,g2,_⟩:=run_append_own (P:=P) V base ts ty te i z sz bytes h1 h2 h3 h4 h5 h6 h7 v n _ hown b m c (crow H m) (Zbn hH m) (Zus hH hq h7) (Zn6 hH1) (by simp[maxLen];omega) hby hbase;obtain⟨p',c',rfl,hn⟩:=Zie g1;rw[hf]at g1;exact⟨p',c',W,hr,g1,g2,hn⟩
theorem Zbu {P:Program} {w w':World} {o:Oper} {a:Act} {v':Value} (s x:Operand) (t tn:TypeId) (ho:o.op=.call {callee:=.builtin .append,args:=#[s,x],argTypes:=#[t,tn]}) (vs vx:Value) (hs:a.eval s=vs) (hx:a.eval x=vx)
  (hr:(Builtin.append_ #[t,tn] o.type #[vs,vx]).run P w=.ok v' w'):(execOp a.eval o).run P w=.ok (.value v') w':=by
 unfold execOp;simp only[ho,resolve,invoke,builtin,Yar,Yau,Yag,Yev,Ybz,Yfp,hs,hx,hr]
theorem Zk7 {P:Program} {ops:Array Oper} {Q:Exit->Act->World->Prop} {o:Oper} {rest:List Oper} {a:Act} {w w':World} {v:Value} (hg:o.guard=none) (hx:(execOp a.eval o).run P w=.ok (.value v) w') (h:wpList P ops Q rest (a.put o.dst v) w'):wpList P ops Q (o::rest) a w:=by
 refine wpList_plain hg λK hK=>?_;unfold Oper.wp;rw[hx,Oper.upon_value];exact hK _ _ h
theorem Zcw {w:World} {T:TypeId} {B n sz base:Nat} {cs:Array Value} {C:Nat->List Value} (b:Box w B T cs) (hb:base<=B) (hn:n<=1000) (hC:∀i,(C i).length=sz) (hcs:cs.toList=crow C n):w.ownsRow base T sz (.slice (some ⟨B,0,none⟩) n n) n (crow C n):=by
 have hl:=Zbn hC n;refine⟨hl,.inr ⟨B,n,cs,rfl,hb,b.blk,Yab _,by simp[maxLen];omega,?_,?_⟩⟩
 ·rw[<-Yaz,hcs,hl]
 ·rw[hcs,Ycm Zo]
theorem Zds {P:Program} {ts te:TypeId} {i:TypeInfo} {z:Value} {sz:Nat} (h1:P.underlying ts=some (.slice te)) (h2:P.info? te=some i) (h3:i.zero=some z) (h4:i.size=sz) (h7:0<sz) (h8:sz<=1000) (A:Array Value) (hA:A.size=sz) (w:World) :
  (Instr.buildSlice ts 1 #[(0,.agg A)]).run P w=.ok (.slice (some ⟨w.heap.size,0,none⟩) 1 1) (w.alloc (.cells A te)):=by
 subst h4;refine Go.run_buildSlice w ts te 1 _ A i z h1 h2 h3 Zo Zo ?_;have:=Go.Great.fill_whole (s:=i.size) h7 [.agg A] ((Array.range (1*i.size)).map (z.cells[· % z.cells.size]!)) (λv hv=>by obtain rfl:=Ycd.1 hv;exact hA) Zs;simpa[List.zipIdx,Value.cells]using this
theorem Zaz {P:Program} {ops:Array Oper} {Q:Exit->Act->World->Prop} {op:Oper} {rest:List Oper} {a:Act} {w:World} (T:TypeId) (m:Nat) (parts:Array (Nat×Operand)) (hg:op.guard=none) (ho:op.op=.buildSlice T m parts) {ps:Array (Nat×Value)} (hp:parts.map (λ(i,x)=>(i,a.eval x))=ps) {E:TypeId} {zs:Array Value} {n c:Nat}
  (hrun:∀w,(Instr.buildSlice T m ps).run P w=.ok (.slice (some ⟨w.heap.size,0,none⟩) n c) (w.alloc (.cells zs E)))
  (h:∀V B,w.heap.size<=B->Below w.heap.size w V->Box V B E zs->wpList P ops Q rest (a.put op.dst (.slice (some ⟨B,0,none⟩) n c)) V):wpList P ops Q (op::rest) a w:=
 wpList_step λK hK=>by
  have hw:Region.wanted op (yielded ops a.tmps)=true:=by simp[Region.wanted,hg]
  simp only[hw,if_true];unfold Oper.wp execOp;simp only[ho,hp,Yar,hrun,Yag,Yau];exact hK _ _ (h _ _ (Yab _) ((Yae _ _).alloc (Yab _) _) (Box.new _ _ _))
def cupd (C:Nat->List Value) (i:Nat) (t:List Value) (k:Nat):List Value:=if k=i then t else C k
theorem Zn7 {C:Nat->List Value} {sz i:Nat} {t:List Value} (hC:∀k,(C k).length=sz) (ht:t.length=sz):∀n,i<n->(crow C n).take (i*sz)++t++(crow C n).drop (i*sz+sz)=crow (cupd C i t) n
 | 0,h=>Zo
 | n + 1, h => by
   have hl:=Zbn hC n;have hv:=hC n;by_cases e:i=n
   ·subst e
    show(crow C i++C i).take (i*sz)++t++(crow C i++C i).drop (i*sz+sz)=crow (cupd C i t) i++cupd C i t i;rw[List.take_left' hl,Yfi (by rw[Yay,hl,hv];exact Yab _),Ydg];rw[Zas (C:=C) (D:=cupd C i t) (λk hk=>by unfold cupd;rw[if_neg (show ¬k=i by omega)])];simp[cupd]
   ·have ih:=Zn7 (i:=i) hC ht n Zo
    have h1:i*sz+sz<=n*sz:=by
     have:=Ybd sz (show i+1<=n by omega);rw[Yeb]at this;exact this
    show(crow C n++C n).take (i*sz)++t++(crow C n++C n).drop (i*sz+sz)=crow (cupd C i t) n++cupd C i t n;rw[Yfr (show i*sz<=(crow C n).length by omega),List.drop_append_of_le_length (show i*sz+sz<=(crow C n).length by omega),<-Ybx,ih];congr 1
    unfold cupd;rw[if_neg (show ¬n=i by omega)]
theorem Zg9 {W W':World} {base g n cap sz i:Nat} {e:TypeId} {C:Nat->List Value} {t:List Value} {cur new:Array Value} (hC:∀k,(C k).length=sz) (ht:t.length=sz) (h:W.ownsRow base e sz (.slice (some ⟨g,0,none⟩) n cap) n (crow C n)) (b:Box W g e cur) (hi:i<n)
  (hnew:cur.toList.take (i*sz)++t++cur.toList.drop (i*sz+sz)=new.toList) (b':Box W' g e new):W'.ownsRow base e sz (.slice (some ⟨g,0,none⟩) n cap) n (crow (cupd C i t) n):=by
 obtain⟨hl,h⟩:=h;rcases h with ⟨h1,h0⟩|⟨g',cap',cur',hv,hb,hg,h1,h2,h3,h4⟩
 ·cases h1
 ·cases hv
  have hc:cur'=cur:=by
   have:=hg.symm.trans b.blk;simpa using this
  subst hc;have hlen:(i*sz+sz)<=n*sz:=by
   have:=Ybd sz (show i+1<=n by omega);rw[Yeb]at this;exact this
  have hcl:cur'.toList.length=cap*sz:=by rw[Yaz];exact h3
  have hcn:n*sz<=cap*sz:=Ybd sz h1;have hC':∀k,(cupd C i t k).length=sz:=λk=>by unfold cupd;split;exact ht;exact hC k
  refine⟨Zbn hC' n,.inr ⟨g,cap,new,rfl,hb,b'.blk,h1,h2,?_,?_⟩⟩
  ·rw[<-Yaz,<-hnew,Yay,Yay,Ycq,Yfs,hcl,ht]
   omega
  ·rw[<-hnew,<-Zn7 hC ht n hi,<-h4]
   have hl1:(cur'.toList.take (i*sz)).length=i*sz:=by rw[Ycq,hcl];omega
   rw[List.take_append,Ycm (by rw[Yay,hl1,ht];exact hlen),Yay,hl1,ht,List.take_take,List.drop_take,Nat.min_eq_left Zo]
theorem Zao {P:Program} {ops:Array Oper} {Q:Exit->Act->World->Prop} {o:Oper} {rest:List Oper} {a:Act} {V:World} (hg:o.guard=none) (s x:Operand) {ts te:TypeId} (ho:o.op=.call {callee:=.builtin .append,args:=#[s,x],argTypes:=#[ts,ts]})
  {i:TypeInfo} {z:Value} {sz bytes:Nat} (h1:P.underlying ts=some (.slice te)) (h2:P.info? te=some i) (h3:i.zero=some z) (h4:i.size=sz) (h5:i.bytes=bytes) (h6:z.cells.size=sz) (h7:0<sz)
  {base:Nat} {v:Value} {n:Nat} {C:Nat->List Value} (hs:a.eval s=v) {q:Option Addr} {m c:Nat} (hx:a.eval x=.slice q m c) (hown:V.ownsRow base te sz v n (crow C n)) {H:Nat->List Value} (hH:∀i,(H i).length=sz) (hH1:∀i,i<m->∀u∈H i,u.oneCell'=true)
  (hq:RdC V q m c sz (λi j=>(H i).getD j undef)) (hnil:q=none->m=0∧c=0) (hbase:base<=V.heap.size) (hnm:n+m<=1000) (hby:(n+m)*bytes<=140737488355328)
  (hK:∀p' c' W,W.ownsRow base te sz (.slice p' (n+m) c') (n+m) (crow (ccat C n H) (n+m))->V.grownBy W v.ownBlock->(p'=none->n+m=0∧c'=0)->wpList P ops Q rest (a.put o.dst (.slice p' (n+m) c')) W) :
  wpList P ops Q (o::rest) a V:=by
 obtain⟨p',c',W,hr,g1,g2,g3⟩:=Zsb (P:=P) h1 h2 h3 h4 h5 h6 h7 o.type hown hH hH1 hq hnil hbase hnm hby;exact Zk7 hg (Zbu s x ts ts ho v (.slice q m c) hs hx hr) (hK p' c' W g1 g2 g3)
abbrev Chg:=Nat×Int×Int
def withS (l:List Srf) (c:Chg):Option (List Srf):=
 match l[c.1]? with
 | none=>none
 | some s=>if c.2.1=9∧c.1+1=l.length then none else(setS s c.2.1 c.2.2).map λt=>l.set c.1 t
def dupS (cs:List Chg) (n:Nat):Prop:=∃k,k<n∧(cs.getD k (0,0,0)).1=(cs.getD n (0,0,0)).1∧(cs.getD k (0,0,0)).2.1=(cs.getD n (0,0,0)).2.1
noncomputable def madeN (l:List Srf) (cs:List Chg):Nat->Option (List Srf)
 | 0=>some l
 | n+1=>open Classical in (madeN l cs n).bind λm=>if dupS cs n then none else withS m (cs.getD n (0,0,0))
noncomputable def madeS (l:List Srf) (cs:List Chg):Option (List Srf):=madeN l cs cs.length
theorem Zfp {l:List Srf} {cs:List Chg}:∀{n m:Nat},n<=m->madeN l cs n=none->madeN l cs m=none
 | n, 0, h, e => by obtain rfl : n = 0 := by omega
                    exact e
 | n, m + 1, h, e => by
   rcases Ydu n (m+1) with h1|h1
   ·unfold madeN
    rw[Zfp (by omega:n<=m) e];rfl
   ·obtain rfl:n=m+1:=by omega
    exact e
structure KeptL (l m:List Srf):Prop where
 len:m.length=l.length
 ok:∀s∈m,s.ok
 all:∀i s,l[i]? = some s->∃t,m[i]? = some t∧t.kind=s.kind∧t.glass=s.glass∧t.order=s.order∧t.co=s.co∧(i+1=l.length->t.thick=s.thick)
theorem KeptL.refl {l:List Srf} (h:∀s∈l,s.ok):KeptL l l:=⟨rfl,h,λi s hs=>⟨s,hs,rfl,rfl,rfl,rfl,λ_=>rfl⟩⟩
theorem KeptL.with {l m n:List Srf} {c:Chg} (h:KeptL l m) (hv:In 32768000 c.2.2) (e:withS m c=some n):KeptL l n:=by
 unfold withS at e;split at e
 ·cases e
 ·rename_i s hs
  split at e
  ·cases e
  ·rename_i hc
   obtain⟨t,ht,rfl⟩:=Yad.1 e;have hlt:c.1<m.length:=(Yan.1 hs).1;have hsm:s∈m:=Ych hs;obtain⟨⟨h1,h2,h3,h4,h5⟩,h6⟩:=Zwx (h.ok s hsm) hv ht;refine⟨by rw[List.length_set,h.len],λu hu=>?_,λi u hu=>?_⟩
   ·rcases Ygf hu with hu|rfl
    ·exact h.ok u hu
    ·exact h1
   ·obtain⟨t',ht',g1,g2,g3,g4,g5⟩:=h.all i u hu
    by_cases hi:c.1=i
    ·subst hi
     obtain rfl:t'=s:=by rw[hs]at ht';exact(Yej ht').symm
     refine⟨t,by rw[List.getElem?_set_self hlt],by rw[h2,g1],by rw[h3,g2],by rw[h4,g3],by rw[h5,g4],λhl=>?_⟩;rw[h6 λh9=>hc ⟨h9,by rw[h.len];exact hl⟩,g5 hl]
    ·exact⟨t',by rw[List.getElem?_set_ne hi];exact ht',g1,g2,g3,g4,g5⟩
theorem Zfq {l:List Srf} (hl:∀s∈l,s.ok) {cs:List Chg} (hv:∀i,i<cs.length->In 32768000 (cs.getD i (0,0,0)).2.2):∀{n:Nat} {m:List Srf},n<=cs.length->madeN l cs n=some m->KeptL l m
 | 0, m, _, e => by
   cases e;exact KeptL.refl hl
 | n + 1, m, hn, e => by
   unfold madeN at e;obtain⟨k,hk,e⟩:=Ybg.1 e;split at e
   ·cases e
   ·exact(Zfq hl hv Zo hk).with (hv n Zo) e
theorem Zif {l:List Srf} (hl:∀s∈l,s.ok) {cs:List Chg} (hv:∀i,i<cs.length->In 32768000 (cs.getD i (0,0,0)).2.2) {m:List Srf} (e:madeS l cs=some m):KeptL l m:=
 Zfq hl hv (Yab _) e
noncomputable def dConf (l:List Srf):List Chg->List Chg->List Chg
 | done,[]=>done
 | done,c::r=>open Classical in if(madeS l (done++[c])).isSome then dConf l (done++[c]) r else dConf l done r
theorem Zya (k:Nat):vf (λj=>if j=k then 1 else 0) (k+1)=pw k:=by
 have:=Zc5 (λ_=>0) k 1 (k+1);rw[Zdk (λ_ _=>rfl),if_pos (Yca k)]at this;rw[this];omega
theorem Zu5 {n a:Nat} (h:(a:Int)<pw n):a<((pw (n/2+1)).toNat+1)*((pw (n/2+1)).toNat+1):=by
 have hp:=Za8 (n/2+1);have h1:pw n<=pw (n/2+1+(n/2+1)):=Zbs Zo;rw[Zfu]at h1;generalize pw (n/2+1)=x at *;obtain⟨y,rfl⟩:∃y:Nat,x=y:=⟨x.toNat,Zo⟩
 rw[Ycb];have h2:(a:Int)<((y*y:Nat):Int):=by rw[Ycw];omega
 have h3:y*y<=(y+1)*(y+1):=Ybv Zo Zo;omega
end Go.Mono
namespace Go.Proofs.W
open Go.RowKit Go.Mono
theorem Zsv {m:Nat} {v:Value} {a:Nat} (w:World) (h:LgV m w v a) (hm:m<=600) :
  Calls Tryz.prog 187 #[v] w λe w'=>∃v',e=.returned v'∧LgV 600 w' v' (rtN a)∧Below w.heap.size w w':=by
 have h0:=h;have hlt:=h.lt;have hv:∃p n c f,v=.agg #[.bool false,.slice p n c]∧Digs f n∧vf f n=a∧n<=m:=by
  obtain⟨p,n,c,f,rfl,s1,d1,e1,l1⟩:=h;exact⟨p,n,c,f,by rw[decide_eq_false Zo],d1,by simpa using e1,l1⟩
 obtain⟨p,n,c,f,rfl,d1,e1,l1⟩:=hv;by_cases hn:n=0
 ·subst hn
  obtain rfl:a=0:=by simp[vf]at e1;omega
  go_enter Tryz.func187,Tryz.ntmps187
  have h1:LgV 600 w (.agg #[.bool false,.slice p 0 c]) (rtN 0:Nat):=by rw[show rtN 0=0 from Zst Zd Zd];exact h0.mono hm
  go_wp2_with first|(refine Zbm (T0:=49) λW hB hs b0 b1=>?_;have c0:=b0.cell 1;have l0:=b0.lt)|(refine Zac rfl 49 (.tmp 1) rfl w.heap.size rfl 49 #[.bool false,.slice p 0 c] b0 _ Tryz.underlying49 rfl Zae ?_)|(refine Zab rfl 49 _ _ rfl (w.heap.size+1) 0 49 _ #[.bool false,.slice p 0 c] #[.bool false,.slice p 0 c] rfl rfl b1 Zae (Yaa rfl) (Zal _ _ _ _) (Zaf rfl) ?_;intro W3 hk b4)
  have hB3:=hk.below hB (Nat.le_succ _) hB.size;exact bodyPost_ret (b4.results rfl _ _ rfl Tryz.underlying49 rfl Zae) rfl ⟨_,rfl,h1.below hB3,hB3⟩
 ·have hn':((n:Int)==0)=false:=by simp;omega
  have ha:0<a:=by
   have:=d1.pos.2 Zo;omega
  go_enter Tryz.func187,Tryz.ntmps187
  go_wp2_with first|(refine Zbm (T0:=49) λW hB hs b0 b1=>?_;have c0:=b0.cell 1;have l0:=b0.lt)|(at_make;refine Za0 _ rfl _ _ 47 rfl Tryz.underlying47 Zby _ _ (n/2+2) rfl rfl Zs Zs Zo ?_;intro W1 r1 hb1;have c1:=r1.cell (n/2+1) (Zo);have f1:=r1.frozen (n/2+1);have l1':=r1.lt)
  have hk1:n/2+2-1=n/2+1:=rfl;have r2:=r1.set (n/2+1) 1;have hB1:=Zaa hB hb1;have hB2:Below w.heap.size w (W1.setCell ⟨W.heap.size,n/2+1,none⟩ (.int .i64 1)):=Zag hB1 Zo _ _;have b02:=(b0.below hb1).other ⟨W.heap.size,n/2+1,none⟩ (.int .i64 1) (by show w.heap.size≠W.heap.size;omega);have b12:=(b1.below hb1).other ⟨W.heap.size,n/2+1,none⟩ (.int .i64 1) (by show w.heap.size+1≠W.heap.size;omega);have hs2:w.heap.size+2<=(W1.setCell ⟨W.heap.size,n/2+1,none⟩ (.int .i64 1)).heap.size:=by rw[World.size_setCell];omega
  clear c1 f1 l1' r1 b0 b1 c0 l0 hB hs;generalize W1.setCell ⟨W.heap.size,n/2+1,none⟩ (.int .i64 1)=W2 at *;refine(Zbo false _ _ _ _ W2 (r2.slice Zo _ (Yab _) _ (Yab _)) Zo (λi hi=>by split<;>decide) (λi hi=>by split<;>decide)).mono ?_;rintro e W3 ⟨v',rfl,ho3,d3,e3,hb3⟩;obtain⟨p',c',rfl⟩:=ho3.shape;rw[Bool.false_and];rw[Zya]at e3;have hB3:=Zaa hB2 hb3;have b03:=b02.below hb3;have b13:=b12.below hb3;have hst:=Zu5 (n:=n) (a:=a) (by rw[<-e1];exact d1.lt);have htl:trimN (λj=>if j=n/2+1 then(1:Int) else 0) (n/2+2)<=n/2+2:=Za3 _ _;have hlg:LgV 400 W3 (.agg #[.bool false,.slice p' (trimN (λj=>if j=n/2+1 then(1:Int) else 0) (n/2+2)) c']) (pw (n/2+1)).toNat:=⟨p',_,c',_,by rw[decide_eq_false Zo],ho3.sl Zo,d3,by rw[e3];have:=Za8 (n/2+1);omega,Zo⟩
  have hx0:0<(pw (n/2+1)).toNat:=by have:=Za8 (n/2+1);omega
  generalize trimN (λj=>if j=n/2+1 then(1:Int) else 0) (n/2+2)=K at *;generalize (pw (n/2+1)).toNat=x0 at *;have hs3:=hb3.size;clear ho3 e3 d3 r2 htl b02 b12 hB2;go_wp2_with first|(refine Zcb 49 4 _ #[.bool false,.slice p' K c'] _ rfl rfl rfl rfl rfl rfl Zbw (by as_aux_lemma=>(intro _;kernel_rfl)) (by as_aux_lemma=>(intro _;kernel_rfl)) Zae rfl (Zal _ _ _ _) ?_;intro W4 B4 hle4 hB4 b4;have b04:=b03.below hB4;have b14:=b13.below hB4)
  have hBB:w.heap.size+2<=B4:=Zo;have hlt4:=hlg.below hB4;have hBw4:=Zaa hB3 hB4;have hp4:=h0.below hBw4;clear hlg hB4 b03 b13 hle4 hb3 hB3 hs3 hs2 hb1 hB1;simp only[Act.put,Zsi,Zs0,Zss];go_loopw [5,6,7,8] (λ_ _ _ _ wr=>∃(A:Array Value) (x:Nat),Box wr B4 49 A∧LgV 400 wr (.agg A) x∧0<x∧a<(x+1)*(x+1)∧Box wr w.heap.size 49 #[.bool false,.slice p n c]∧Box wr (w.heap.size+1) 49 #[.bool false,.slice none 0 0]∧Below w.heap.size w wr∧LgV m wr (.agg #[.bool false,.slice p n c]) a) (λ_ _ _ _ wr=>valAt wr B4 49)
  case atStart=>exact⟨_,x0,b4,hlt4,hx0,hst,b04,b14,hBw4,hp4⟩
  case round=>
   clear b4 hlt4 hx0 hst b04 b14 hBw4 hp4 h0 e1 hlt;obtain⟨A,x,b4,hx,hx0,hax,b0,b1,hB,hpa⟩:=hrel;have hval:=Zgi b4 hx;obtain⟨sx,px,nx,cx,hAv⟩:=hx.parts;cases hAv;have l4:=b4.lt;have hpt:=λ(X:World) (hX:Ext wr X)=>Zcq X (hpa.ext hX) (hx.ext hX) (show(x:Int)≠0 by omega) Zo Zd;go_wp2_with first|(refine Zac rfl 49 (.tmp 1) rfl w.heap.size rfl 49 #[.bool false,.slice p n c] b0 _ Tryz.underlying49 rfl Zae ?_)|(refine Zac rfl 49 (.tmp 4) rfl B4 rfl 49 #[.bool sx,.slice px nx cx] b4 _ Tryz.underlying49 rfl Zae ?_)
   refine(hpt wr (Ext.refl _)).mono ?_;rintro e W5 ⟨vq,vr,rfl,hq,hr,hb5⟩;obtain⟨sq,pq,nq,cq,rfl⟩:=hq.parts;obtain⟨sr,pr,nr,cr,rfl⟩:=hr.parts;rw[show(a:Int).tdiv x=((a/x:Nat):Int) by rw[Ybk Zo];omega]at hq;replace b0:=b0.below hb5;replace b1:=b1.below hb5;replace b4:=b4.below hb5;replace hx:=hx.below hb5;replace hpa:=hpa.below hb5;replace hB:=Zaa hB hb5;clear hpt hb5 hr;have hsum:=λ(X:World) (hX:Ext W5 X)=>Zn1 X (hx.ext hX) (hq.ext hX) Zd Zo;go_wp2_with first|(refine Zcc 49 5 6 _ _ #[.bool sq,.slice pq nq cq] #[.bool sr,.slice pr nr cr] _ rfl rfl rfl rfl rfl rfl rfl rfl rfl rfl rfl rfl Zbw (by as_aux_lemma=>(intro _ _;kernel_rfl)) (by as_aux_lemma=>(intro _ _;kernel_rfl)) (by as_aux_lemma=>(intro _ _;kernel_rfl)) (by as_aux_lemma=>(intro _ _;kernel_rfl)) Zae rfl rfl (Zal _ _ _ _) (Zal _ _ _ _) ?_;intro W6 B5 B6 _ _ _ hB6 b5 b6;replace b0:=b0.below hB6;replace b1:=b1.below hB6;replace b4:=b4.below hB6)|(refine Zac rfl 49 (.tmp 5) rfl B5 Zx 49 #[.bool sq,.slice pq nq cq] b5 _ Tryz.underlying49 rfl Zae ?_)|(refine Zac rfl 49 (.tmp 4) rfl B4 Zx 49 #[.bool sx,.slice px nx cx] b4 _ Tryz.underlying49 rfl Zae ?_)
   refine(hsum W6 (.of_below hB6)).mono ?_;rintro e W7 ⟨vs,rfl,hs7,hb7⟩;have hB7:=Zaa hB6 hb7;go_wp2_with fail
   refine(Zea 2 W7 Zd Zd).mono ?_;rintro e W8 ⟨vt,rfl,ht8,hb8⟩;have hB8:=Zaa hB7 hb8;replace hs7:=hs7.below hb8;go_wp2_with fail
   refine(Zcq W8 hs7 ht8 Zd Zo Zd).mono ?_;rintro e W9 ⟨vy,vz,rfl,hy,hz,hb9⟩;obtain⟨sy,py,ny,cy,rfl⟩:=hy.parts;obtain⟨sz,pz,nz,cz,rfl⟩:=hz.parts;have hnw:nwt a x=(x+a/x)/2:=rfl;rw[show((x:Int)+((a/x:Nat):Int)).tdiv 2=((nwt a x:Nat):Int) by rw[Ybk Zo,hnw];omega]at hy;have hab:=Zlk (a:=a) hx0;have hst:=Zu4 (a:=a) hx0;have hyp:=Zw8 (a:=a) hx0 ha;generalize nwt a x=y at *;have hB9:=Zaa hB8 hb9;replace b0:=(b0.below (Zaa hb7 hb8)).below hb9;replace b1:=(b1.below (Zaa hb7 hb8)).below hb9;replace b4:=(b4.below (Zaa hb7 hb8)).below hb9;replace hx:=hx.below hB9;replace hpa:=hpa.below hB9;replace hB:=Zaa hB hB9;clear hsum hs7 ht8 hz hb7 hb8 hb9 hB6 hB7 hB8 hB9 b5 b6 hq hnw;have hord:=λ(X:World) (hX:Ext W9 X)=>Zft X (hy.ext hX) (hx.ext hX);go_wp2_with (refine Zcc 49 7 8 _ _ #[.bool sy,.slice py ny cy] #[.bool sz,.slice pz nz cz] _ rfl rfl rfl rfl rfl rfl rfl rfl rfl rfl rfl rfl Zbw (by as_aux_lemma=>(intro _ _;kernel_rfl)) (by as_aux_lemma=>(intro _ _;kernel_rfl)) (by as_aux_lemma=>(intro _ _;kernel_rfl)) (by as_aux_lemma=>(intro _ _;kernel_rfl)) Zae rfl rfl (Zal _ _ _ _) (Zal _ _ _ _) ?_;intro WA B7 B8 _ _ _ hBA b7 b8;replace b0:=b0.below hBA;replace b1:=b1.below hBA;replace b4:=b4.below hBA;go_wp2_with first|(refine Zac rfl 49 (.tmp 7) rfl B7 Zx 49 #[.bool sy,.slice py ny cy] b7 _ Tryz.underlying49 rfl Zae ?_)|(refine Zac rfl 49 (.tmp 4) rfl B4 Zx 49 #[.bool sx,.slice px nx cx] b4 _ Tryz.underlying49 rfl Zae ?_))
   refine(hord WA (.of_below hBA)).mono ?_;rintro e WB ⟨rfl,hbB⟩;have hBB2:=Zaa hBA hbB;replace b0:=b0.below hbB;replace b1:=b1.below hbB;replace b4:=b4.below hbB;replace b7:=b7.below hbB;replace hx:=hx.below hBB2;replace hy:=hy.below hBB2;replace hpa:=hpa.below hBB2;replace hB:=Zaa hB hBB2;clear hord hbB hBA hBB2 b8;by_cases hyx:x<=y
   ·have hsg:0<=(((y:Int)-x)).sign:=by
     rcases Int.lt_or_eq_of_le (show(0:Int)<=(y:Int)-x by omega) with h|h
     ·rw[Yeg h];decide
     ·rw[<-h];decide
    have hrt:rtN a=x:=Zst (hst hyx) hax;generalize (((y:Int)-x)).sign=sg at *;go_wp2_with first|(refine Zac rfl 49 (.tmp 4) rfl B4 Zx 49 #[.bool sx,.slice px nx cx] b4 _ Tryz.underlying49 rfl Zae ?_)|(refine Zab rfl 49 _ _ rfl (w.heap.size+1) 0 49 _ #[.bool sx,.slice px nx cx] #[.bool sx,.slice px nx cx] rfl rfl b1 Zae (Yaa rfl) (Zal _ _ _ _) (Zaf rfl) ?_;intro WC hk bC)
    have hBC:=hk.below hB (Nat.le_succ _) hB.size;exact bodyPost_ret (bC.results rfl _ _ rfl Tryz.underlying49 rfl Zae) rfl ⟨_,rfl,by rw[hrt];exact(hx.ext (hk.ext b1 Zd)).mono Zd,hBC⟩
   ·have hsg:¬0<=(((y:Int)-x)).sign:=by
     rw[Yep Zo];decide
    generalize (((y:Int)-x)).sign=sg at *;have hyt:LgV 400 WB (.agg #[.bool sy,.slice py ny cy]) y:=hy.tight (by have:=hx.lt;omega);have lB4:=b4.lt;go_wp2_with first|(refine Zac rfl 49 (.tmp 7) rfl B7 Zx 49 #[.bool sy,.slice py ny cy] b7 _ Tryz.underlying49 rfl Zae ?_)|(refine Zab rfl 49 _ _ rfl B4 0 49 _ #[.bool sy,.slice py ny cy] #[.bool sy,.slice py ny cy] rfl rfl b4 Zae (Yaa rfl) (Zal _ _ _ _) (Zaf rfl) ?_;intro WC hk bC)
    have hBC:=hk.below hB Zo hB.size;have heC:=hk.ext b4 Zd;have hyC:=hyt.ext heC;have hvC:=Zgi bC hyC;simp only[Act.put,Zsi,Zs0,Zss];go_roundw
    case rel=>exact⟨_,y,bC,hyC,hyp,hab,hk.box b0 b0.lt Zo,hk.box b1 b1.lt Zo,hBC,hpa.ext heC⟩
    case measure=>rw[hval,hvC];omega
end Go.Proofs.W
