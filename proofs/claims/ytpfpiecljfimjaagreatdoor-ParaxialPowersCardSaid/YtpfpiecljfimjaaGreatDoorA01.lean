/- Contracts of package paraxial,and a verified evaluator. Part 1 of 26. No condition beside the row. -/
import Derived.Test.YtpfpiecljfimjaaGreatDoorChecked
import Derived.WalkKit
import Derived.WalkSpells
import Derived.WalkLawsBesides
import Derived.Deep.QuietTactic
import Derived.BigQuiet
import Derived.Lib.Hide
import Derived.Deep.RegionHeld3
import Derived.Laws.CopyOwn
import Derived.Laws.AppendOwnNone
set_option linter.unusedVariables false
set_option linter.unusedSimpArgs false
set_option maxRecDepth 100000
set_option maxHeartbeats 4000000
theorem Zo {p:Prop} (h:p:=by omega):p:=h
theorem Zd {p:Prop} (h:p:=by decide):p:=h
theorem Zs {p:Prop} (h:p:=by simp):p:=h
theorem Yaa:type_of% @Nat.le_of_ble_eq_true:=@Nat.le_of_ble_eq_true
theorem Yab:type_of% @Nat.le_refl:=@Nat.le_refl
theorem Yac:type_of% @List.getD_eq_getElem?_getD:=@List.getD_eq_getElem?_getD
theorem Yad:type_of% @Option.map_eq_some_iff:=@Option.map_eq_some_iff
theorem Yaf:type_of% @Nat.lt_of_lt_of_le:=@Nat.lt_of_lt_of_le
theorem Yai:type_of% @And.right:=@And.right
theorem Yak:type_of% @Nat.le_trans:=@Nat.le_trans
theorem Yam:type_of% @Bool.and_eq_true:=@Bool.and_eq_true
theorem Yan:type_of% @List.getElem?_eq_some_iff:=@List.getElem?_eq_some_iff
theorem Yao:type_of% @List.getElem?_eq_getElem:=@List.getElem?_eq_getElem
theorem Yap:type_of% @Int.le_of_lt:=@Int.le_of_lt
theorem Yaq:type_of% @Array.getElem?_toList:=@Array.getElem?_toList
theorem Yat:type_of% @Nat.zero_le:=@Nat.zero_le
theorem Yaw:type_of% @Int.mul_le_mul_of_nonneg_right:=@Int.mul_le_mul_of_nonneg_right
theorem Yax:type_of% @Array.getD_eq_getD_getElem?:=@Array.getD_eq_getD_getElem?
theorem Yay:type_of% @List.length_append:=@List.length_append
theorem Yaz:type_of% @Array.length_toList:=@Array.length_toList
theorem Yba:type_of% @Nat.zero_add:=@Nat.zero_add
theorem Ybb:type_of% @List.getElem?_append_left:=@List.getElem?_append_left
theorem Ybc:type_of% @List.getElem?_append_right:=@List.getElem?_append_right
theorem Ybd:type_of% @Nat.mul_le_mul_right:=@Nat.mul_le_mul_right
theorem Ybe:type_of% @Nat.eq_of_beq_eq_true:=@Nat.eq_of_beq_eq_true
theorem Ybf:type_of% @Nat.add_sub_cancel:=@Nat.add_sub_cancel
theorem Ybg:type_of% @Option.bind_eq_some_iff:=@Option.bind_eq_some_iff
theorem Ybj:type_of% @Nat.add_assoc:=@Nat.add_assoc
theorem Ybk:type_of% @Int.tdiv_eq_ediv_of_nonneg:=@Int.tdiv_eq_ediv_of_nonneg
theorem Ybl:type_of% @Nat.le_of_eq:=@Nat.le_of_eq
theorem Ybm:type_of% @List.length_cons:=@List.length_cons
theorem Ybn:type_of% @List.all_eq_true:=@List.all_eq_true
theorem Ybo:type_of% @Bool.or_eq_true:=@Bool.or_eq_true
theorem Ybp:type_of% @Option.some.injEq:=@Option.some.injEq
theorem Ybq:type_of% @Bool.false_eq_true:=@Bool.false_eq_true
theorem Ybr:type_of% @Int.tmod_eq_emod_of_nonneg:=@Int.tmod_eq_emod_of_nonneg
theorem Ybs:type_of% @List.mem_cons_of_mem:=@List.mem_cons_of_mem
theorem Ybt:type_of% @List.length_map:=@List.length_map
theorem Ybu:type_of% @Int.emod_lt_of_pos:=@Int.emod_lt_of_pos
theorem Ybv:type_of% @Nat.mul_le_mul:=@Nat.mul_le_mul
theorem Ybw:type_of% @List.getElem_mem:=@List.getElem_mem
theorem Ybx:type_of% @List.append_assoc:=@List.append_assoc
theorem Yby:type_of% @Array.getElem?_eq_getElem:=@Array.getElem?_eq_getElem
theorem Ybz:type_of% @List.map_cons:=@List.map_cons
theorem Yca:type_of% @Nat.lt_succ_self:=@Nat.lt_succ_self
theorem Ycb:type_of% @Int.toNat_natCast:=@Int.toNat_natCast
theorem Ycc:type_of% @Int.emod_nonneg:=@Int.emod_nonneg
theorem Ycd:type_of% @List.mem_singleton:=@List.mem_singleton
theorem Yce:type_of% @Nat.add_zero:=@Nat.add_zero
theorem Ycf:type_of% @Int.mul_ediv_add_emod:=@Int.mul_ediv_add_emod
theorem Ycg:type_of% @Int.mul_nonneg:=@Int.mul_nonneg
theorem Ych:type_of% @List.mem_of_getElem?:=@List.mem_of_getElem?
theorem Yci:type_of% @Nat.mul_le_mul_left:=@Nat.mul_le_mul_left
theorem Ycj:type_of% @List.getElem?_map:=@List.getElem?_map
theorem Yck:type_of% @Nat.pos_of_ne_zero:=@Nat.pos_of_ne_zero
theorem Ycl:type_of% @List.mem_cons_self:=@List.mem_cons_self
theorem Ycm:type_of% @List.take_of_length_le:=@List.take_of_length_le
theorem Ycn:type_of% @List.mem_append:=@List.mem_append
theorem Yco:type_of% @Prod.mk.injEq:=@Prod.mk.injEq
theorem Ycp:type_of% @List.mem_cons:=@List.mem_cons
theorem Ycq:type_of% @List.length_take:=@List.length_take
theorem Ycr:type_of% @Int.mul_le_mul_of_nonneg_left:=@Int.mul_le_mul_of_nonneg_left
theorem Yct:type_of% @Option.isSome_iff_exists:=@Option.isSome_iff_exists
theorem Ycu:type_of% @Nat.mul_comm:=@Nat.mul_comm
theorem Ycv:type_of% @List.getElem?_take:=@List.getElem?_take
theorem Ycw:type_of% @Int.natCast_mul:=@Int.natCast_mul
theorem Ycx:type_of% @Bool.eq_iff_iff:=@Bool.eq_iff_iff
theorem Ycy:type_of% @List.mem_append_left:=@List.mem_append_left
theorem Ycz:type_of% @Int.lt_or_le:=@Int.lt_or_le
theorem Yda:type_of% @Int.add_zero:=@Int.add_zero
theorem Ydd:type_of% @Option.none_or:=@Option.none_or
theorem Yde:type_of% @Int.natAbs_mul:=@Int.natAbs_mul
theorem Ydf:type_of% @List.length_nil:=@List.length_nil
theorem Ydg:type_of% @List.append_nil:=@List.append_nil
theorem Ydh:type_of% @Int.mul_comm:=@Int.mul_comm
theorem Ydi:type_of% @List.cons_append:=@List.cons_append
theorem Ydj:type_of% @List.length_eq_zero_iff:=@List.length_eq_zero_iff
theorem Ydk:type_of% @Option.some_or:=@Option.some_or
theorem Ydl:type_of% @List.mem_map:=@List.mem_map
theorem Ydn:type_of% @Nat.pow_add:=@Nat.pow_add
theorem Ydo:type_of% @List.range_succ:=@List.range_succ
theorem Ydp:type_of% @List.nil_append:=@List.nil_append
theorem Ydq:type_of% @Int.ediv_nonneg:=@Int.ediv_nonneg
theorem Ydr:type_of% @List.length_eq_one_iff:=@List.length_eq_one_iff
theorem Yds:type_of% @Rat.num_divInt_den:=@Rat.num_divInt_den
theorem Ydt:type_of% @Nat.sub_self:=@Nat.sub_self
theorem Ydu:type_of% @Nat.lt_or_ge:=@Nat.lt_or_ge
theorem Ydv:type_of% @List.mem_append_right:=@List.mem_append_right
theorem Ydw:type_of% @ByteArray.mk.injEq:=@ByteArray.mk.injEq
theorem Ydy:type_of% @Int.natAbs_tmod:=@Int.natAbs_tmod
theorem Ydz:type_of% @Bool.not_eq_true':=@Bool.not_eq_true'
theorem Yea:type_of% @Array.size_setIfInBounds:=@Array.size_setIfInBounds
theorem Yeb:type_of% @Nat.succ_mul:=@Nat.succ_mul
theorem Yec:type_of% @Int.zero_mul:=@Int.zero_mul
theorem Yed:type_of% @List.mem_map_of_mem:=@List.mem_map_of_mem
theorem Yee:type_of% @Array.toList_inj:=@Array.toList_inj
theorem Yef:type_of% @Int.mul_le_mul:=@Int.mul_le_mul
theorem Yeg:type_of% @Int.sign_eq_one_of_pos:=@Int.sign_eq_one_of_pos
theorem Yeh:type_of% @List.getElem?_drop:=@List.getElem?_drop
theorem Yej:type_of% @Option.some.inj:=@Option.some.inj
theorem Yek:type_of% @Int.le_refl:=@Int.le_refl
theorem Yel:type_of% @Int.add_mul:=@Int.add_mul
theorem Yen:type_of% @Int.lt_trichotomy:=@Int.lt_trichotomy
theorem Yeo:type_of% @Bool.false_or:=@Bool.false_or
theorem Yep:type_of% @Int.sign_eq_neg_one_of_neg:=@Int.sign_eq_neg_one_of_neg
theorem Yeq:type_of% @Array.getElem?_eq_some_iff:=@Array.getElem?_eq_some_iff
theorem Yer:type_of% @Array.replicate_zero:=@Array.replicate_zero
theorem Yes:type_of% @Array.replicate_succ:=@Array.replicate_succ
theorem Yeu:type_of% @List.mem_range:=@List.mem_range
theorem Yev:type_of% @List.map_toArray:=@List.map_toArray
theorem Yew:type_of% @Rat.div_def:=@Rat.div_def
theorem Yex:type_of% @List.toList_toArray:=@List.toList_toArray
theorem Yey:type_of% @List.append_toArray:=@List.append_toArray
theorem Yez:type_of% @Nat.zero_mul:=@Nat.zero_mul
theorem Yfa:type_of% @Nat.gcd_pos_of_pos_right:=@Nat.gcd_pos_of_pos_right
theorem Yfb:type_of% @Nat.add_comm:=@Nat.add_comm
theorem Yfc:type_of% @Rat.intCast_mul:=@Rat.intCast_mul
theorem Yfd:type_of% @Nat.le_mul_of_pos_right:=@Nat.le_mul_of_pos_right
theorem Yfe:type_of% @Nat.exists_eq_add_of_le:=@Nat.exists_eq_add_of_le
theorem Yff:type_of% @Nat.eq_zero_or_pos:=@Nat.eq_zero_or_pos
theorem Yfg:type_of% @Int.natAbs_tdiv:=@Int.natAbs_tdiv
theorem Yfh:type_of% @List.take_succ_eq_append_getElem:=@List.take_succ_eq_append_getElem
theorem Yfi:type_of% @List.drop_of_length_le:=@List.drop_of_length_le
theorem Yfj:type_of% @Array.getElem?_eq_none:=@Array.getElem?_eq_none
theorem Yfk:type_of% @Nat.mul_one:=@Nat.mul_one
theorem Yfl:type_of% @List.size_toArray:=@List.size_toArray
theorem Yfm:type_of% @List.push_toArray:=@List.push_toArray
theorem Yfo:type_of% @Array.ext':=@Array.ext'
theorem Yfp:type_of% @List.map_nil:=@List.map_nil
theorem Yfq:type_of% @Option.bind_some:=@Option.bind_some
theorem Yfr:type_of% @List.take_append_of_le_length:=@List.take_append_of_le_length
theorem Yfs:type_of% @List.length_drop:=@List.length_drop
theorem Yft:type_of% @List.any_eq_true:=@List.any_eq_true
theorem Yfu:type_of% @List.mem_of_mem_take:=@List.mem_of_mem_take
theorem Yfv:type_of% @Nat.mul_assoc:=@Nat.mul_assoc
theorem Yfw:type_of% @Nat.lt_irrefl:=@Nat.lt_irrefl
theorem Yfx:type_of% @Option.map_some:=@Option.map_some
theorem Yfy:type_of% @List.map_congr_left:=@List.map_congr_left
theorem Yfz:type_of% @List.getElem_of_mem:=@List.getElem_of_mem
theorem Yga:type_of% @Int.one_mul:=@Int.one_mul
theorem Ygb:type_of% @Option.ne_none_iff_exists':=@Option.ne_none_iff_exists'
theorem Ygc:type_of% @Int.lt_of_mul_lt_mul_right:=@Int.lt_of_mul_lt_mul_right
theorem Ygd:type_of% @Rat.sub_eq_add_neg:=@Rat.sub_eq_add_neg
theorem Yge:type_of% @Int.lt_or_gt_of_ne:=@Int.lt_or_gt_of_ne
theorem Ygf:type_of% @List.mem_or_eq_of_mem_set:=@List.mem_or_eq_of_mem_set
theorem Zsi {α:Type} (l:List α) (i:Nat) (a:α):l.toArray.setIfInBounds i a=(l.set i a).toArray:=List.setIfInBounds_toArray ..
theorem Zs0 {α:Type} (a b:α) (l:List α):(a::l).set 0 b=b::l:=rfl
theorem Zss {α:Type} (a b:α) (l:List α) (n:Nat):(a::l).set (n+1) b=a::l.set n b:=rfl
namespace Go.Mono
abbrev B:Int:=1000000000
def pw:Nat->Int
 | 0=>1
 | k+1=>pw k*1000000000
theorem Za5 (k:Nat):pw (k+1)=pw k*1000000000:=rfl
theorem Za8 (k:Nat):0<pw k:=by induction k with
 | zero=>decide
 | succ k ih=>rw[Za5];omega
theorem Zfu (i k:Nat):pw (i+k)=pw i*pw k:=by induction k with
 | zero=>simp[pw]
 | succ k ih=>rw[<-Ybj,Za5,ih,Za5];grind
theorem Zbs {i k:Nat} (h:i<=k):pw i<=pw k:=by
 obtain⟨d,rfl⟩:=Yfe h;rw[Zfu];have h1:=Za8 i;have h2:=Za8 d;have h3:pw i*1<=pw i*pw d:=Ycr Zo Zo;omega
def vf (f:Nat->Int):Nat->Int
 | 0=>0
 | k+1=>vf f k+f k*pw k
theorem Zaj (f:Nat->Int) (k:Nat):vf f (k+1)=vf f k+f k*pw k:=rfl
theorem Zbi {f g:Nat->Int} {k:Nat} (h:∀i,i<k->f i=g i):vf f k=vf g k:=by
 induction k with
 | zero=>rfl
 | succ k ih=>rw[Zaj,Zaj,ih λi hi=>h i Zo,h k Zo]
theorem Zdk {f:Nat->Int} {k:Nat} (h:∀i,i<k->f i=0):vf f k=0:=by
 induction k with
 | zero=>rfl
 | succ k ih=>rw[Zaj,ih λi hi=>h i Zo,h k Zo];simp
theorem Zaq {f:Nat->Int} {k:Nat} (h:∀i,i<k->0<=f i):0<=vf f k:=by
 induction k with
 | zero=>exact Yek _
 | succ k ih =>
   rw[Zaj];have:=ih λi hi=>h i Zo;have:=Ycg (h k Zo) (Yap (Za8 k));omega
theorem Zc3 {f:Nat->Int} {k:Nat} (h:∀i,i<k->f i<1000000000):vf f k<pw k:=by
 induction k with
 | zero=>exact Int.zero_lt_one
 | succ k ih =>
   rw[Zaj,Za5];have h1:=ih λi hi=>h i Zo;have h2:=h k Zo;have h3:f k*pw k<=999999999*pw k:=Yaw Zo (Yap (Za8 k));omega
theorem Zc5 (f:Nat->Int) (i:Nat) (x:Int) (k:Nat):vf (λj=>if j=i then x else f j) k=vf f k+(if i<k then(x-f i)*pw i else 0):=by
 induction k with
 | zero=>simp[vf]
 | succ k ih =>
   rw[Zaj,Zaj,ih];by_cases h:i<k
   ·have h2:¬k=i:=by omega
    have h3:i<k+1:=Zo;simp only[h,h2,h3,if_true,if_false];omega
   ·by_cases h2:k=i
    ·subst h2
     have h3:k<k+1:=Zo;simp only[h,h3,if_true,if_false];grind
    ·have h3:¬i<k+1:=by omega
     simp only[h,h2,h3,if_false];omega
theorem Zcj (f:Nat->Int) (i k:Nat):vf f (i+k)=vf f i+pw i*vf (λj=>f (i+j)) k:=by
 induction k with
 | zero=>simp[vf]
 | succ k ih=>rw[<-Ybj,Zaj,ih,Zaj,Zfu];grind
structure Digs (f:Nat->Int) (n:Nat):Prop where
 lo:∀i,i<n->0<=f i
 hi:∀i,i<n->f i<1000000000
 top:0<n->f (n-1)≠0
theorem Digs.ge {f:Nat->Int} {n:Nat} (h:Digs f n) (hn:0<n):pw (n-1)<=vf f n:=by
 obtain⟨k,rfl⟩:∃k,n=k+1:=⟨n-1,Zo⟩
 have h1:=h.top hn;have h2:=h.lo k Zo;simp only[Ybf]at h1 ⊢;rw[Zaj];have h3:=Zaq (f:=f) (k:=k) λi hi=>h.lo i Zo;have h4:1*pw k<=f k*pw k:=Yaw Zo (Yap (Za8 k));omega
theorem Digs.lt {f:Nat->Int} {n:Nat} (h:Digs f n):vf f n<pw n:=Zc3 h.hi
theorem Digs.nonneg {f:Nat->Int} {n:Nat} (h:Digs f n):0<=vf f n:=Zaq h.lo
theorem Digs.len_le {f g:Nat->Int} {n m:Nat} (hf:Digs f n) (hg:Digs g m) (h:vf f n<=vf g m):n<=m:=by
 by_cases hn:0<n
 ·have h1:=hf.ge hn
  have h2:=hg.lt;rcases Ydu m n with h3|h3
  ·have:=Zbs (i:=m) (k:=n-1) (Zo);omega
  ·exact h3
 ·omega
theorem Digs.pos {f:Nat->Int} {n:Nat} (h:Digs f n):0<vf f n↔0<n:=by
 constructor
 ·intro hv
  rcases Yff n with rfl|h0
  ·simp[vf]at hv
  ·exact h0
 ·intro hn;have:=h.ge hn;have:=Za8 (n-1);omega
theorem Zof {f g:Nat->Int} {n:Nat} (hf0:∀i,i<n->0<=f i) (hf1:∀i,i<n->f i<1000000000) (hg0:∀i,i<n->0<=g i) (hg1:∀i,i<n->g i<1000000000) (h:vf f n=vf g n):∀i,i<n->f i=g i:=by
 induction n with
 | zero=>intro i hi;omega
 | succ n ih =>
   rw[Zaj,Zaj]at h;have a1:=Zaq (f:=f) (k:=n) λi hi=>hf0 i Zo;have a2:=Zaq (f:=g) (k:=n) λi hi=>hg0 i Zo;have b1:=Zc3 (f:=f) (k:=n) λi hi=>hf1 i Zo;have b2:=Zc3 (f:=g) (k:=n) λi hi=>hg1 i Zo;have e:f n=g n:=by
    rcases Yen (f n) (g n) with h1|h1|h1
    ·have:(f n+1)*pw n<=g n*pw n:=Yaw Zo (Yap (Za8 n))
     rw[Yel]at this;omega
    ·exact h1
    ·have:(g n+1)*pw n<=f n*pw n:=Yaw Zo (Yap (Za8 n))
     rw[Yel]at this;omega
   rw[e]at h;intro i hi;rcases Ydu i n with h1|h1
   ·exact ih (λi hi=>hf0 i Zo) (λi hi=>hf1 i Zo) (λi hi=>hg0 i Zo) (λi hi=>hg1 i Zo) Zo i h1
   ·obtain rfl:i=n:=by omega
    exact e
theorem Digs.unique {f g:Nat->Int} {n m:Nat} (hf:Digs f n) (hg:Digs g m) (h:vf f n=vf g m):n=m∧∀i,i<n->f i=g i:=by
 have h1:=hf.len_le hg (Int.le_of_eq h);have h2:=hg.len_le hf (Int.le_of_eq h.symm);obtain rfl:n=m:=Zo;exact⟨rfl,Zof hf.lo hf.hi hg.lo hg.hi h⟩
def trimN (f:Nat->Int):Nat->Nat
 | 0=>0
 | k+1=>if f k=0 then trimN f k else k+1
theorem Za3 (f:Nat->Int) (k:Nat):trimN f k<=k:=by
 induction k with
 | zero=>exact Yab _
 | succ k ih=>rw[trimN];split<;>omega
theorem Zh0 (f:Nat->Int) (k:Nat) (hk:0<k) (h:f (k-1)=0):trimN f k=trimN f (k-1):=by
 obtain⟨k,rfl⟩:∃j,k=j+1:=⟨k-1,Zo⟩
 simp only[Ybf]at h ⊢;rw[trimN,if_pos h]
theorem Zm4 (f:Nat->Int) (k:Nat) (hk:0<k) (h:¬f (k-1)=0):trimN f k=k:=by
 obtain⟨k,rfl⟩:∃j,k=j+1:=⟨k-1,Zo⟩
 simp only[Ybf]at h ⊢;rw[trimN,if_neg h]
theorem Zb2 {f:Nat->Int} {k:Nat} (h0:∀i,i<k->0<=f i) (h1:∀i,i<k->f i<1000000000):Digs f (trimN f k)∧vf f (trimN f k)=vf f k:=by
 induction k with
 | zero=>exact⟨⟨λi hi=>by simp[trimN]at hi,λi hi=>by simp[trimN]at hi,λh=>by simp[trimN]at h⟩,rfl⟩
 | succ k ih =>
   rw[trimN];split
   ·rename_i hz
    obtain⟨a,b⟩:=ih (λi hi=>h0 i Zo) (λi hi=>h1 i Zo);exact⟨a,by rw[b,Zaj,hz];simp⟩
   ·rename_i hz
    exact⟨⟨h0,h1,λ_=>by simpa using hz⟩,rfl⟩
end Go.Mono
theorem Zx {p:Prop} (h:p:=by as_aux_lemma=>kernel_rfl):p:=h
theorem Zk {p:Prop} (h:p:=by kernel_rfl):p:=h
theorem Yae:type_of% @Go.RowKit.Below.refl:=@Go.RowKit.Below.refl
theorem Yag:type_of% @Go.Result.andThen_ok:=@Go.Result.andThen_ok
theorem Yah:type_of% @Go.Lib.hid:=@Go.Lib.hid
theorem Yaj:type_of% @Go.World.ownsRow_nil:=@Go.World.ownsRow_nil
theorem Yal:type_of% @Go.AllReadyH.cons:=@Go.AllReadyH.cons
theorem Yar:type_of% @Go.Sem.run_bind:=@Go.Sem.run_bind
theorem Yas:type_of% @Go.AllReadyH.nil:=@Go.AllReadyH.nil
theorem Yau:type_of% @Go.Sem.run_pure:=@Go.Sem.run_pure
theorem Yav:type_of% @Go.World.size_alloc:=@Go.World.size_alloc
theorem Ybh:type_of% @Go.DataW.trod_int:=@Go.DataW.trod_int
theorem Ybi:type_of% @Go.IntKind.wrap_i64:=@Go.IntKind.wrap_i64
theorem Ycs:type_of% @Go.ByteArray.toList_eq:=@Go.ByteArray.toList_eq
theorem Ydb:type_of% @Go.DataW.weights_mem_each:=@Go.DataW.weights_mem_each
theorem Ydc:type_of% @Go.World.drewN_drewN:=@Go.World.drewN_drewN
theorem Ydm:type_of% @Go.Value.slice.injEq:=@Go.Value.slice.injEq
theorem Ydx:type_of% @Go.RowKit.Below.heap_setCell:=@Go.RowKit.Below.heap_setCell
theorem Yei:type_of% @Go.Exit.noGoto_normal:=@Go.Exit.noGoto_normal
theorem Yem:type_of% @Go.Addr.add_mid:=@Go.Addr.add_mid
theorem Yet:type_of% @Go.World.cell?_setCell_other:=@Go.World.cell?_setCell_other
theorem Yfn:type_of% @Go.DataW.trod_struct:=@Go.DataW.trod_struct
namespace Go.Mono
open Go.RowKit
theorem Zam {w:World} {k:Nat} {o:Obj} (h:w.heap[k]? = some o):k<w.heap.size:=(Yeq.1 h).1
structure Ext (w w':World):Prop where
 size:w.heap.size<=w'.heap.size
 kept:∀(k:Nat) cs fr,w.heap[k]? = some (.cells cs 3 fr)->w'.heap[k]? = some (.cells cs 3 fr)
theorem Ext.refl (w:World):Ext w w:=⟨Yab _,λ_ _ _ h=>h⟩
theorem Ext.trans {a b c:World} (h:Ext a b) (k:Ext b c):Ext a c:=⟨Yak h.size k.size,λi cs fr hi=>k.kept i cs fr (h.kept i cs fr hi)⟩
theorem Ext.of_below {w w':World} (h:Below w.heap.size w w'):Ext w w':=⟨h.size,λk _ _ hk=>(h.block k (Zam hk)).trans hk⟩
theorem Ext.below {a w w':World} (h:Ext a w) (hb:Below w.heap.size w w'):Ext a w':=h.trans (.of_below hb)
theorem Ext.drew {a w:World} (h:Ext a w):Ext a w.drew:=⟨h.size,h.kept⟩
theorem Ext.alloc {a w:World} (h:Ext a w) (o:Obj):Ext a (w.alloc o):=h.below ((Yae _ _).alloc (Yab _) o)
def SlF (w:World) (v:Value) (n:Nat) (f:Nat->Int):Prop:=
 (v=.slice none 0 0∧n=0)∨∃b off cap cs fr,v=.slice (some ⟨b,off,none⟩) n cap∧n<=cap∧n<=140737488351232∧w.heap[b]? = some (.cells cs 3 fr)∧∀i,i<n->cs[off+i]? = some (.int .i64 (f i))
theorem SlF.ext {w w':World} {v:Value} {n:Nat} {f:Nat->Int} (h:SlF w v n f) (hx:Ext w w'):SlF w' v n f:=by
 rcases h with h|⟨b,off,cap,cs,fr,hv,hc,hc2,hh,hi⟩
 ·exact .inl h
 ·exact .inr ⟨b,off,cap,cs,fr,hv,hc,hc2,hx.kept _ _ _ hh,hi⟩
theorem SlF.open {w:World} {v:Value} {n:Nat} {f:Nat->Int} (h:SlF w v n f):∃p cap,v=.slice p n cap∧n<=cap∧n<=140737488351232∧
  (0<n->∃b off,p=some ⟨b,off,none⟩∧b<w.heap.size∧(∀i,i<n->w.cell? ⟨b,off+i,none⟩=some (.int .i64 (f i)))):=by
 rcases h with ⟨rfl,rfl⟩|⟨b,off,cap,cs,fr,rfl,hc,hc2,hh,hi⟩
 ·exact⟨none,0,rfl,Yab _,Zo,λh=>Zo⟩
 ·exact⟨_,cap,rfl,hc,Zo,λ_=>⟨b,off,rfl,Zam hh,λi hn=>by simp[World.cell?,hh,hi i hn]⟩⟩
theorem SlF.take {w:World} {p:Option Addr} {n cap:Nat} {f:Nat->Int} (h:SlF w (.slice p n cap) n f) (k:Nat) (hk:k<=n):SlF w (.slice p k cap) k f:=by
 rcases h with ⟨h,rfl⟩|⟨b,off,cap',cs,fr,hv,hc,hc2,hh,hi⟩
 ·obtain rfl:k=0:=by omega
  exact .inl ⟨h,rfl⟩
 ·simp only[Ydm]at hv
  obtain⟨rfl,_,rfl⟩:=hv;exact .inr ⟨b,off,cap,cs,fr,rfl,Zo,Zo,hh,λi hi'=>hi i Zo⟩
def Sz (m:Nat) (w:World) (v:Value) (N:Int):Prop:=∃n f,SlF w v n f∧Digs f n∧vf f n=N∧n<=m
theorem Sz.ext {m:Nat} {w w':World} {v:Value} {N:Int} (h:Sz m w v N) (hx:Ext w w'):Sz m w' v N:=by
 obtain⟨n,f,h1,h2⟩:=h;exact⟨n,f,h1.ext hx,h2⟩
theorem Sz.mono {m m':Nat} {w:World} {v:Value} {N:Int} (h:Sz m w v N) (hm:m<=m'):Sz m' w v N:=by
 obtain⟨n,f,h1,h2,h3,h4⟩:=h;exact⟨n,f,h1,h2,h3,Zo⟩
theorem Sz.nonneg {m:Nat} {w:World} {v:Value} {N:Int} (h:Sz m w v N):0<=N:=by
 obtain⟨n,f,h1,h2,rfl,h4⟩:=h;exact h2.nonneg
theorem Sz.slice {m:Nat} {w:World} {v:Value} {N:Int} (h:Sz m w v N):∃p n c,v=.slice p n c∧n<=m:=by
 obtain⟨n,f,h1,h2,rfl,h4⟩:=h;obtain⟨p,cap,rfl,_⟩:=h1.open;exact⟨p,n,cap,rfl,h4⟩
end Go.Mono
namespace Go.Mono
open Go.RowKit
theorem SlF.opens {w:World} {p:Option Addr} {n cap:Nat} {f:Nat->Int} (h:SlF w (.slice p n cap) n f):n<=cap∧n<=140737488351232∧
  (0<n->∃b off,p=some ⟨b,off,none⟩∧b<w.heap.size∧(∀i,i<n->w.cell? ⟨b,off+i,none⟩=some (.int .i64 (f i)))):=by
 obtain⟨p',cap',hv,h1,h2,h3⟩:=h.open;simp only[Ydm]at hv;obtain⟨rfl,_,rfl⟩:=hv;exact⟨h1,h2,h3⟩
end Go.Mono
namespace Go.Mono
theorem Sz.sl {m:Nat} {w:World} {p:Option Addr} {n c:Nat} {N:Int} (h:Sz m w (.slice p n c) N):∃n' f,SlF w (.slice p n c) n' f∧Digs f n'∧vf f n'=N∧n'<=m∧n'=n:=by
 obtain⟨n',f,h1,h2,h3,h4⟩:=h;obtain⟨p',cap,hv,_⟩:=h1.open;simp only[Ydm]at hv;exact⟨n',f,h1,h2,h3,h4,hv.2.1.symm⟩
end Go.Mono
namespace Go.Mono
theorem Zil (a b:Rat) : 
  let g:=a.den.gcd b.den
  let n:=a.num*((b.den/g:Nat):Int)+b.num*((a.den/g:Nat):Int)
  let h:=n.natAbs.gcd g
  (a+b).num=n/(h:Int)∧(a+b).den=(a.den/g)*(b.den/h):=by
 intro g n h;have e:a+b=Rat.add a b:=rfl;rw[e];unfold Rat.add;by_cases hg:a.den.gcd b.den=1
 ·have hg':g=1:=hg
  simp only[hg,dif_pos];have hh:h=1:=by show n.natAbs.gcd g=1;rw[hg'];exact Nat.gcd_one_right _
  simp only[hh,n,hg',Nat.div_one];simp
 ·simp only[hg,dif_neg,not_false_eq_true]
  unfold Rat.maybeNormalize;split
  ·rename_i h1
   have hh:h=1:=h1;simp only[hh,Nat.div_one];constructor
   ·show n=n/((1:Nat):Int)
    simp
   ·rfl
  ·have hd:h ∣ b.den:=Nat.dvd_trans (Nat.gcd_dvd_right _ _) (Nat.gcd_dvd_right _ _)
   constructor
   ·exact Int.divExact_eq_ediv (Int.ofNat_dvd_left.2 (Nat.gcd_dvd_left _ _))
   ·exact(Nat.divExact_eq_div (Nat.dvd_mul_left_of_dvd hd _)).trans (Nat.mul_div_assoc _ hd)
theorem Zef (a b:Rat) :
  let g1:=a.num.natAbs.gcd b.den
  let g2:=b.num.natAbs.gcd a.den
  (a*b).num=(a.num/(g1:Int))*(b.num/(g2:Int))∧(a*b).den=(a.den/g2)*(b.den/g1):=by
 intro g1 g2;have e:a*b=Rat.mul a b:=rfl;rw[e];unfold Rat.mul;constructor
 ·simp only[Int.divExact_eq_ediv];rfl
 ·simp only[Nat.divExact_eq_div];rfl
theorem Zim (a:Rat) (h:a.num≠0):(a⁻¹).den=a.num.natAbs∧(a⁻¹).num=if a.num<0 then -(a.den:Int) else(a.den:Int):=by
 have e:a⁻¹=Rat.inv a:=rfl;rw[e];unfold Rat.inv;by_cases h1:a.num<0
 ·simp[h1]
 ·have h2:0<a.num:=by omega
  simp[h1,h2]
theorem Zeg (a:Rat):(-a).num = -a.num∧(-a).den=a.den:=⟨rfl,rfl⟩
theorem Zdv {n:Int} {h:Nat} (hd:h ∣ n.natAbs):((n/(h:Int)).natAbs:Int)=(n.natAbs:Int)/(h:Int):=by
 obtain⟨k,hk⟩:=hd;rcases Yff h with rfl|h0
 ·simp
 ·have e:n=(h:Int)*k∨n=(h:Int)*(-k):=by
   rcases Int.natAbs_eq n with h1|h1
   ·left;rw[h1,hk];simp
   ·right;rw[h1,hk,Ycw,Int.mul_neg]
  have hne:(h:Int)≠0:=Zo;have e2:(n.natAbs:Int)/(h:Int)=k:=by rw[hk,Ycw,Int.mul_ediv_cancel_left _ hne]
  rw[e2];rcases e with e|e
  ·rw[e,Int.mul_ediv_cancel_left _ hne];simp
  ·rw[e,Int.mul_ediv_cancel_left _ hne];simp
theorem Zvu (a b:Rat) (n:Int) (hn:a.num*(((b.den:Int)/(a.den.gcd b.den:Nat)))+b.num*((a.den:Int)/(a.den.gcd b.den:Nat))=n) :
  (a+b).num=n/((n.natAbs.gcd (a.den.gcd b.den):Nat):Int)∧((a+b).num.natAbs:Int)=(n.natAbs:Int)/((n.natAbs.gcd (a.den.gcd b.den):Nat):Int)∧
   ((a+b).den:Int)=((a.den:Int)/(a.den.gcd b.den:Nat))*((b.den:Int)/((n.natAbs.gcd (a.den.gcd b.den):Nat):Int))∧0<((n.natAbs.gcd (a.den.gcd b.den):Nat):Int):=by
 have hg:0<a.den.gcd b.den:=Nat.gcd_pos_of_pos_left _ (Yck a.den_nz);have hh:0<n.natAbs.gcd (a.den.gcd b.den):=Yfa _ hg;have:=Zil a b;simp only[Int.natCast_ediv,hn]at this;obtain⟨h1,h2⟩:=this;refine⟨h1,?_,?_,Zo⟩
 ·rw[h1];exact Zdv (Nat.gcd_dvd_left _ _)
 ·rw[h2];simp
theorem Zog {n i:Nat} {S:Int} {h:Nat->Int} (hi:i<n) (hv:vf h (n+1)=S) (hlo:∀j,j<i->0<=h j∧h j<1000000000)
  (hmid:∀j,i<=j->j<n->0<=h j∧h j<=(if j=i then 1999999999 else 1999999998)) (hn:h n=0) (hc:1000000000<=h i) :
  let h':=λj=>if j=i+1 then h (i+1)+1 else if j=i then h i-1000000000 else h j
  vf h' (n+1)=S∧(∀j,j<i+1->0<=h' j∧h' j<1000000000)∧
  (∀j,i+1<=j->j<n->0<=h' j∧h' j<=(if j=i+1 then 1999999999 else 1999999998))∧(i+1<n->h' n=0)∧(i+1=n->0<=h' n∧h' n<1000000000):=by
 intro h';have hm:=hmid i (Yab _) hi;rw[if_pos rfl]at hm;refine⟨?_,λj hj=>?_,λj hj hjn=>?_,λhin=>?_,λhin=>?_⟩
 ·have e1:h'=λj=>if j=i+1 then h (i+1)+1 else(λj=>if j=i then h i-1000000000 else h j) j:=rfl
  rw[e1,Zc5,Zc5,hv,if_pos Zo,if_pos Zo];simp only[show ¬i+1=i by omega,if_false,Za5];grind
 ·simp only[h']
  rw[if_neg Zo];split
  ·omega
  ·exact hlo j Zo
 ·simp only[h']
  have:=hmid j Zo hjn;rw[if_neg Zo]at this;by_cases e:j=i+1
  ·subst e;rw[if_pos rfl,if_pos rfl];omega
  ·rw[if_neg e,if_neg e,if_neg Zo];exact this
 ·simp only[h']
  rw[if_neg Zo,if_neg Zo];exact hn
 ·subst hin
  simp only[h',if_true];omega
theorem Zxq (f g:Nat->Int) (k:Nat):vf (λj=>f j+g j) k=vf f k+vf g k:=by
 induction k with
 | zero=>rfl
 | succ k ih=>rw[Zaj,Zaj,Zaj,ih];grind
theorem Zp5 {f:Nat->Int} {n k:Nat} (hk:n<=k):vf (λj=>if j<n then f j else 0) k=vf f n:=by
 induction k with
 | zero => obtain rfl : n = 0 := by omega
           rfl
 | succ k ih =>
   rw[Zaj];by_cases h:n<=k
   ·rw[ih h,if_neg Zo];simp
   ·obtain rfl:n=k+1:=by omega
    rw[if_pos Zo,Zaj];congr 1
    exact Zbi λi hi=>by rw[if_pos Zo]
def PlusInv (n:Nat) (S:Int) (i:Nat) (h:Nat->Int):Prop:=
 vf h (n+1)=S∧(∀j,j<i->0<=h j∧h j<1000000000)∧(∀j,i<=j->j<n->0<=h j∧h j<=(if j=i then 1999999999 else 1999999998))∧(i<n->h n=0)∧(i=n->0<=h n∧h n<1000000000)
theorem PlusInv.start {n m:Nat} {f g:Nat->Int} (hmn:m<=n) (f0:∀i,i<n->0<=f i) (f1:∀i,i<n->f i<1000000000) (g0:∀i,i<m->0<=g i) (g1:∀i,i<m->g i<1000000000) :
  PlusInv n (vf f n+vf g m) 0 (λj=>(if j<n then f j else 0)+(if j<m then g j else 0)):=by
 refine⟨?_,λj hj=>Zo,λj _ hj=>?_,λh=>?_,λh=>?_⟩
 ·rw[Zxq,Zp5 Zo,Zp5 Zo]
 ·have a:=f0 j hj
  have b:=f1 j hj;simp only[hj,if_true];by_cases hm:j<m
  ·have c:=g0 j hm
   have d:=g1 j hm;simp only[hm,if_true];split<;>omega
  ·simp only[hm,if_false];split<;>omega
 ·simp;omega
 ·subst h;simp;omega
theorem PlusInv.carry {n i:Nat} {S:Int} {h:Nat->Int} (H:PlusInv n S i h) (hi:i<n) (hc:1000000000<=h i) :
  PlusInv n S (i+1) (λj=>if j=i+1 then h (i+1)+1 else if j=i then h i-1000000000 else h j):=by
 obtain⟨a,b,c,d,e⟩:=H;have:=Zog hi a b c (d hi) hc;exact this
theorem PlusInv.plain {n i:Nat} {S:Int} {h:Nat->Int} (H:PlusInv n S i h) (hi:i<n) (hc:h i<1000000000):PlusInv n S (i+1) h:=by
 obtain⟨a,b,c,d,e⟩:=H;have h0:=c i (Yab _) hi;refine⟨a,λj hj=>?_,λj hj hjn=>?_,λ_=>d hi,λhe=>by rw[d hi];omega⟩
 ·rcases Ydu j i with h|h
  ·exact b j h
  ·obtain rfl:j=i:=by omega
   omega
 ·have:=c j Zo hjn
  rw[if_neg Zo]at this;split<;>omega
theorem PlusInv.bd {n i:Nat} {S:Int} {h:Nat->Int} (H:PlusInv n S i h) (hi:i<n):0<=h i∧h i<=1999999999∧0<=h (i+1)∧h (i+1)<=1999999998:=by
 obtain⟨a,b,c,d,e⟩:=H;have h0:=c i (Yab _) hi;rw[if_pos rfl]at h0;by_cases hn:i+1<n
 ·have:=c (i+1) Zo hn
  rw[if_neg Zo]at this;omega
 ·have:=d hi
  obtain rfl:n=i+1:=Zo;omega
theorem PlusInv.done {n:Nat} {S:Int} {h:Nat->Int} (H:PlusInv n S n h):Digs h (trimN h (n+1))∧vf h (trimN h (n+1))=S:=by
 obtain⟨a,b,c,d,e⟩:=H;have:=Zb2 (f:=h) (k:=n+1) (λi hi=>by
  rcases Ydu i n with h|h
  ·exact(b i h).1
  ·obtain rfl:i=n:=by omega
   exact(e rfl).1) (λi hi=>by
  rcases Ydu i n with h|h
  ·exact(b i h).2
  ·obtain rfl:i=n:=by omega
   exact(e rfl).2)
 rw[a]at this;exact this
section
open Go.RowKit
def RowF (w:World) (g n:Nat) (f:Nat->Int):Prop:=∃cs,w.heap[g]? = some (.cells cs 3 (0,0))∧n<=cs.size∧∀i,i<n->cs[i]? = some (.int .i64 (f i))
theorem RowF.lt {w:World} {g n:Nat} {f:Nat->Int} (h:RowF w g n f):g<w.heap.size:=by obtain⟨cs,h,_⟩:=h;exact Zam h
theorem RowF.cell {w:World} {g n:Nat} {f:Nat->Int} (h:RowF w g n f) (i:Nat) (hi:i<n):w.cell? ⟨g,i,none⟩=some (.int .i64 (f i)):=by
 obtain⟨cs,h1,h2,h3⟩:=h;simp[World.cell?,h1,h3 i hi]
theorem RowF.frozen {w:World} {g n:Nat} {f:Nat->Int} (h:RowF w g n f) (i:Nat):w.frozen? ⟨g,i,none⟩=false:=by
 obtain⟨cs,h1,h2,h3⟩:=h;simp[World.frozen?,h1]
theorem RowF.set {w:World} {g n:Nat} {f:Nat->Int} (h:RowF w g n f) (i:Nat) (x:Int):RowF (w.setCell ⟨g,i,none⟩ (.int .i64 x)) g n (λj=>if j=i then x else f j):=by
 obtain⟨cs,h1,h2,h3⟩:=h;refine⟨cs.setIfInBounds i (.int .i64 x),?_,by simpa using h2,λj hj=>?_⟩
 ·show(w.heap.modify g _)[g]? = _
  simp[Array.getElem?_modify,h1]
 ·rw[Array.getElem?_setIfInBounds]
  by_cases e:i=j
  ·subst e;simp[show i<cs.size by omega]
  ·have e2:¬j=i:=λh=>e h.symm
   simp only[e2,if_false];rw[if_neg e];exact h3 j hj
theorem RowF.other {w:World} {g n:Nat} {f:Nat->Int} (h:RowF w g n f) (a:Addr) (u:Value) (hne:g≠a.block):RowF (w.setCell a u) g n f:=by
 obtain⟨cs,h1,h2⟩:=h;exact⟨cs,(Ydx w a u g hne).trans h1,h2⟩
theorem RowF.below {w w':World} {g n:Nat} {f:Nat->Int} (h:RowF w g n f) (hb:Below w.heap.size w w'):RowF w' g n f:=by
 have hl:=h.lt;obtain⟨cs,h1,h2⟩:=h;exact⟨cs,(hb.block g hl).trans h1,h2⟩
theorem RowF.drewN {w:World} {g n:Nat} {f:Nat->Int} (h:RowF w g n f) (k:Nat):RowF (w.drewN k) g n f:=h
theorem RowF.congr {w:World} {g n:Nat} {f f':Nat->Int} (h:RowF w g n f) (he:∀i,i<n->f i=f' i):RowF w g n f':=by
 obtain⟨cs,h1,h2,h3⟩:=h;exact⟨cs,h1,h2,λi hi=>by rw[h3 i hi,he i hi]⟩
theorem RowF.slice {w:World} {g n:Nat} {f:Nat->Int} (h:RowF w g n f) (hn:n<=140737488351232) (k:Nat) (hk:k<=n) (cap:Nat) (hc:k<=cap):SlF w (.slice (some ⟨g,0,none⟩) k cap) k f:=by
 obtain⟨cs,h1,h2,h3⟩:=h;exact .inr ⟨g,0,cap,cs,_,rfl,hc,Zo,h1,λi hi=>by rw[Yba];exact h3 i Zo⟩
theorem RowF.le {w:World} {g n:Nat} {f:Nat->Int} (h:RowF w g n f) (k:Nat) (hk:k<=n):RowF w g k f:=by
 obtain⟨cs,h1,h2,h3⟩:=h;exact⟨cs,h1,Zo,λi hi=>h3 i Zo⟩
def OwnF (w:World) (base:Nat) (v:Value) (n:Nat) (f:Nat->Int):Prop:=w.ownsRow base 3 1 v n ((List.range n).map λi=>.int .i64 (f i))
theorem OwnF.nil (w:World) (base:Nat) (f:Nat->Int):OwnF w base (.slice none 0 0) 0 f:=Yaj _ _ _ _
theorem OwnF.congr {w:World} {base:Nat} {v:Value} {n:Nat} {f f':Nat->Int} (h:OwnF w base v n f) (he:∀i,i<n->f i=f' i):OwnF w base v n f':=by
 unfold OwnF at h ⊢;rwa [Yfy (g:=λi=>Value.int .i64 (f' i)) (λi hi=>by rw[he i (Yeu.1 hi)])]at h
theorem OwnF.open {w:World} {base:Nat} {v:Value} {n:Nat} {f:Nat->Int} (h:OwnF w base v n f) :
  (v=.slice none 0 0∧n=0)∨∃g cap,v=.slice (some ⟨g,0,none⟩) n cap∧base<=g∧n<=cap∧RowF w g n f:=by
 obtain⟨hl,h|⟨g,cap,cur,hv,hb,hh,hn,hm,hs,ht⟩⟩:=h
 ·exact .inl h
 ·refine .inr ⟨g,cap,hv,hb,hn,cur,hh,Zo,λi hi=>?_⟩
  have e:(cur.toList.take (n*1))[i]? = ((List.range n).map λi=>Value.int .i64 (f i))[i]?:=by rw[ht]
  rw[List.getElem?_take_of_lt Zo]at e;simpa[hi]using e
theorem OwnF.sl {w:World} {base:Nat} {v:Value} {n:Nat} {f:Nat->Int} (h:OwnF w base v n f) (hn:n<=140737488351232):SlF w v n f:=by
 rcases h.open with h|⟨g,cap,rfl,_,hc,hr⟩
 ·exact .inl h
 ·exact hr.slice hn n (Yab _) cap hc
theorem OwnF.shape {w:World} {base:Nat} {v:Value} {n:Nat} {f:Nat->Int} (h:OwnF w base v n f):∃p c,v=.slice p n c:=by
 rcases h.open with ⟨rfl,rfl⟩|⟨g,cap,rfl,_⟩
 ·exact⟨_,_,rfl⟩
 ·exact⟨_,_,rfl⟩
theorem SlF.congr {w:World} {v:Value} {n:Nat} {f f':Nat->Int} (h:SlF w v n f) (he:∀i,i<n->f i=f' i):SlF w v n f':=by
 rcases h with h|⟨b,off,cap,cs,fr,h1,h2,h3,h4,h5⟩
 ·exact .inl h
 ·exact .inr ⟨b,off,cap,cs,fr,h1,h2,h3,h4,λi hi=>by rw[h5 i hi,he i hi]⟩
structure OnlyRow (r:Nat) (w w':World):Prop where
 os:w'.os=w.os
 tape:w'.tape=w.tape
 output:w'.output=w.output
 size:w'.heap.size=w.heap.size
 block:∀k,k≠r->w'.heap[k]? = w.heap[k]?
theorem OnlyRow.refl (r:Nat) (w:World):OnlyRow r w w:=⟨rfl,rfl,rfl,rfl,λ_ _=>rfl⟩
theorem OnlyRow.trans {r:Nat} {a b c:World} (h:OnlyRow r a b) (k:OnlyRow r b c):OnlyRow r a c:=⟨k.os.trans h.os,k.tape.trans h.tape,k.output.trans h.output,k.size.trans h.size,λi hi=>(k.block i hi).trans (h.block i hi)⟩
theorem OnlyRow.set {r:Nat} {a w:World} (h:OnlyRow r a w) (i:Nat) (u:Value):OnlyRow r a (w.setCell ⟨r,i,none⟩ u):=
 h.trans ⟨rfl,rfl,rfl,by show(w.heap.modify _ _).size=_;simp,λk hk=>Ydx w _ u k hk⟩
theorem OnlyRow.drewN {r:Nat} {a w:World} (h:OnlyRow r a w) (n:Nat):OnlyRow r a (w.drewN n):=⟨h.os,h.tape,h.output,h.size,h.block⟩
theorem OnlyRow.row {r:Nat} {a w:World} (h:OnlyRow r a w) {s n:Nat} {f:Nat->Int} (hs:RowF a s n f) (hne:s≠r):RowF w s n f:=by
 obtain⟨cs,h1,h2⟩:=hs;exact⟨cs,(h.block s hne).trans h1,h2⟩
theorem OnlyRow.below {r B:Nat} {w0 a w:World} (h:OnlyRow r a w) (hb:Below B w0 a) (hB:B<=r):Below B w0 w:=
 hb.trans ⟨h.os,h.tape,h.output,Ybl h.size.symm,λk hk=>h.block k Zo⟩
section
variable {P:Program} {ops:Array Oper} {rest:List Oper} {o:Oper} {a:Act} {Q:Exit->Act->World->Prop}
theorem Za0 (w:World) (hg:o.guard=none) (l c:Operand) (t:TypeId) (hop:o.op=Op.makeSlice t l c)
  (h1:P.underlying t=some (.slice 3)) (h2:(P.info? 3).map (λi=>(i.zero,i.size,i.bytes))=some (some (.int .i64 0),1,8))
  (L C:Int) (n:Nat) (hl:a.eval l=.int .i64 L) (hc:a.eval c=.int .i64 C) (hL:L=(n:Int)) (hC:C=(n:Int)) (hn:n<=17592186044416)
  (hK:∀w',RowF w' w.heap.size n (λ_=>0)->Below w.heap.size w w'->wpList P ops Q rest (a.put o.dst (.slice (some ⟨w.heap.size,0,none⟩) n n)) w') :
  wpList P ops Q (o::rest) a w:=by
 obtain⟨i,hi,hz,hs,hb⟩:=info_parts h2;refine wpList_plain hg λK hK'=>?_;subst hL hC;have hr:=run_make (P:=P) w t 3 i (.int .i64 0) h1 hi hz .i64 .i64 n n Zo (Yek _) (by rw[hb];omega) Zo;simp only[Ycb,hs]at hr;unfold Oper.wp;simp[execOp,hop,hl,hc,hr,Result.andThen];refine hK' _ _ (hK _ ⟨madeCells #[.int .i64 0] n,?_,by simp[madeCells],λj hj=>?_⟩ ((Yae _ _).alloc (Yab _) _))
 ·show(w.heap.push _)[w.heap.size]? = _
  simp[Value.cells]
 ·simp[madeCells,hj,Nat.mod_one]
theorem Zdj (w:World) (hg:o.guard=none) (d s:Operand) (dT sT:TypeId) (ho:o.op=.call {callee:=.builtin .copy,args:=#[d,s],argTypes:=#[dT,sT]})
  (hu:P.underlying dT=some (.slice 3)) (hsz:(P.info? 3).map (·.size)=some 1)
  (g N cap R:Nat) (h:Nat->Int) (p:Option Addr) (n c:Nat) (f:Nat->Int) (hd:a.eval d=.slice (some ⟨g,0,none⟩) N cap) (hs:a.eval s=.slice p n c)
  (hrow:RowF w g R h) (hsrc:SlF w (.slice p n c) n f) (hnN:n<=N) (hNR:N<=R) (B:Nat) (w0:World) (hb:Below B w0 w) (hBg:B<=g)
  (hK:∀w',RowF w' g R (λj=>if j<n then f j else h j)->Below B w0 w'->wpList P ops Q rest (a.put o.dst (goInt n)) w') :
  wpList P ops Q (o::rest) a w:=by
 obtain⟨cs,h1,h2,h3⟩:=hrow;have hlen:((List.range n).map λi=>Value.int .i64 (f i)).length=n:=Zs;refine wpList_copy_splice (w:=w) hg d s dT sT ho 3 hu hsz _ _ N cap n c hd hs g 0 cs.toList 3 (by simpa using h1) ((List.range n).map λi=>Value.int .i64 (f i)) (by rw[hlen];exact(Nat.min_eq_left hnN).symm) ?_ (by rw[hlen];simp;omega) ?_ B w0 hb hBg ?_
 ·intro hp
  rw[hlen]at hp;obtain⟨_,_,hx⟩:=hsrc.opens;obtain⟨b,off,rfl,_,hcell⟩:=hx hp;refine⟨rfl,_,rfl,λj v hj=>?_⟩;simp only[Ycj,Yad]at hj;obtain⟨i,hi,rfl⟩:=hj;obtain⟨hlt,he⟩:=Yan.1 hi;simp at hlt he;subst he;have:=hcell j hlt;by_cases h0:j=0
  ·subst h0;simpa[Addr.add]using this
  ·simpa[Addr.add,h0]using this
 ·intro v hv
  simp at hv;obtain⟨i,_,rfl⟩:=hv;rfl
 ·intro w' hw' hb'
  rw[hlen];refine hK w' ⟨_,hw'.out,?_,λj hj=>?_⟩ hb'
  ·simp[splice];omega
  ·simp only[splice,List.take_zero,Ydp,Yba,hlen]
   simp only[List.getElem?_toArray,List.getElem?_append,Ybt,List.length_range,Yeh];by_cases hjn:j<n
   ·simp[hjn]
   ·simp only[hjn,if_false]
    rw[show n+(j-n)=j by omega];simpa using h3 j hj
theorem Za9 (w:World) (hg:o.guard=none) (s x:Operand) (t:TypeId) (ho:o.op=.call {callee:=.builtin .append,args:=#[s,x],argTypes:=#[t,t]})
  (h1:P.underlying t=some (.slice 3)) (h2:(P.info? 3).map (λi=>(i.zero,i.size,i.bytes))=some (some (.int .i64 0),1,8))
  (base:Nat) (v:Value) (n:Nat) (f:Nat->Int) (hs:a.eval s=v) (hown:OwnF w base v n f)
  (p:Option Addr) (m c:Nat) (g:Nat->Int) (hx:a.eval x=.slice p m c) (hsl:SlF w (.slice p m c) m g) (hb:n+m<=17592186044416) (hbase:base<=w.heap.size)
  (hK:∀v' w',OwnF w' base v' (n+m) (λi=>if i<n then f i else g (i-n))->w.grownBy w' v.ownBlock->wpList P ops Q rest (a.put o.dst v') w') :
  wpList P ops Q (o::rest) a w:=by
 obtain⟨i,hi,hz,hs1,hb1⟩:=info_parts h2;have key:∀(k l:Nat) (f g:Nat->Int),((List.range k).map λi=>Value.int .i64 (f i))++((List.range l).map λi=>Value.int .i64 (g i))=(List.range (k+l)).map λi=>Value.int .i64 (if i<k then f i else g (i-k)):=by
  intro k l f g;rw[List.range_add,List.map_append];congr 1
  ·refine Yfy λi hi=>?_
   rw[if_pos (Yeu.1 hi)]
  ·rw[List.map_map]
   refine Yfy λi _=>?_;simp only[Function.comp];rw[if_neg Zo,show k+i-k=i by omega]
 rcases hsl with ⟨hv,rfl⟩|⟨b,off,cap,cs,fr,hv,hc,hc2,hh,hcs⟩
 ·refine wpList_append_own_none hg s x t ho base 3 i 1 h1 hi v n _ hs hown (hx.trans hv) ?_
  exact hK v w (hown.congr λi hi=>by rw[if_pos hi]) ⟨rfl,rfl,rfl,Yab _,λ_ _ _=>rfl⟩
 ·simp only[Ydm]at hv
  obtain⟨rfl,_,rfl⟩:=hv;refine wpList_append_own w hg s x t ho base 3 i (.int .i64 0) 1 8 h1 hi hz hs1 hb1 rfl Zd v n _ hs hown ⟨b,off,none⟩ m c ((List.range m).map λi=>Value.int .i64 (g i)) hx Zs ?_ ?_ (by simp[maxLen];omega) Zo hbase ?_
  ·intro j u hj
   simp only[Ycj,Yad]at hj;obtain⟨i,hi,rfl⟩:=hj;obtain⟨hlt,he⟩:=Yan.1 hi;simp at hlt he;subst he;have:w.cell? ⟨b,off+j,none⟩=some (.int .i64 (g j)):=by simp[World.cell?,hh,hcs j hlt]
   by_cases h0:j=0
   ·subst h0;simpa[Addr.add]using this
   ·simpa[Addr.add,h0]using this
  ·intro u hu
   simp at hu;obtain⟨i,_,rfl⟩:=hu;rfl
  ·intro v' w' h3 h4 _
   rw[key]at h3;exact hK v' w' h3 h4
end
end
def cmpDown (f g:Nat->Int):Nat->Int
 | 0=>0
 | k+1=>if f k=g k then cmpDown f g k else f k-g k
def cmpV (f:Nat->Int) (n:Nat) (g:Nat->Int) (m:Nat):Int:=if n=m then cmpDown f g n else(n:Int)-m
theorem Zh2 (f g:Nat->Int) (k:Nat) (hk:0<k) (h:f (k-1)=g (k-1)):cmpDown f g k=cmpDown f g (k-1):=by
 obtain⟨k,rfl⟩:∃j,k=j+1:=⟨k-1,Zo⟩
 simp only[Ybf]at h ⊢;rw[cmpDown,if_pos h]
theorem Zh3 (f g:Nat->Int) (k:Nat) (hk:0<k) (h:¬f (k-1)=g (k-1)):cmpDown f g k=f (k-1)-g (k-1):=by
 obtain⟨k,rfl⟩:∃j,k=j+1:=⟨k-1,Zo⟩
 simp only[Ybf]at h ⊢;rw[cmpDown,if_neg h]
end Go.Mono
namespace Go.Proofs.W
open Go.RowKit Go.Mono
theorem Zvv (p q:Option Addr) (n m c1 c2:Nat) (f g:Nat->Int) (w:World) (h1:SlF w (.slice p n c1) n f) (h2:SlF w (.slice q m c2) m g)
  (f0:∀i,i<n->0<=f i) (f1:∀i,i<n->f i<1000000000) (g0:∀i,i<m->0<=g i) (g1:∀i,i<m->g i<1000000000) :
  Calls Tryz.prog 132 #[.slice p n c1,.slice q m c2] w λe w'=>e=.returned (.int .i64 (cmpV f n g m))∧∃k,w'=w.drewN k:=by
 obtain⟨hc1,hn1,hx1⟩:=h1.opens;obtain⟨hc2,hn2,hx2⟩:=h2.opens;clear h1 h2;by_cases hnm:n=m
 ·subst hnm
  go_enter Tryz.func132,Tryz.ntmps132
  go_wp2
  go_loopw [5] (λa wr=>∃k:Nat,k<=n∧a=.int .i64 ((k:Int)-1)∧cmpDown f g k=cmpDown f g n∧∃j,wr=w.drewN j) (λa _=>(intOf a+1).toNat)
  case atStart=>exact⟨n,Yab _,rfl,rfl,0,rfl⟩
  case round=>
   obtain⟨k,hk,rfl,ht,j,rfl⟩:=hrel;have HT:=Yah ht;clear ht;by_cases h0:0<k
   ·obtain⟨b,off,rfl,hb,hcell⟩:=hx1 Zo
    obtain⟨b2,off2,rfl,hb2,hcell2⟩:=hx2 Zo;have a1:=hcell (k-1) Zo;have a2:=hcell2 (k-1) Zo;have b1:=f0 (k-1) Zo;have b2:=f1 (k-1) Zo;have b3:=g0 (k-1) Zo;have b4:=g1 (k-1) Zo;clear hcell hcell2 hx1 hx2 f0 f1 g0 g1;obtain⟨k,rfl⟩:∃j,k=j+1:=⟨k-1,Zo⟩
    simp only[Ybf]at a1 a2 b1 b2 b3 b4;rw[show((k+1:Nat):Int)-1=(k:Int) by omega];have HE:=Zh2 f g (k+1) Zo;have HN:=Zh3 f g (k+1) Zo;simp only[Ybf]at HE HN;replace HE:=Yah HE;replace HN:=Yah HN;by_cases hfg:f k=g k
    ·have hq:(f k != g k)=false:=by simpa using hfg
     have HF:=Yah hfg;clear hfg;go_wp2
     go_quiet (fail)
     go_wp2
     go_roundw
     case rel=>exact⟨k,Zo,rfl,by rw[<-HT.out,HE.out HF.out],_,rfl⟩
     case measure=>simp[intOf]
    ·have hq:(f k != g k)=true:=by simpa using hfg
     have HF:=Yah hfg;clear hfg;go_wp2
     go_quiet (fail)
     go_wp2
     go_quiet (fail)
     go_wp2
     go_ret
     exact⟨by rw[cmpV,if_pos rfl,<-HT.out,HN.out HF.out];rfl,_,by rw[Ydc,Ydc]⟩
   ·obtain rfl:k=0:=by omega
    go_wp2
    go_ret
    exact⟨by rw[cmpV,if_pos rfl,<-HT.out];rfl,_,rfl⟩
 ·have hnm':((n:Int) != (m:Int))=true:=by simp;omega
  go_enter Tryz.func132,Tryz.ntmps132
  go_wp2
  go_ret
  refine⟨by rw[cmpV,if_neg hnm];rfl,0,rfl⟩
end Go.Proofs.W
namespace Go.Mono
theorem Zj1 {f g:Nat->Int} {n:Nat} (f0:∀i,i<n->0<=f i) (f1:∀i,i<n->f i<1000000000) (g0:∀i,i<n->0<=g i) (g1:∀i,i<n->g i<1000000000) (cd:Nat->Int)
  (h0:cd 0=0) (hs:∀k,cd (k+1)=if f k=g k then cd k else f k-g k):(cd n<0↔vf f n<vf g n)∧(cd n=0↔vf f n=vf g n):=by
 induction n with
 | zero=>rw[h0];simp[vf]
 | succ n ih =>
   have h1:=ih (λi hi=>f0 i Zo) (λi hi=>f1 i Zo) (λi hi=>g0 i Zo) (λi hi=>g1 i Zo);rw[hs,Zaj,Zaj];by_cases e:f n=g n
   ·rw[if_pos e,e];omega
   ·rw[if_neg e]
    have a1:=Zaq (f:=f) (k:=n) λi hi=>f0 i Zo;have a2:=Zaq (f:=g) (k:=n) λi hi=>g0 i Zo;have b1:=Zc3 (f:=f) (k:=n) λi hi=>f1 i Zo;have b2:=Zc3 (f:=g) (k:=n) λi hi=>g1 i Zo;rcases Yge e with h|h
    ·have:(f n+1)*pw n<=g n*pw n:=Yaw Zo (Yap (Za8 n))
     rw[Yel]at this;omega
    ·have:(g n+1)*pw n<=f n*pw n:=Yaw Zo (Yap (Za8 n))
     rw[Yel]at this;omega
def MinusInv (n:Nat) (S:Int) (i:Nat) (h:Nat->Int):Prop:=
 vf h n=S∧(∀j,j<i->0<=h j∧h j<1000000000)∧(∀j,i<=j->j<n->(if j=i then -1000000000 else -999999999)<=h j∧h j<1000000000)
theorem Zxr (f g:Nat->Int) (k:Nat):vf (λj=>f j-g j) k=vf f k-vf g k:=by
 induction k with
 | zero=>rfl
 | succ k ih=>rw[Zaj,Zaj,Zaj,ih];grind
theorem MinusInv.start {n m:Nat} {f g:Nat->Int} (hmn:m<=n) (f0:∀i,i<n->0<=f i) (f1:∀i,i<n->f i<1000000000) (g0:∀i,i<m->0<=g i) (g1:∀i,i<m->g i<1000000000) :
  MinusInv n (vf f n-vf g m) 0 (λj=>f j-(if j<m then g j else 0)):=by
 refine⟨?_,λj hj=>Zo,λj _ hj=>?_⟩
 ·rw[Zxr,Zp5 Zo]
 ·have a:=f0 j hj
  have b:=f1 j hj;by_cases hm:j<m
  ·have c:=g0 j hm
   have d:=g1 j hm;simp only[hm,if_true];split<;>omega
  ·simp only[hm,if_false];split<;>omega
theorem MinusInv.last {n i:Nat} {S:Int} {h:Nat->Int} (H:MinusInv n S i h) (hS:0<=S) (hi:i<n) (hc:h i<0):i+1<n:=by
 obtain⟨a,b,c⟩:=H;rcases Ydu (i+1) n with h1|h1
 ·exact h1
 ·obtain rfl:n=i+1:=by omega
  rw[Zaj]at a;have h2:=Zc3 (f:=h) (k:=i) λj hj=>(b j hj).2;have h3:h i*pw i<=(-1)*pw i:=Yaw Zo (Yap (Za8 i));omega
theorem MinusInv.bd {n i:Nat} {S:Int} {h:Nat->Int} (H:MinusInv n S i h) (hi:i<n) : -1000000000<=h i∧h i<1000000000∧(i+1<n->-999999999<=h (i+1)∧h (i+1)<1000000000):=by
 obtain⟨a,b,c⟩:=H;have h0:=c i (Yab _) hi;rw[if_pos rfl]at h0;refine⟨h0.1,h0.2,λh2=>?_⟩;have:=c (i+1) Zo h2;rwa [if_neg Zo]at this
theorem MinusInv.carry {n i:Nat} {S:Int} {h:Nat->Int} (H:MinusInv n S i h) (hi:i+1<n) (hc:h i<0) :
  MinusInv n S (i+1) (λj=>if j=i+1 then h (i+1)-1 else if j=i then h i+1000000000 else h j):=by
 have hb:=H.bd Zo;obtain⟨a,b,c⟩:=H;refine⟨?_,λj hj=>?_,λj hj hjn=>?_⟩
 ·have e1:(λj=>if j=i+1 then h (i+1)-1 else if j=i then h i+1000000000 else h j)=λj=>if j=i+1 then h (i+1)-1 else(λj=>if j=i then h i+1000000000 else h j) j:=rfl
  rw[e1,Zc5,Zc5,a,if_pos Zo,if_pos Zo];simp only[show ¬i+1=i by omega,if_false,Za5];grind
 ·show 0<=(if j=i+1 then _ else _)∧(if j=i+1 then _ else _)<_
  rw[if_neg Zo];split
  ·omega
  ·exact b j Zo
 ·show _<=(if j=i+1 then _ else _)∧(if j=i+1 then _ else _)<_
  have:=c j Zo hjn;rw[if_neg Zo]at this;by_cases e:j=i+1
  ·subst e;rw[if_pos rfl,if_pos rfl];omega
  ·rw[if_neg e,if_neg e,if_neg Zo];exact this
theorem MinusInv.plain {n i:Nat} {S:Int} {h:Nat->Int} (H:MinusInv n S i h) (hi:i<n) (hc:0<=h i):MinusInv n S (i+1) h:=by
 have hb:=H.bd hi;obtain⟨a,b,c⟩:=H;refine⟨a,λj hj=>?_,λj hj hjn=>?_⟩
 ·rcases Ydu j i with h|h
  ·exact b j h
  ·obtain rfl:j=i:=by omega
   omega
 ·have:=c j Zo hjn
  rw[if_neg Zo]at this;split<;>omega
theorem MinusInv.done {n:Nat} {S:Int} {h:Nat->Int} (H:MinusInv n S n h):Digs h (trimN h n)∧vf h (trimN h n)=S:=by
 obtain⟨a,b,c⟩:=H;have:=Zb2 (f:=h) (k:=n) (λi hi=>(b i hi).1) (λi hi=>(b i hi).2);rwa [a]at this
structure TimesInv (n m:Nat) (f g:Nat->Int) (i k:Nat) (h:Nat->Int) (c:Int):Prop where
 lo:∀j,j<n+m->0<=h j
 hi:∀j,j<n+m->h j<1000000000
 above:∀j,i+m<=j->j<n+m->h j=0
 c0:0<=c
 c1:c<1000000000
 val:vf h (n+m)+c*pw (i+k)=vf f i*vf g m+f i*pw i*vf g k
theorem Zgn {x y:Int} (x0:0<=x) (x1:x<1000000000) (y0:0<=y) (y1:y<1000000000):0<=x*y∧x*y<=999999998000000001:=by
 refine⟨Ycg x0 y0,?_⟩;have h1:x*y<=999999999*y:=Yaw Zo y0;omega
theorem TimesInv.step {n m:Nat} {f g:Nat->Int} {i k:Nat} {h:Nat->Int} {c:Int} (H:TimesInv n m f g i k h c) (hi:i<n) (hk:k<m)
  (f0:0<=f i) (f1:f i<1000000000) (g0:0<=g k) (g1:g k<1000000000) :
  TimesInv n m f g i (k+1) (λj=>if j=i+k then(h (i+k)+f i*g k+c)%1000000000 else h j) ((h (i+k)+f i*g k+c)/1000000000):=by
 have hb:=Zgn f0 f1 g0 g1;have a1:=H.lo (i+k) Zo;have a2:=H.hi (i+k) Zo;have a3:=H.c0;have a4:=H.c1;have hv:=H.val;generalize hx:h (i+k)+f i*g k+c=x;have hq:x=1000000000*(x/1000000000)+x%1000000000:=(Ycf x 1000000000).symm;refine⟨λj hj=>?_,λj hj=>?_,λj hj hjn=>?_,Zo,Zo,?_⟩
 ·show 0<=if j=i+k then _ else _
  split
  ·omega
  ·exact H.lo j hj
 ·show(if j=i+k then _ else _)<_
  split
  ·omega
  ·exact H.hi j hj
 ·show(if j=i+k then _ else _)=_
  rw[if_neg Zo];exact H.above j hj hjn
 ·rw[Zc5,if_pos Zo,Zaj,<-Ybj,Za5]
  have hp:=Zfu i k;generalize x/1000000000=q at hq ⊢;generalize x%1000000000=r at hq ⊢;generalize vf h (n+m)=V at hv ⊢;generalize vf f i*vf g m=W at hv ⊢;rw[hp]at hv ⊢;subst hq;grind
theorem TimesInv.outer {n m:Nat} {f g:Nat->Int} {i:Nat} {h:Nat->Int} {c:Int} (H:TimesInv n m f g i m h c) (hi:i<n) :
  TimesInv n m f g (i+1) 0 (λj=>if j=i+m then c else h j) 0:=by
 have a3:=H.c0;have a4:=H.c1;have hv:=H.val;have hz:=H.above (i+m) (Yab _) Zo;refine⟨λj hj=>?_,λj hj=>?_,λj hj hjn=>?_,Zo,Zo,?_⟩
 ·show 0<=if j=i+m then _ else _
  split
  ·omega
  ·exact H.lo j hj
 ·show(if j=i+m then _ else _)<_
  split
  ·omega
  ·exact H.hi j hj
 ·show(if j=i+m then _ else _)=_
  rw[if_neg Zo];exact H.above j Zo hjn
 ·rw[Zc5,if_pos Zo,hz,Zaj]
  simp only[vf];generalize vf h (n+m)=V at hv ⊢;grind
theorem TimesInv.start {n m:Nat} {f g:Nat->Int}:TimesInv n m f g 0 0 (λ_=>0) 0:=
 ⟨λ_ _=>Zs,λ_ _=>Zs,λ_ _ _=>rfl,Zs,Zs,by rw[Zdk λ_ _=>rfl];simp[vf]⟩
theorem TimesInv.done {n m:Nat} {f g:Nat->Int} {h:Nat->Int} (H:TimesInv n m f g n 0 h 0):Digs h (trimN h (n+m))∧vf h (trimN h (n+m))=vf f n*vf g m:=by
 have:=Zb2 (f:=h) (k:=n+m) H.lo H.hi;have hv:=H.val;simp[vf]at hv;rwa [hv]at this
structure ByInv (n:Nat) (f:Nat->Int) (d:Int) (i:Nat) (h:Nat->Int) (c:Int):Prop where
 lo:∀j,j<n+1->0<=h j
 hi:∀j,j<n+1->h j<1000000000
 above:∀j,i<=j->j<n+1->h j=0
 c0:0<=c
 c1:c<1000000000
 val:vf h (n+1)+c*pw i=vf f i*d
theorem ByInv.start {n:Nat} {f:Nat->Int} {d:Int}:ByInv n f d 0 (λ_=>0) 0:=
 ⟨λ_ _=>Zs,λ_ _=>Zs,λ_ _ _=>rfl,Zs,Zs,by rw[Zdk λ_ _=>rfl];simp[vf]⟩
theorem ByInv.step {n:Nat} {f:Nat->Int} {d:Int} {i:Nat} {h:Nat->Int} {c:Int} (H:ByInv n f d i h c) (hi:i<n)
  (f0:0<=f i) (f1:f i<1000000000) (g0:0<=d) (g1:d<1000000000) :
  ByInv n f d (i+1) (λj=>if j=i then(f i*d+c)%1000000000 else h j) ((f i*d+c)/1000000000):=by
 have hb:=Zgn f0 f1 g0 g1;have a3:=H.c0;have a4:=H.c1;have hv:=H.val;have hz:=H.above i (Yab _) Zo;generalize hx:f i*d+c=x;have hq:x=1000000000*(x/1000000000)+x%1000000000:=(Ycf x 1000000000).symm;refine⟨λj hj=>?_,λj hj=>?_,λj hj hjn=>?_,Zo,Zo,?_⟩
 ·show 0<=if j=i then _ else _
  split
  ·omega
  ·exact H.lo j hj
 ·show(if j=i then _ else _)<_
  split
  ·omega
  ·exact H.hi j hj
 ·show(if j=i then _ else _)=_
  rw[if_neg Zo];exact H.above j Zo hjn
 ·rw[Zc5,if_pos Zo,hz,Zaj f i,Za5]
  generalize x/1000000000=q at hq ⊢;generalize x%1000000000=r at hq ⊢;generalize vf h (n+1)=V at hv ⊢;subst hq;grind
theorem ByInv.done {n:Nat} {f:Nat->Int} {d:Int} {h:Nat->Int} {c:Int} (H:ByInv n f d n h c) :
  (∀j,j<n+1->0<=(if j=n then c else h j))∧(∀j,j<n+1->(if j=n then c else h j)<1000000000)∧vf (λj=>if j=n then c else h j) (n+1)=vf f n*d:=by
 have a3:=H.c0;have a4:=H.c1;have hv:=H.val;have hz:=H.above n (Yab _) Zo;refine⟨λj hj=>?_,λj hj=>?_,?_⟩
 ·split
  ·omega
  ·exact H.lo j hj
 ·split
  ·omega
  ·exact H.hi j hj
 ·rw[Zc5,if_pos Zo,hz];grind
structure PartInv (n:Nat) (f:Nat->Int) (d:Int) (i:Nat) (h:Nat->Int) (r:Int):Prop where
 lo:∀j,j<n->0<=h j
 hi:∀j,j<n->h j<1000000000
 below:∀j,j<i->h j=0
 r0:0<=r
 r1:r<d
 val:vf f n=vf f i+r*pw i+d*vf h n
theorem PartInv.start {n:Nat} {f:Nat->Int} {d:Int} (hd:0<d):PartInv n f d n (λ_=>0) 0:=
 ⟨λ_ _=>Zs,λ_ _=>Zs,λ_ _=>rfl,Zs,hd,by rw[Zdk (f:=λ_=>0) λ_ _=>rfl];simp⟩
theorem PartInv.step {n:Nat} {f:Nat->Int} {d:Int} {i:Nat} {h:Nat->Int} {r:Int} (H:PartInv n f d (i+1) h r) (hi:i<n)
  (f0:0<=f i) (f1:f i<1000000000) :
  PartInv n f d i (λj=>if j=i then(r*1000000000+f i)/d else h j) ((r*1000000000+f i)%d):=by
 have a3:=H.r0;have a4:=H.r1;have hv:=H.val;have hz:=H.below i Zo;have hd:0<d:=Zo;generalize hx:r*1000000000+f i=x;have hq:x=d*(x/d)+x%d:=(Ycf x d).symm;have q0:0<=x/d:=Ydq Zo Zo;have q1:x/d<1000000000:=Int.ediv_lt_of_lt_mul hd Zo;have r0:=Ycc x (show d≠0 by omega);have r1:=Ybu x hd;refine⟨λj hj=>?_,λj hj=>?_,λj hj=>?_,r0,r1,?_⟩
 ·show 0<=if j=i then _ else _
  split
  ·omega
  ·exact H.lo j hj
 ·show(if j=i then _ else _)<_
  split
  ·omega
  ·exact H.hi j hj
 ·show(if j=i then _ else _)=_
  rw[if_neg Zo];exact H.below j Zo
 ·rw[Zc5,if_pos hi,hz]
  rw[Zaj,Za5]at hv;generalize x/d=q at hq ⊢;generalize x%d=s at hq ⊢;generalize vf h n=V at hv ⊢;generalize vf f n=W at hv ⊢;grind
theorem PartInv.done {n:Nat} {f:Nat->Int} {d:Int} {h:Nat->Int} {r:Int} (H:PartInv n f d 0 h r):Digs h (trimN h n)∧vf f n=d*vf h (trimN h n)+r:=by
 have:=Zb2 (f:=h) (k:=n) H.lo H.hi;have hv:=H.val;simp[vf,pw]at hv;rw[this.2];exact⟨this.1,Zo⟩
end Go.Mono
namespace Go.Proofs.W
open Go.RowKit Go.Mono
theorem Zck (p:Option Addr) (n cap:Nat) (f:Nat->Int) (w:World) (h:SlF w (.slice p n cap) n f) :
  Calls Tryz.prog 200 #[.slice p n cap] w λe w'=>e=.returned (.slice p (trimN f n) cap)∧w=w':=by
 obtain⟨hc,hn,hx⟩:=h.opens;clear h;go_enter Tryz.func200,Tryz.ntmps200
 go_wp2
 go_loop [0] (λa=>∃k:Nat,k<=n∧a=.slice p k cap∧trimN f k=trimN f n) (λa=>match a with | .slice _ k _=>k|_=>0)
 case atStart=>exact⟨_,Yab _,rfl,rfl⟩
 case round=>
  obtain⟨k,hk,rfl,ht⟩:=hrel;have HT:=Yah ht;clear ht;by_cases h0:0<k
  ·obtain⟨b,off,rfl,hb,hcell⟩:=hx Zo
   have hc:=hcell (k-1) Zo;clear hcell hx;by_cases hz:f (k-1)=0
   ·have hz':(f (k-1)==0)=true:=by simpa using hz
    have HZ:=Yah hz;clear hz;go_wp2
    refine⟨⟨k-1,Zo,rfl,?_⟩,by simp;omega⟩;rw[<-HT.out,Zh0 f k h0 HZ.out]
   ·have hz':(f (k-1)==0)=false:=by simpa using hz
    have HZ:=Yah hz;clear hz;go_wp2
    go_ret
    exact⟨by rw[show trimN f n=k by rw[<-HT.out,Zm4 f k h0 HZ.out]];rfl,rfl⟩
  ·obtain rfl:k=0:=by omega
   go_wp2
   go_ret
   exact⟨by rw[<-HT.out];rfl,rfl⟩
end Go.Proofs.W
namespace Go.Mono
open Go.RowKit
structure Flm where
 ix:Int
 p:Int
 q:Int
deriving DecidableEq
def Flm.ok (f:Flm):Prop:=10000000<=f.ix∧f.ix<=40000000∧0<=f.p∧f.p<=1000∧1<=f.q∧f.q<=1000
instance (f:Flm):Decidable f.ok:=by unfold Flm.ok;infer_instance
def Flm.vals (f:Flm):Array Value:=#[.int .i64 f.ix,.int .i64 f.p,.int .i64 f.q]
end Go.Mono
