/- Contracts of package matrix,and a verified evaluator. Part 1 of 27. No condition beside the row. -/
import Derived.Test.YtgkmjekkefmejaaGreatDoorChecked
import Derived.WalkKit
import Derived.WalkSpells
import Derived.WalkLawsBesides
import Derived.Deep.QuietTactic
import Derived.BigQuiet
import Derived.Lib.Hide
import Derived.Deep.RegionHeld3
import Derived.Laws.CopyOwn
import Derived.Laws.AppendOwnNone
import Derived.RangeFuncNested
import Derived.RangeFuncBound
import Derived.RangeFuncCalls
import Derived.RangeFuncLeaves
import Derived.Shelf.Abstract
import Derived.Shelf.RegionOpen
import Derived.OwnWalkIn
import Derived.TacticsInMore
import Derived.LoopNIn
import Derived.LoopIn
set_option linter.unusedVariables false
set_option linter.unusedSimpArgs false
set_option maxRecDepth 100000
set_option maxHeartbeats 4000000
theorem Zo {p:Prop} (h:p:=by omega):p:=h
theorem Zd {p:Prop} (h:p:=by decide):p:=h
theorem Zs {p:Prop} (h:p:=by simp):p:=h
theorem Yaa:type_of% @Nat.le_of_ble_eq_true:=@Nat.le_of_ble_eq_true
theorem Yab:type_of% @Nat.le_refl:=@Nat.le_refl
theorem Yac:type_of% @List.getD_eq_getElem?_getD:=@List.getD_eq_getElem?_getD
theorem Yad:type_of% @Option.map_eq_some_iff:=@Option.map_eq_some_iff
theorem Yaf:type_of% @Nat.lt_of_lt_of_le:=@Nat.lt_of_lt_of_le
theorem Yai:type_of% @And.right:=@And.right
theorem Yak:type_of% @Nat.le_trans:=@Nat.le_trans
theorem Yam:type_of% @Bool.and_eq_true:=@Bool.and_eq_true
theorem Yan:type_of% @List.getElem?_eq_some_iff:=@List.getElem?_eq_some_iff
theorem Yao:type_of% @List.getElem?_eq_getElem:=@List.getElem?_eq_getElem
theorem Yap:type_of% @Int.le_of_lt:=@Int.le_of_lt
theorem Yaq:type_of% @Array.getElem?_toList:=@Array.getElem?_toList
theorem Yat:type_of% @Nat.zero_le:=@Nat.zero_le
theorem Yaw:type_of% @Int.mul_le_mul_of_nonneg_right:=@Int.mul_le_mul_of_nonneg_right
theorem Yax:type_of% @Array.getD_eq_getD_getElem?:=@Array.getD_eq_getD_getElem?
theorem Yay:type_of% @List.length_append:=@List.length_append
theorem Yaz:type_of% @Array.length_toList:=@Array.length_toList
theorem Yba:type_of% @Nat.zero_add:=@Nat.zero_add
theorem Ybb:type_of% @List.getElem?_append_left:=@List.getElem?_append_left
theorem Ybc:type_of% @List.getElem?_append_right:=@List.getElem?_append_right
theorem Ybd:type_of% @Nat.mul_le_mul_right:=@Nat.mul_le_mul_right
theorem Ybe:type_of% @Nat.eq_of_beq_eq_true:=@Nat.eq_of_beq_eq_true
theorem Ybf:type_of% @Nat.add_sub_cancel:=@Nat.add_sub_cancel
theorem Ybg:type_of% @Option.bind_eq_some_iff:=@Option.bind_eq_some_iff
theorem Ybj:type_of% @Nat.add_assoc:=@Nat.add_assoc
theorem Ybk:type_of% @Int.tdiv_eq_ediv_of_nonneg:=@Int.tdiv_eq_ediv_of_nonneg
theorem Ybl:type_of% @Nat.le_of_eq:=@Nat.le_of_eq
theorem Ybm:type_of% @List.length_cons:=@List.length_cons
theorem Ybn:type_of% @List.all_eq_true:=@List.all_eq_true
theorem Ybo:type_of% @Bool.or_eq_true:=@Bool.or_eq_true
theorem Ybp:type_of% @Option.some.injEq:=@Option.some.injEq
theorem Ybq:type_of% @Bool.false_eq_true:=@Bool.false_eq_true
theorem Ybr:type_of% @Int.tmod_eq_emod_of_nonneg:=@Int.tmod_eq_emod_of_nonneg
theorem Ybs:type_of% @List.mem_cons_of_mem:=@List.mem_cons_of_mem
theorem Ybt:type_of% @List.length_map:=@List.length_map
theorem Ybu:type_of% @Int.emod_lt_of_pos:=@Int.emod_lt_of_pos
theorem Ybv:type_of% @Nat.mul_le_mul:=@Nat.mul_le_mul
theorem Ybw:type_of% @List.getElem_mem:=@List.getElem_mem
theorem Ybx:type_of% @List.append_assoc:=@List.append_assoc
theorem Yby:type_of% @Array.getElem?_eq_getElem:=@Array.getElem?_eq_getElem
theorem Ybz:type_of% @List.map_cons:=@List.map_cons
theorem Yca:type_of% @Nat.lt_succ_self:=@Nat.lt_succ_self
theorem Ycb:type_of% @Int.toNat_natCast:=@Int.toNat_natCast
theorem Ycc:type_of% @Int.emod_nonneg:=@Int.emod_nonneg
theorem Ycd:type_of% @List.mem_singleton:=@List.mem_singleton
theorem Yce:type_of% @Nat.add_zero:=@Nat.add_zero
theorem Ycf:type_of% @Int.mul_ediv_add_emod:=@Int.mul_ediv_add_emod
theorem Ycg:type_of% @Int.mul_nonneg:=@Int.mul_nonneg
theorem Ych:type_of% @List.mem_of_getElem?:=@List.mem_of_getElem?
theorem Yci:type_of% @Nat.mul_le_mul_left:=@Nat.mul_le_mul_left
theorem Ycj:type_of% @List.getElem?_map:=@List.getElem?_map
theorem Yck:type_of% @Nat.pos_of_ne_zero:=@Nat.pos_of_ne_zero
theorem Ycl:type_of% @List.mem_cons_self:=@List.mem_cons_self
theorem Ycm:type_of% @List.take_of_length_le:=@List.take_of_length_le
theorem Ycn:type_of% @List.mem_append:=@List.mem_append
theorem Yco:type_of% @Prod.mk.injEq:=@Prod.mk.injEq
theorem Ycp:type_of% @List.mem_cons:=@List.mem_cons
theorem Ycq:type_of% @List.length_take:=@List.length_take
theorem Ycr:type_of% @Int.mul_le_mul_of_nonneg_left:=@Int.mul_le_mul_of_nonneg_left
theorem Yct:type_of% @Option.isSome_iff_exists:=@Option.isSome_iff_exists
theorem Ycu:type_of% @Nat.mul_comm:=@Nat.mul_comm
theorem Ycv:type_of% @List.getElem?_take:=@List.getElem?_take
theorem Ycw:type_of% @Int.natCast_mul:=@Int.natCast_mul
theorem Ycx:type_of% @Bool.eq_iff_iff:=@Bool.eq_iff_iff
theorem Ycy:type_of% @List.mem_append_left:=@List.mem_append_left
theorem Ycz:type_of% @Int.lt_or_le:=@Int.lt_or_le
theorem Yda:type_of% @Int.add_zero:=@Int.add_zero
theorem Ydd:type_of% @Option.none_or:=@Option.none_or
theorem Yde:type_of% @Int.natAbs_mul:=@Int.natAbs_mul
theorem Ydf:type_of% @List.length_nil:=@List.length_nil
theorem Ydg:type_of% @List.append_nil:=@List.append_nil
theorem Ydh:type_of% @Int.mul_comm:=@Int.mul_comm
theorem Ydi:type_of% @List.cons_append:=@List.cons_append
theorem Ydj:type_of% @List.length_eq_zero_iff:=@List.length_eq_zero_iff
theorem Ydk:type_of% @Option.some_or:=@Option.some_or
theorem Ydl:type_of% @List.mem_map:=@List.mem_map
theorem Ydn:type_of% @Nat.pow_add:=@Nat.pow_add
theorem Ydo:type_of% @List.range_succ:=@List.range_succ
theorem Ydp:type_of% @List.nil_append:=@List.nil_append
theorem Ydq:type_of% @Int.ediv_nonneg:=@Int.ediv_nonneg
theorem Ydr:type_of% @List.length_eq_one_iff:=@List.length_eq_one_iff
theorem Yds:type_of% @Rat.num_divInt_den:=@Rat.num_divInt_den
theorem Ydt:type_of% @Nat.sub_self:=@Nat.sub_self
theorem Ydu:type_of% @Nat.lt_or_ge:=@Nat.lt_or_ge
theorem Ydv:type_of% @List.mem_append_right:=@List.mem_append_right
theorem Ydw:type_of% @ByteArray.mk.injEq:=@ByteArray.mk.injEq
theorem Ydy:type_of% @Int.natAbs_tmod:=@Int.natAbs_tmod
theorem Ydz:type_of% @Bool.not_eq_true':=@Bool.not_eq_true'
theorem Yea:type_of% @Array.size_setIfInBounds:=@Array.size_setIfInBounds
theorem Yeb:type_of% @Nat.succ_mul:=@Nat.succ_mul
theorem Yec:type_of% @Int.zero_mul:=@Int.zero_mul
theorem Yed:type_of% @List.mem_map_of_mem:=@List.mem_map_of_mem
theorem Yee:type_of% @Array.toList_inj:=@Array.toList_inj
theorem Yef:type_of% @Int.mul_le_mul:=@Int.mul_le_mul
theorem Yeg:type_of% @Int.sign_eq_one_of_pos:=@Int.sign_eq_one_of_pos
theorem Yeh:type_of% @List.getElem?_drop:=@List.getElem?_drop
theorem Yej:type_of% @Option.some.inj:=@Option.some.inj
theorem Yek:type_of% @Int.le_refl:=@Int.le_refl
theorem Yel:type_of% @Int.add_mul:=@Int.add_mul
theorem Yen:type_of% @Int.lt_trichotomy:=@Int.lt_trichotomy
theorem Yeo:type_of% @Bool.false_or:=@Bool.false_or
theorem Yep:type_of% @Int.sign_eq_neg_one_of_neg:=@Int.sign_eq_neg_one_of_neg
theorem Yeq:type_of% @Array.getElem?_eq_some_iff:=@Array.getElem?_eq_some_iff
theorem Yer:type_of% @Array.replicate_zero:=@Array.replicate_zero
theorem Yes:type_of% @Array.replicate_succ:=@Array.replicate_succ
theorem Yeu:type_of% @List.mem_range:=@List.mem_range
theorem Yev:type_of% @List.map_toArray:=@List.map_toArray
theorem Yew:type_of% @Rat.div_def:=@Rat.div_def
theorem Yex:type_of% @List.toList_toArray:=@List.toList_toArray
theorem Yey:type_of% @List.append_toArray:=@List.append_toArray
theorem Yez:type_of% @Nat.zero_mul:=@Nat.zero_mul
theorem Yfa:type_of% @Nat.gcd_pos_of_pos_right:=@Nat.gcd_pos_of_pos_right
theorem Yfb:type_of% @Nat.add_comm:=@Nat.add_comm
theorem Yfc:type_of% @Rat.intCast_mul:=@Rat.intCast_mul
theorem Yfd:type_of% @Nat.le_mul_of_pos_right:=@Nat.le_mul_of_pos_right
theorem Yfe:type_of% @Nat.exists_eq_add_of_le:=@Nat.exists_eq_add_of_le
theorem Yff:type_of% @Nat.eq_zero_or_pos:=@Nat.eq_zero_or_pos
theorem Yfg:type_of% @Int.natAbs_tdiv:=@Int.natAbs_tdiv
theorem Yfh:type_of% @List.take_succ_eq_append_getElem:=@List.take_succ_eq_append_getElem
theorem Yfi:type_of% @List.drop_of_length_le:=@List.drop_of_length_le
theorem Yfj:type_of% @Array.getElem?_eq_none:=@Array.getElem?_eq_none
theorem Yfk:type_of% @Nat.mul_one:=@Nat.mul_one
theorem Yfl:type_of% @List.size_toArray:=@List.size_toArray
theorem Yfm:type_of% @List.push_toArray:=@List.push_toArray
theorem Yfo:type_of% @Array.ext':=@Array.ext'
theorem Yfp:type_of% @List.map_nil:=@List.map_nil
theorem Yfq:type_of% @Option.bind_some:=@Option.bind_some
theorem Yfr:type_of% @List.take_append_of_le_length:=@List.take_append_of_le_length
theorem Yfs:type_of% @List.length_drop:=@List.length_drop
theorem Yft:type_of% @List.any_eq_true:=@List.any_eq_true
theorem Yfu:type_of% @List.mem_of_mem_take:=@List.mem_of_mem_take
theorem Yfv:type_of% @Nat.mul_assoc:=@Nat.mul_assoc
theorem Yfw:type_of% @Nat.lt_irrefl:=@Nat.lt_irrefl
theorem Yfx:type_of% @Option.map_some:=@Option.map_some
theorem Yfy:type_of% @List.map_congr_left:=@List.map_congr_left
theorem Yfz:type_of% @List.getElem_of_mem:=@List.getElem_of_mem
theorem Yga:type_of% @Int.one_mul:=@Int.one_mul
theorem Ygb:type_of% @Option.ne_none_iff_exists':=@Option.ne_none_iff_exists'
theorem Ygc:type_of% @Int.lt_of_mul_lt_mul_right:=@Int.lt_of_mul_lt_mul_right
theorem Ygd:type_of% @Rat.sub_eq_add_neg:=@Rat.sub_eq_add_neg
theorem Yge:type_of% @Int.lt_or_gt_of_ne:=@Int.lt_or_gt_of_ne
theorem Ygf:type_of% @List.mem_or_eq_of_mem_set:=@List.mem_or_eq_of_mem_set
theorem Zsi {α:Type} (l:List α) (i:Nat) (a:α):l.toArray.setIfInBounds i a=(l.set i a).toArray:=List.setIfInBounds_toArray ..
theorem Zs0 {α:Type} (a b:α) (l:List α):(a::l).set 0 b=b::l:=rfl
theorem Zss {α:Type} (a b:α) (l:List α) (n:Nat):(a::l).set (n+1) b=a::l.set n b:=rfl
namespace Go.Mono
abbrev B:Int:=1000000000
def pw:Nat->Int
 | 0=>1
 | k+1=>pw k*1000000000
theorem Za4 (k:Nat):pw (k+1)=pw k*1000000000:=rfl
theorem Za7 (k:Nat):0<pw k:=by induction k with
 | zero=>decide
 | succ k ih=>rw[Za4];omega
theorem Zfv (i k:Nat):pw (i+k)=pw i*pw k:=by induction k with
 | zero=>simp[pw]
 | succ k ih=>rw[<-Ybj,Za4,ih,Za4];grind
theorem Zbp {i k:Nat} (h:i<=k):pw i<=pw k:=by
 obtain⟨d,rfl⟩:=Yfe h;rw[Zfv];have h1:=Za7 i;have h2:=Za7 d;have h3:pw i*1<=pw i*pw d:=Ycr Zo Zo;omega
def vf (f:Nat->Int):Nat->Int
 | 0=>0
 | k+1=>vf f k+f k*pw k
theorem Zah (f:Nat->Int) (k:Nat):vf f (k+1)=vf f k+f k*pw k:=rfl
theorem Zbj {f g:Nat->Int} {k:Nat} (h:∀i,i<k->f i=g i):vf f k=vf g k:=by
 induction k with
 | zero=>rfl
 | succ k ih=>rw[Zah,Zah,ih λi hi=>h i Zo,h k Zo]
theorem Zdm {f:Nat->Int} {k:Nat} (h:∀i,i<k->f i=0):vf f k=0:=by
 induction k with
 | zero=>rfl
 | succ k ih=>rw[Zah,ih λi hi=>h i Zo,h k Zo];simp
theorem Zap {f:Nat->Int} {k:Nat} (h:∀i,i<k->0<=f i):0<=vf f k:=by
 induction k with
 | zero=>exact Yek _
 | succ k ih =>
   rw[Zah];have:=ih λi hi=>h i Zo;have:=Ycg (h k Zo) (Yap (Za7 k));omega
theorem Zc3 {f:Nat->Int} {k:Nat} (h:∀i,i<k->f i<1000000000):vf f k<pw k:=by
 induction k with
 | zero=>exact Int.zero_lt_one
 | succ k ih =>
   rw[Zah,Za4];have h1:=ih λi hi=>h i Zo;have h2:=h k Zo;have h3:f k*pw k<=999999999*pw k:=Yaw Zo (Yap (Za7 k));omega
theorem Zc4 (f:Nat->Int) (i:Nat) (x:Int) (k:Nat):vf (λj=>if j=i then x else f j) k=vf f k+(if i<k then(x-f i)*pw i else 0):=by
 induction k with
 | zero=>simp[vf]
 | succ k ih =>
   rw[Zah,Zah,ih];by_cases h:i<k
   ·have h2:¬k=i:=by omega
    have h3:i<k+1:=Zo;simp only[h,h2,h3,if_true,if_false];omega
   ·by_cases h2:k=i
    ·subst h2
     have h3:k<k+1:=Zo;simp only[h,h3,if_true,if_false];grind
    ·have h3:¬i<k+1:=by omega
     simp only[h,h2,h3,if_false];omega
theorem Zci (f:Nat->Int) (i k:Nat):vf f (i+k)=vf f i+pw i*vf (λj=>f (i+j)) k:=by
 induction k with
 | zero=>simp[vf]
 | succ k ih=>rw[<-Ybj,Zah,ih,Zah,Zfv];grind
structure Digs (f:Nat->Int) (n:Nat):Prop where
 lo:∀i,i<n->0<=f i
 hi:∀i,i<n->f i<1000000000
 top:0<n->f (n-1)≠0
theorem Digs.ge {f:Nat->Int} {n:Nat} (h:Digs f n) (hn:0<n):pw (n-1)<=vf f n:=by
 obtain⟨k,rfl⟩:∃k,n=k+1:=⟨n-1,Zo⟩
 have h1:=h.top hn;have h2:=h.lo k Zo;simp only[Ybf]at h1 ⊢;rw[Zah];have h3:=Zap (f:=f) (k:=k) λi hi=>h.lo i Zo;have h4:1*pw k<=f k*pw k:=Yaw Zo (Yap (Za7 k));omega
theorem Digs.lt {f:Nat->Int} {n:Nat} (h:Digs f n):vf f n<pw n:=Zc3 h.hi
theorem Digs.nonneg {f:Nat->Int} {n:Nat} (h:Digs f n):0<=vf f n:=Zap h.lo
theorem Digs.len_le {f g:Nat->Int} {n m:Nat} (hf:Digs f n) (hg:Digs g m) (h:vf f n<=vf g m):n<=m:=by
 by_cases hn:0<n
 ·have h1:=hf.ge hn
  have h2:=hg.lt;rcases Ydu m n with h3|h3
  ·have:=Zbp (i:=m) (k:=n-1) (Zo);omega
  ·exact h3
 ·omega
theorem Digs.pos {f:Nat->Int} {n:Nat} (h:Digs f n):0<vf f n↔0<n:=by
 constructor
 ·intro hv
  rcases Yff n with rfl|h0
  ·simp[vf]at hv
  ·exact h0
 ·intro hn;have:=h.ge hn;have:=Za7 (n-1);omega
theorem Zo5 {f g:Nat->Int} {n:Nat} (hf0:∀i,i<n->0<=f i) (hf1:∀i,i<n->f i<1000000000) (hg0:∀i,i<n->0<=g i) (hg1:∀i,i<n->g i<1000000000) (h:vf f n=vf g n):∀i,i<n->f i=g i:=by
 induction n with
 | zero=>intro i hi;omega
 | succ n ih =>
   rw[Zah,Zah]at h;have a1:=Zap (f:=f) (k:=n) λi hi=>hf0 i Zo;have a2:=Zap (f:=g) (k:=n) λi hi=>hg0 i Zo;have b1:=Zc3 (f:=f) (k:=n) λi hi=>hf1 i Zo;have b2:=Zc3 (f:=g) (k:=n) λi hi=>hg1 i Zo;have e:f n=g n:=by
    rcases Yen (f n) (g n) with h1|h1|h1
    ·have:(f n+1)*pw n<=g n*pw n:=Yaw Zo (Yap (Za7 n))
     rw[Yel]at this;omega
    ·exact h1
    ·have:(g n+1)*pw n<=f n*pw n:=Yaw Zo (Yap (Za7 n))
     rw[Yel]at this;omega
   rw[e]at h;intro i hi;rcases Ydu i n with h1|h1
   ·exact ih (λi hi=>hf0 i Zo) (λi hi=>hf1 i Zo) (λi hi=>hg0 i Zo) (λi hi=>hg1 i Zo) Zo i h1
   ·obtain rfl:i=n:=by omega
    exact e
theorem Digs.unique {f g:Nat->Int} {n m:Nat} (hf:Digs f n) (hg:Digs g m) (h:vf f n=vf g m):n=m∧∀i,i<n->f i=g i:=by
 have h1:=hf.len_le hg (Int.le_of_eq h);have h2:=hg.len_le hf (Int.le_of_eq h.symm);obtain rfl:n=m:=Zo;exact⟨rfl,Zo5 hf.lo hf.hi hg.lo hg.hi h⟩
def trimN (f:Nat->Int):Nat->Nat
 | 0=>0
 | k+1=>if f k=0 then trimN f k else k+1
theorem Za3 (f:Nat->Int) (k:Nat):trimN f k<=k:=by
 induction k with
 | zero=>exact Yab _
 | succ k ih=>rw[trimN];split<;>omega
theorem Zid (f:Nat->Int) (k:Nat) (hk:0<k) (h:f (k-1)=0):trimN f k=trimN f (k-1):=by
 obtain⟨k,rfl⟩:∃j,k=j+1:=⟨k-1,Zo⟩
 simp only[Ybf]at h ⊢;rw[trimN,if_pos h]
theorem Znq (f:Nat->Int) (k:Nat) (hk:0<k) (h:¬f (k-1)=0):trimN f k=k:=by
 obtain⟨k,rfl⟩:∃j,k=j+1:=⟨k-1,Zo⟩
 simp only[Ybf]at h ⊢;rw[trimN,if_neg h]
theorem Zb5 {f:Nat->Int} {k:Nat} (h0:∀i,i<k->0<=f i) (h1:∀i,i<k->f i<1000000000):Digs f (trimN f k)∧vf f (trimN f k)=vf f k:=by
 induction k with
 | zero=>exact⟨⟨λi hi=>by simp[trimN]at hi,λi hi=>by simp[trimN]at hi,λh=>by simp[trimN]at h⟩,rfl⟩
 | succ k ih =>
   rw[trimN];split
   ·rename_i hz
    obtain⟨a,b⟩:=ih (λi hi=>h0 i Zo) (λi hi=>h1 i Zo);exact⟨a,by rw[b,Zah,hz];simp⟩
   ·rename_i hz
    exact⟨⟨h0,h1,λ_=>by simpa using hz⟩,rfl⟩
end Go.Mono
theorem Zx {p:Prop} (h:p:=by as_aux_lemma=>kernel_rfl):p:=h
theorem Zk {p:Prop} (h:p:=by kernel_rfl):p:=h
theorem Yae:type_of% @Go.RowKit.Below.refl:=@Go.RowKit.Below.refl
theorem Yag:type_of% @Go.Result.andThen_ok:=@Go.Result.andThen_ok
theorem Yah:type_of% @Go.Lib.hid:=@Go.Lib.hid
theorem Yaj:type_of% @Go.World.ownsRow_nil:=@Go.World.ownsRow_nil
theorem Yal:type_of% @Go.AllReadyH.cons:=@Go.AllReadyH.cons
theorem Yar:type_of% @Go.Sem.run_bind:=@Go.Sem.run_bind
theorem Yas:type_of% @Go.AllReadyH.nil:=@Go.AllReadyH.nil
theorem Yau:type_of% @Go.Sem.run_pure:=@Go.Sem.run_pure
theorem Yav:type_of% @Go.World.size_alloc:=@Go.World.size_alloc
theorem Ybh:type_of% @Go.DataW.trod_int:=@Go.DataW.trod_int
theorem Ybi:type_of% @Go.IntKind.wrap_i64:=@Go.IntKind.wrap_i64
theorem Ycs:type_of% @Go.ByteArray.toList_eq:=@Go.ByteArray.toList_eq
theorem Ydb:type_of% @Go.DataW.weights_mem_each:=@Go.DataW.weights_mem_each
theorem Ydc:type_of% @Go.World.drewN_drewN:=@Go.World.drewN_drewN
theorem Ydm:type_of% @Go.Value.slice.injEq:=@Go.Value.slice.injEq
theorem Ydx:type_of% @Go.RowKit.Below.heap_setCell:=@Go.RowKit.Below.heap_setCell
theorem Yei:type_of% @Go.Exit.noGoto_normal:=@Go.Exit.noGoto_normal
theorem Yem:type_of% @Go.Addr.add_mid:=@Go.Addr.add_mid
theorem Yet:type_of% @Go.World.cell?_setCell_other:=@Go.World.cell?_setCell_other
theorem Yfn:type_of% @Go.DataW.trod_struct:=@Go.DataW.trod_struct
namespace Go.Mono
open Go.RowKit
theorem Zam {w:World} {k:Nat} {o:Obj} (h:w.heap[k]? = some o):k<w.heap.size:=(Yeq.1 h).1
structure Ext (w w':World):Prop where
 size:w.heap.size<=w'.heap.size
 kept:∀(k:Nat) cs fr,w.heap[k]? = some (.cells cs 3 fr)->w'.heap[k]? = some (.cells cs 3 fr)
theorem Ext.refl (w:World):Ext w w:=⟨Yab _,λ_ _ _ h=>h⟩
theorem Ext.trans {a b c:World} (h:Ext a b) (k:Ext b c):Ext a c:=⟨Yak h.size k.size,λi cs fr hi=>k.kept i cs fr (h.kept i cs fr hi)⟩
theorem Ext.of_below {w w':World} (h:Below w.heap.size w w'):Ext w w':=⟨h.size,λk _ _ hk=>(h.block k (Zam hk)).trans hk⟩
theorem Ext.below {a w w':World} (h:Ext a w) (hb:Below w.heap.size w w'):Ext a w':=h.trans (.of_below hb)
theorem Ext.drew {a w:World} (h:Ext a w):Ext a w.drew:=⟨h.size,h.kept⟩
theorem Ext.alloc {a w:World} (h:Ext a w) (o:Obj):Ext a (w.alloc o):=h.below ((Yae _ _).alloc (Yab _) o)
def SlF (w:World) (v:Value) (n:Nat) (f:Nat->Int):Prop:=
 (v=.slice none 0 0∧n=0)∨∃b off cap cs fr,v=.slice (some ⟨b,off,none⟩) n cap∧n<=cap∧n<=140737488351232∧w.heap[b]? = some (.cells cs 3 fr)∧∀i,i<n->cs[off+i]? = some (.int .i64 (f i))
theorem SlF.ext {w w':World} {v:Value} {n:Nat} {f:Nat->Int} (h:SlF w v n f) (hx:Ext w w'):SlF w' v n f:=by
 rcases h with h|⟨b,off,cap,cs,fr,hv,hc,hc2,hh,hi⟩
 ·exact .inl h
 ·exact .inr ⟨b,off,cap,cs,fr,hv,hc,hc2,hx.kept _ _ _ hh,hi⟩
theorem SlF.open {w:World} {v:Value} {n:Nat} {f:Nat->Int} (h:SlF w v n f):∃p cap,v=.slice p n cap∧n<=cap∧n<=140737488351232∧
  (0<n->∃b off,p=some ⟨b,off,none⟩∧b<w.heap.size∧(∀i,i<n->w.cell? ⟨b,off+i,none⟩=some (.int .i64 (f i)))):=by
 rcases h with ⟨rfl,rfl⟩|⟨b,off,cap,cs,fr,rfl,hc,hc2,hh,hi⟩
 ·exact⟨none,0,rfl,Yab _,Zo,λh=>Zo⟩
 ·exact⟨_,cap,rfl,hc,Zo,λ_=>⟨b,off,rfl,Zam hh,λi hn=>by simp[World.cell?,hh,hi i hn]⟩⟩
theorem SlF.take {w:World} {p:Option Addr} {n cap:Nat} {f:Nat->Int} (h:SlF w (.slice p n cap) n f) (k:Nat) (hk:k<=n):SlF w (.slice p k cap) k f:=by
 rcases h with ⟨h,rfl⟩|⟨b,off,cap',cs,fr,hv,hc,hc2,hh,hi⟩
 ·obtain rfl:k=0:=by omega
  exact .inl ⟨h,rfl⟩
 ·simp only[Ydm]at hv
  obtain⟨rfl,_,rfl⟩:=hv;exact .inr ⟨b,off,cap,cs,fr,rfl,Zo,Zo,hh,λi hi'=>hi i Zo⟩
def Sz (m:Nat) (w:World) (v:Value) (N:Int):Prop:=∃n f,SlF w v n f∧Digs f n∧vf f n=N∧n<=m
theorem Sz.ext {m:Nat} {w w':World} {v:Value} {N:Int} (h:Sz m w v N) (hx:Ext w w'):Sz m w' v N:=by
 obtain⟨n,f,h1,h2⟩:=h;exact⟨n,f,h1.ext hx,h2⟩
theorem Sz.mono {m m':Nat} {w:World} {v:Value} {N:Int} (h:Sz m w v N) (hm:m<=m'):Sz m' w v N:=by
 obtain⟨n,f,h1,h2,h3,h4⟩:=h;exact⟨n,f,h1,h2,h3,Zo⟩
theorem Sz.nonneg {m:Nat} {w:World} {v:Value} {N:Int} (h:Sz m w v N):0<=N:=by
 obtain⟨n,f,h1,h2,rfl,h4⟩:=h;exact h2.nonneg
theorem Sz.slice {m:Nat} {w:World} {v:Value} {N:Int} (h:Sz m w v N):∃p n c,v=.slice p n c∧n<=m:=by
 obtain⟨n,f,h1,h2,rfl,h4⟩:=h;obtain⟨p,cap,rfl,_⟩:=h1.open;exact⟨p,n,cap,rfl,h4⟩
end Go.Mono
namespace Go.Mono
open Go.RowKit
theorem SlF.opens {w:World} {p:Option Addr} {n cap:Nat} {f:Nat->Int} (h:SlF w (.slice p n cap) n f):n<=cap∧n<=140737488351232∧
  (0<n->∃b off,p=some ⟨b,off,none⟩∧b<w.heap.size∧(∀i,i<n->w.cell? ⟨b,off+i,none⟩=some (.int .i64 (f i)))):=by
 obtain⟨p',cap',hv,h1,h2,h3⟩:=h.open;simp only[Ydm]at hv;obtain⟨rfl,_,rfl⟩:=hv;exact⟨h1,h2,h3⟩
end Go.Mono
namespace Go.Mono
theorem Sz.sl {m:Nat} {w:World} {p:Option Addr} {n c:Nat} {N:Int} (h:Sz m w (.slice p n c) N):∃n' f,SlF w (.slice p n c) n' f∧Digs f n'∧vf f n'=N∧n'<=m∧n'=n:=by
 obtain⟨n',f,h1,h2,h3,h4⟩:=h;obtain⟨p',cap,hv,_⟩:=h1.open;simp only[Ydm]at hv;exact⟨n',f,h1,h2,h3,h4,hv.2.1.symm⟩
end Go.Mono
namespace Go.Mono
theorem Zi4 (a b:Rat) : 
  let g:=a.den.gcd b.den
  let n:=a.num*((b.den/g:Nat):Int)+b.num*((a.den/g:Nat):Int)
  let h:=n.natAbs.gcd g
  (a+b).num=n/(h:Int)∧(a+b).den=(a.den/g)*(b.den/h):=by
 intro g n h;have e:a+b=Rat.add a b:=rfl;rw[e];unfold Rat.add;by_cases hg:a.den.gcd b.den=1
 ·have hg':g=1:=hg
  simp only[hg,dif_pos];have hh:h=1:=by show n.natAbs.gcd g=1;rw[hg'];exact Nat.gcd_one_right _
  simp only[hh,n,hg',Nat.div_one];simp
 ·simp only[hg,dif_neg,not_false_eq_true]
  unfold Rat.maybeNormalize;split
  ·rename_i h1
   have hh:h=1:=h1;simp only[hh,Nat.div_one];constructor
   ·show n=n/((1:Nat):Int)
    simp
   ·rfl
  ·have hd:h ∣ b.den:=Nat.dvd_trans (Nat.gcd_dvd_right _ _) (Nat.gcd_dvd_right _ _)
   constructor
   ·exact Int.divExact_eq_ediv (Int.ofNat_dvd_left.2 (Nat.gcd_dvd_left _ _))
   ·exact(Nat.divExact_eq_div (Nat.dvd_mul_left_of_dvd hd _)).trans (Nat.mul_div_assoc _ hd)
theorem Zeh (a b:Rat) :
  let g1:=a.num.natAbs.gcd b.den
  let g2:=b.num.natAbs.gcd a.den
  (a*b).num=(a.num/(g1:Int))*(b.num/(g2:Int))∧(a*b).den=(a.den/g2)*(b.den/g1):=by
 intro g1 g2;have e:a*b=Rat.mul a b:=rfl;rw[e];unfold Rat.mul;constructor
 ·simp only[Int.divExact_eq_ediv];rfl
 ·simp only[Nat.divExact_eq_div];rfl
theorem Zi5 (a:Rat) (h:a.num≠0):(a⁻¹).den=a.num.natAbs∧(a⁻¹).num=if a.num<0 then -(a.den:Int) else(a.den:Int):=by
 have e:a⁻¹=Rat.inv a:=rfl;rw[e];unfold Rat.inv;by_cases h1:a.num<0
 ·simp[h1]
 ·have h2:0<a.num:=by omega
  simp[h1,h2]
theorem Zei (a:Rat):(-a).num = -a.num∧(-a).den=a.den:=⟨rfl,rfl⟩
theorem Zdu {n:Int} {h:Nat} (hd:h ∣ n.natAbs):((n/(h:Int)).natAbs:Int)=(n.natAbs:Int)/(h:Int):=by
 obtain⟨k,hk⟩:=hd;rcases Yff h with rfl|h0
 ·simp
 ·have e:n=(h:Int)*k∨n=(h:Int)*(-k):=by
   rcases Int.natAbs_eq n with h1|h1
   ·left;rw[h1,hk];simp
   ·right;rw[h1,hk,Ycw,Int.mul_neg]
  have hne:(h:Int)≠0:=Zo;have e2:(n.natAbs:Int)/(h:Int)=k:=by rw[hk,Ycw,Int.mul_ediv_cancel_left _ hne]
  rw[e2];rcases e with e|e
  ·rw[e,Int.mul_ediv_cancel_left _ hne];simp
  ·rw[e,Int.mul_ediv_cancel_left _ hne];simp
theorem Zwv (a b:Rat) (n:Int) (hn:a.num*(((b.den:Int)/(a.den.gcd b.den:Nat)))+b.num*((a.den:Int)/(a.den.gcd b.den:Nat))=n) :
  (a+b).num=n/((n.natAbs.gcd (a.den.gcd b.den):Nat):Int)∧((a+b).num.natAbs:Int)=(n.natAbs:Int)/((n.natAbs.gcd (a.den.gcd b.den):Nat):Int)∧
   ((a+b).den:Int)=((a.den:Int)/(a.den.gcd b.den:Nat))*((b.den:Int)/((n.natAbs.gcd (a.den.gcd b.den):Nat):Int))∧0<((n.natAbs.gcd (a.den.gcd b.den):Nat):Int):=by
 have hg:0<a.den.gcd b.den:=Nat.gcd_pos_of_pos_left _ (Yck a.den_nz);have hh:0<n.natAbs.gcd (a.den.gcd b.den):=Yfa _ hg;have:=Zi4 a b;simp only[Int.natCast_ediv,hn]at this;obtain⟨h1,h2⟩:=this;refine⟨h1,?_,?_,Zo⟩
 ·rw[h1];exact Zdu (Nat.gcd_dvd_left _ _)
 ·rw[h2];simp
theorem Zo6 {n i:Nat} {S:Int} {h:Nat->Int} (hi:i<n) (hv:vf h (n+1)=S) (hlo:∀j,j<i->0<=h j∧h j<1000000000)
  (hmid:∀j,i<=j->j<n->0<=h j∧h j<=(if j=i then 1999999999 else 1999999998)) (hn:h n=0) (hc:1000000000<=h i) :
  let h':=λj=>if j=i+1 then h (i+1)+1 else if j=i then h i-1000000000 else h j
  vf h' (n+1)=S∧(∀j,j<i+1->0<=h' j∧h' j<1000000000)∧
  (∀j,i+1<=j->j<n->0<=h' j∧h' j<=(if j=i+1 then 1999999999 else 1999999998))∧(i+1<n->h' n=0)∧(i+1=n->0<=h' n∧h' n<1000000000):=by
 intro h';have hm:=hmid i (Yab _) hi;rw[if_pos rfl]at hm;refine⟨?_,λj hj=>?_,λj hj hjn=>?_,λhin=>?_,λhin=>?_⟩
 ·have e1:h'=λj=>if j=i+1 then h (i+1)+1 else(λj=>if j=i then h i-1000000000 else h j) j:=rfl
  rw[e1,Zc4,Zc4,hv,if_pos Zo,if_pos Zo];simp only[show ¬i+1=i by omega,if_false,Za4];grind
 ·simp only[h']
  rw[if_neg Zo];split
  ·omega
  ·exact hlo j Zo
 ·simp only[h']
  have:=hmid j Zo hjn;rw[if_neg Zo]at this;by_cases e:j=i+1
  ·subst e;rw[if_pos rfl,if_pos rfl];omega
  ·rw[if_neg e,if_neg e,if_neg Zo];exact this
 ·simp only[h']
  rw[if_neg Zo,if_neg Zo];exact hn
 ·subst hin
  simp only[h',if_true];omega
theorem Zyv (f g:Nat->Int) (k:Nat):vf (λj=>f j+g j) k=vf f k+vf g k:=by
 induction k with
 | zero=>rfl
 | succ k ih=>rw[Zah,Zah,Zah,ih];grind
theorem Zqs {f:Nat->Int} {n k:Nat} (hk:n<=k):vf (λj=>if j<n then f j else 0) k=vf f n:=by
 induction k with
 | zero => obtain rfl : n = 0 := by omega
           rfl
 | succ k ih =>
   rw[Zah];by_cases h:n<=k
   ·rw[ih h,if_neg Zo];simp
   ·obtain rfl:n=k+1:=by omega
    rw[if_pos Zo,Zah];congr 1
    exact Zbj λi hi=>by rw[if_pos Zo]
def PlusInv (n:Nat) (S:Int) (i:Nat) (h:Nat->Int):Prop:=
 vf h (n+1)=S∧(∀j,j<i->0<=h j∧h j<1000000000)∧(∀j,i<=j->j<n->0<=h j∧h j<=(if j=i then 1999999999 else 1999999998))∧(i<n->h n=0)∧(i=n->0<=h n∧h n<1000000000)
theorem PlusInv.start {n m:Nat} {f g:Nat->Int} (hmn:m<=n) (f0:∀i,i<n->0<=f i) (f1:∀i,i<n->f i<1000000000) (g0:∀i,i<m->0<=g i) (g1:∀i,i<m->g i<1000000000) :
  PlusInv n (vf f n+vf g m) 0 (λj=>(if j<n then f j else 0)+(if j<m then g j else 0)):=by
 refine⟨?_,λj hj=>Zo,λj _ hj=>?_,λh=>?_,λh=>?_⟩
 ·rw[Zyv,Zqs Zo,Zqs Zo]
 ·have a:=f0 j hj
  have b:=f1 j hj;simp only[hj,if_true];by_cases hm:j<m
  ·have c:=g0 j hm
   have d:=g1 j hm;simp only[hm,if_true];split<;>omega
  ·simp only[hm,if_false];split<;>omega
 ·simp;omega
 ·subst h;simp;omega
theorem PlusInv.carry {n i:Nat} {S:Int} {h:Nat->Int} (H:PlusInv n S i h) (hi:i<n) (hc:1000000000<=h i) :
  PlusInv n S (i+1) (λj=>if j=i+1 then h (i+1)+1 else if j=i then h i-1000000000 else h j):=by
 obtain⟨a,b,c,d,e⟩:=H;have:=Zo6 hi a b c (d hi) hc;exact this
theorem PlusInv.plain {n i:Nat} {S:Int} {h:Nat->Int} (H:PlusInv n S i h) (hi:i<n) (hc:h i<1000000000):PlusInv n S (i+1) h:=by
 obtain⟨a,b,c,d,e⟩:=H;have h0:=c i (Yab _) hi;refine⟨a,λj hj=>?_,λj hj hjn=>?_,λ_=>d hi,λhe=>by rw[d hi];omega⟩
 ·rcases Ydu j i with h|h
  ·exact b j h
  ·obtain rfl:j=i:=by omega
   omega
 ·have:=c j Zo hjn
  rw[if_neg Zo]at this;split<;>omega
theorem PlusInv.bd {n i:Nat} {S:Int} {h:Nat->Int} (H:PlusInv n S i h) (hi:i<n):0<=h i∧h i<=1999999999∧0<=h (i+1)∧h (i+1)<=1999999998:=by
 obtain⟨a,b,c,d,e⟩:=H;have h0:=c i (Yab _) hi;rw[if_pos rfl]at h0;by_cases hn:i+1<n
 ·have:=c (i+1) Zo hn
  rw[if_neg Zo]at this;omega
 ·have:=d hi
  obtain rfl:n=i+1:=Zo;omega
theorem PlusInv.done {n:Nat} {S:Int} {h:Nat->Int} (H:PlusInv n S n h):Digs h (trimN h (n+1))∧vf h (trimN h (n+1))=S:=by
 obtain⟨a,b,c,d,e⟩:=H;have:=Zb5 (f:=h) (k:=n+1) (λi hi=>by
  rcases Ydu i n with h|h
  ·exact(b i h).1
  ·obtain rfl:i=n:=by omega
   exact(e rfl).1) (λi hi=>by
  rcases Ydu i n with h|h
  ·exact(b i h).2
  ·obtain rfl:i=n:=by omega
   exact(e rfl).2)
 rw[a]at this;exact this
section
open Go.RowKit
def RowF (w:World) (g n:Nat) (f:Nat->Int):Prop:=∃cs,w.heap[g]? = some (.cells cs 3 (0,0))∧n<=cs.size∧∀i,i<n->cs[i]? = some (.int .i64 (f i))
theorem RowF.lt {w:World} {g n:Nat} {f:Nat->Int} (h:RowF w g n f):g<w.heap.size:=by obtain⟨cs,h,_⟩:=h;exact Zam h
theorem RowF.cell {w:World} {g n:Nat} {f:Nat->Int} (h:RowF w g n f) (i:Nat) (hi:i<n):w.cell? ⟨g,i,none⟩=some (.int .i64 (f i)):=by
 obtain⟨cs,h1,h2,h3⟩:=h;simp[World.cell?,h1,h3 i hi]
theorem RowF.frozen {w:World} {g n:Nat} {f:Nat->Int} (h:RowF w g n f) (i:Nat):w.frozen? ⟨g,i,none⟩=false:=by
 obtain⟨cs,h1,h2,h3⟩:=h;simp[World.frozen?,h1]
theorem RowF.set {w:World} {g n:Nat} {f:Nat->Int} (h:RowF w g n f) (i:Nat) (x:Int):RowF (w.setCell ⟨g,i,none⟩ (.int .i64 x)) g n (λj=>if j=i then x else f j):=by
 obtain⟨cs,h1,h2,h3⟩:=h;refine⟨cs.setIfInBounds i (.int .i64 x),?_,by simpa using h2,λj hj=>?_⟩
 ·show(w.heap.modify g _)[g]? = _
  simp[Array.getElem?_modify,h1]
 ·rw[Array.getElem?_setIfInBounds]
  by_cases e:i=j
  ·subst e;simp[show i<cs.size by omega]
  ·have e2:¬j=i:=λh=>e h.symm
   simp only[e2,if_false];rw[if_neg e];exact h3 j hj
theorem RowF.other {w:World} {g n:Nat} {f:Nat->Int} (h:RowF w g n f) (a:Addr) (u:Value) (hne:g≠a.block):RowF (w.setCell a u) g n f:=by
 obtain⟨cs,h1,h2⟩:=h;exact⟨cs,(Ydx w a u g hne).trans h1,h2⟩
theorem RowF.below {w w':World} {g n:Nat} {f:Nat->Int} (h:RowF w g n f) (hb:Below w.heap.size w w'):RowF w' g n f:=by
 have hl:=h.lt;obtain⟨cs,h1,h2⟩:=h;exact⟨cs,(hb.block g hl).trans h1,h2⟩
theorem RowF.drewN {w:World} {g n:Nat} {f:Nat->Int} (h:RowF w g n f) (k:Nat):RowF (w.drewN k) g n f:=h
theorem RowF.congr {w:World} {g n:Nat} {f f':Nat->Int} (h:RowF w g n f) (he:∀i,i<n->f i=f' i):RowF w g n f':=by
 obtain⟨cs,h1,h2,h3⟩:=h;exact⟨cs,h1,h2,λi hi=>by rw[h3 i hi,he i hi]⟩
theorem RowF.slice {w:World} {g n:Nat} {f:Nat->Int} (h:RowF w g n f) (hn:n<=140737488351232) (k:Nat) (hk:k<=n) (cap:Nat) (hc:k<=cap):SlF w (.slice (some ⟨g,0,none⟩) k cap) k f:=by
 obtain⟨cs,h1,h2,h3⟩:=h;exact .inr ⟨g,0,cap,cs,_,rfl,hc,Zo,h1,λi hi=>by rw[Yba];exact h3 i Zo⟩
theorem RowF.le {w:World} {g n:Nat} {f:Nat->Int} (h:RowF w g n f) (k:Nat) (hk:k<=n):RowF w g k f:=by
 obtain⟨cs,h1,h2,h3⟩:=h;exact⟨cs,h1,Zo,λi hi=>h3 i Zo⟩
def OwnF (w:World) (base:Nat) (v:Value) (n:Nat) (f:Nat->Int):Prop:=w.ownsRow base 3 1 v n ((List.range n).map λi=>.int .i64 (f i))
theorem OwnF.nil (w:World) (base:Nat) (f:Nat->Int):OwnF w base (.slice none 0 0) 0 f:=Yaj _ _ _ _
theorem OwnF.congr {w:World} {base:Nat} {v:Value} {n:Nat} {f f':Nat->Int} (h:OwnF w base v n f) (he:∀i,i<n->f i=f' i):OwnF w base v n f':=by
 unfold OwnF at h ⊢;rwa [Yfy (g:=λi=>Value.int .i64 (f' i)) (λi hi=>by rw[he i (Yeu.1 hi)])]at h
theorem OwnF.open {w:World} {base:Nat} {v:Value} {n:Nat} {f:Nat->Int} (h:OwnF w base v n f) :
  (v=.slice none 0 0∧n=0)∨∃g cap,v=.slice (some ⟨g,0,none⟩) n cap∧base<=g∧n<=cap∧RowF w g n f:=by
 obtain⟨hl,h|⟨g,cap,cur,hv,hb,hh,hn,hm,hs,ht⟩⟩:=h
 ·exact .inl h
 ·refine .inr ⟨g,cap,hv,hb,hn,cur,hh,Zo,λi hi=>?_⟩
  have e:(cur.toList.take (n*1))[i]? = ((List.range n).map λi=>Value.int .i64 (f i))[i]?:=by rw[ht]
  rw[List.getElem?_take_of_lt Zo]at e;simpa[hi]using e
theorem OwnF.sl {w:World} {base:Nat} {v:Value} {n:Nat} {f:Nat->Int} (h:OwnF w base v n f) (hn:n<=140737488351232):SlF w v n f:=by
 rcases h.open with h|⟨g,cap,rfl,_,hc,hr⟩
 ·exact .inl h
 ·exact hr.slice hn n (Yab _) cap hc
theorem OwnF.shape {w:World} {base:Nat} {v:Value} {n:Nat} {f:Nat->Int} (h:OwnF w base v n f):∃p c,v=.slice p n c:=by
 rcases h.open with ⟨rfl,rfl⟩|⟨g,cap,rfl,_⟩
 ·exact⟨_,_,rfl⟩
 ·exact⟨_,_,rfl⟩
theorem SlF.congr {w:World} {v:Value} {n:Nat} {f f':Nat->Int} (h:SlF w v n f) (he:∀i,i<n->f i=f' i):SlF w v n f':=by
 rcases h with h|⟨b,off,cap,cs,fr,h1,h2,h3,h4,h5⟩
 ·exact .inl h
 ·exact .inr ⟨b,off,cap,cs,fr,h1,h2,h3,h4,λi hi=>by rw[h5 i hi,he i hi]⟩
structure OnlyRow (r:Nat) (w w':World):Prop where
 os:w'.os=w.os
 tape:w'.tape=w.tape
 output:w'.output=w.output
 size:w'.heap.size=w.heap.size
 block:∀k,k≠r->w'.heap[k]? = w.heap[k]?
theorem OnlyRow.refl (r:Nat) (w:World):OnlyRow r w w:=⟨rfl,rfl,rfl,rfl,λ_ _=>rfl⟩
theorem OnlyRow.trans {r:Nat} {a b c:World} (h:OnlyRow r a b) (k:OnlyRow r b c):OnlyRow r a c:=⟨k.os.trans h.os,k.tape.trans h.tape,k.output.trans h.output,k.size.trans h.size,λi hi=>(k.block i hi).trans (h.block i hi)⟩
theorem OnlyRow.set {r:Nat} {a w:World} (h:OnlyRow r a w) (i:Nat) (u:Value):OnlyRow r a (w.setCell ⟨r,i,none⟩ u):=
 h.trans ⟨rfl,rfl,rfl,by show(w.heap.modify _ _).size=_;simp,λk hk=>Ydx w _ u k hk⟩
theorem OnlyRow.drewN {r:Nat} {a w:World} (h:OnlyRow r a w) (n:Nat):OnlyRow r a (w.drewN n):=⟨h.os,h.tape,h.output,h.size,h.block⟩
theorem OnlyRow.row {r:Nat} {a w:World} (h:OnlyRow r a w) {s n:Nat} {f:Nat->Int} (hs:RowF a s n f) (hne:s≠r):RowF w s n f:=by
 obtain⟨cs,h1,h2⟩:=hs;exact⟨cs,(h.block s hne).trans h1,h2⟩
theorem OnlyRow.below {r B:Nat} {w0 a w:World} (h:OnlyRow r a w) (hb:Below B w0 a) (hB:B<=r):Below B w0 w:=
 hb.trans ⟨h.os,h.tape,h.output,Ybl h.size.symm,λk hk=>h.block k Zo⟩
section
variable {P:Program} {ops:Array Oper} {rest:List Oper} {o:Oper} {a:Act} {Q:Exit->Act->World->Prop}
theorem Za1 (w:World) (hg:o.guard=none) (l c:Operand) (t:TypeId) (hop:o.op=Op.makeSlice t l c)
  (h1:P.underlying t=some (.slice 3)) (h2:(P.info? 3).map (λi=>(i.zero,i.size,i.bytes))=some (some (.int .i64 0),1,8))
  (L C:Int) (n:Nat) (hl:a.eval l=.int .i64 L) (hc:a.eval c=.int .i64 C) (hL:L=(n:Int)) (hC:C=(n:Int)) (hn:n<=17592186044416)
  (hK:∀w',RowF w' w.heap.size n (λ_=>0)->Below w.heap.size w w'->wpList P ops Q rest (a.put o.dst (.slice (some ⟨w.heap.size,0,none⟩) n n)) w') :
  wpList P ops Q (o::rest) a w:=by
 obtain⟨i,hi,hz,hs,hb⟩:=info_parts h2;refine wpList_plain hg λK hK'=>?_;subst hL hC;have hr:=run_make (P:=P) w t 3 i (.int .i64 0) h1 hi hz .i64 .i64 n n Zo (Yek _) (by rw[hb];omega) Zo;simp only[Ycb,hs]at hr;unfold Oper.wp;simp[execOp,hop,hl,hc,hr,Result.andThen];refine hK' _ _ (hK _ ⟨madeCells #[.int .i64 0] n,?_,by simp[madeCells],λj hj=>?_⟩ ((Yae _ _).alloc (Yab _) _))
 ·show(w.heap.push _)[w.heap.size]? = _
  simp[Value.cells]
 ·simp[madeCells,hj,Nat.mod_one]
theorem Zdl (w:World) (hg:o.guard=none) (d s:Operand) (dT sT:TypeId) (ho:o.op=.call {callee:=.builtin .copy,args:=#[d,s],argTypes:=#[dT,sT]})
  (hu:P.underlying dT=some (.slice 3)) (hsz:(P.info? 3).map (·.size)=some 1)
  (g N cap R:Nat) (h:Nat->Int) (p:Option Addr) (n c:Nat) (f:Nat->Int) (hd:a.eval d=.slice (some ⟨g,0,none⟩) N cap) (hs:a.eval s=.slice p n c)
  (hrow:RowF w g R h) (hsrc:SlF w (.slice p n c) n f) (hnN:n<=N) (hNR:N<=R) (B:Nat) (w0:World) (hb:Below B w0 w) (hBg:B<=g)
  (hK:∀w',RowF w' g R (λj=>if j<n then f j else h j)->Below B w0 w'->wpList P ops Q rest (a.put o.dst (goInt n)) w') :
  wpList P ops Q (o::rest) a w:=by
 obtain⟨cs,h1,h2,h3⟩:=hrow;have hlen:((List.range n).map λi=>Value.int .i64 (f i)).length=n:=Zs;refine wpList_copy_splice (w:=w) hg d s dT sT ho 3 hu hsz _ _ N cap n c hd hs g 0 cs.toList 3 (by simpa using h1) ((List.range n).map λi=>Value.int .i64 (f i)) (by rw[hlen];exact(Nat.min_eq_left hnN).symm) ?_ (by rw[hlen];simp;omega) ?_ B w0 hb hBg ?_
 ·intro hp
  rw[hlen]at hp;obtain⟨_,_,hx⟩:=hsrc.opens;obtain⟨b,off,rfl,_,hcell⟩:=hx hp;refine⟨rfl,_,rfl,λj v hj=>?_⟩;simp only[Ycj,Yad]at hj;obtain⟨i,hi,rfl⟩:=hj;obtain⟨hlt,he⟩:=Yan.1 hi;simp at hlt he;subst he;have:=hcell j hlt;by_cases h0:j=0
  ·subst h0;simpa[Addr.add]using this
  ·simpa[Addr.add,h0]using this
 ·intro v hv
  simp at hv;obtain⟨i,_,rfl⟩:=hv;rfl
 ·intro w' hw' hb'
  rw[hlen];refine hK w' ⟨_,hw'.out,?_,λj hj=>?_⟩ hb'
  ·simp[splice];omega
  ·simp only[splice,List.take_zero,Ydp,Yba,hlen]
   simp only[List.getElem?_toArray,List.getElem?_append,Ybt,List.length_range,Yeh];by_cases hjn:j<n
   ·simp[hjn]
   ·simp only[hjn,if_false]
    rw[show n+(j-n)=j by omega];simpa using h3 j hj
theorem Za9 (w:World) (hg:o.guard=none) (s x:Operand) (t:TypeId) (ho:o.op=.call {callee:=.builtin .append,args:=#[s,x],argTypes:=#[t,t]})
  (h1:P.underlying t=some (.slice 3)) (h2:(P.info? 3).map (λi=>(i.zero,i.size,i.bytes))=some (some (.int .i64 0),1,8))
  (base:Nat) (v:Value) (n:Nat) (f:Nat->Int) (hs:a.eval s=v) (hown:OwnF w base v n f)
  (p:Option Addr) (m c:Nat) (g:Nat->Int) (hx:a.eval x=.slice p m c) (hsl:SlF w (.slice p m c) m g) (hb:n+m<=17592186044416) (hbase:base<=w.heap.size)
  (hK:∀v' w',OwnF w' base v' (n+m) (λi=>if i<n then f i else g (i-n))->w.grownBy w' v.ownBlock->wpList P ops Q rest (a.put o.dst v') w') :
  wpList P ops Q (o::rest) a w:=by
 obtain⟨i,hi,hz,hs1,hb1⟩:=info_parts h2;have key:∀(k l:Nat) (f g:Nat->Int),((List.range k).map λi=>Value.int .i64 (f i))++((List.range l).map λi=>Value.int .i64 (g i))=(List.range (k+l)).map λi=>Value.int .i64 (if i<k then f i else g (i-k)):=by
  intro k l f g;rw[List.range_add,List.map_append];congr 1
  ·refine Yfy λi hi=>?_
   rw[if_pos (Yeu.1 hi)]
  ·rw[List.map_map]
   refine Yfy λi _=>?_;simp only[Function.comp];rw[if_neg Zo,show k+i-k=i by omega]
 rcases hsl with ⟨hv,rfl⟩|⟨b,off,cap,cs,fr,hv,hc,hc2,hh,hcs⟩
 ·refine wpList_append_own_none hg s x t ho base 3 i 1 h1 hi v n _ hs hown (hx.trans hv) ?_
  exact hK v w (hown.congr λi hi=>by rw[if_pos hi]) ⟨rfl,rfl,rfl,Yab _,λ_ _ _=>rfl⟩
 ·simp only[Ydm]at hv
  obtain⟨rfl,_,rfl⟩:=hv;refine wpList_append_own w hg s x t ho base 3 i (.int .i64 0) 1 8 h1 hi hz hs1 hb1 rfl Zd v n _ hs hown ⟨b,off,none⟩ m c ((List.range m).map λi=>Value.int .i64 (g i)) hx Zs ?_ ?_ (by simp[maxLen];omega) Zo hbase ?_
  ·intro j u hj
   simp only[Ycj,Yad]at hj;obtain⟨i,hi,rfl⟩:=hj;obtain⟨hlt,he⟩:=Yan.1 hi;simp at hlt he;subst he;have:w.cell? ⟨b,off+j,none⟩=some (.int .i64 (g j)):=by simp[World.cell?,hh,hcs j hlt]
   by_cases h0:j=0
   ·subst h0;simpa[Addr.add]using this
   ·simpa[Addr.add,h0]using this
  ·intro u hu
   simp at hu;obtain⟨i,_,rfl⟩:=hu;rfl
  ·intro v' w' h3 h4 _
   rw[key]at h3;exact hK v' w' h3 h4
end
end
def cmpDown (f g:Nat->Int):Nat->Int
 | 0=>0
 | k+1=>if f k=g k then cmpDown f g k else f k-g k
def cmpV (f:Nat->Int) (n:Nat) (g:Nat->Int) (m:Nat):Int:=if n=m then cmpDown f g n else(n:Int)-m
theorem Zif (f g:Nat->Int) (k:Nat) (hk:0<k) (h:f (k-1)=g (k-1)):cmpDown f g k=cmpDown f g (k-1):=by
 obtain⟨k,rfl⟩:∃j,k=j+1:=⟨k-1,Zo⟩
 simp only[Ybf]at h ⊢;rw[cmpDown,if_pos h]
theorem Zig (f g:Nat->Int) (k:Nat) (hk:0<k) (h:¬f (k-1)=g (k-1)):cmpDown f g k=f (k-1)-g (k-1):=by
 obtain⟨k,rfl⟩:∃j,k=j+1:=⟨k-1,Zo⟩
 simp only[Ybf]at h ⊢;rw[cmpDown,if_neg h]
end Go.Mono
namespace Go.Proofs.W
open Go.RowKit Go.Mono
theorem Zww (p q:Option Addr) (n m c1 c2:Nat) (f g:Nat->Int) (w:World) (h1:SlF w (.slice p n c1) n f) (h2:SlF w (.slice q m c2) m g)
  (f0:∀i,i<n->0<=f i) (f1:∀i,i<n->f i<1000000000) (g0:∀i,i<m->0<=g i) (g1:∀i,i<m->g i<1000000000) :
  Calls Tryz.prog 156 #[.slice p n c1,.slice q m c2] w λe w'=>e=.returned (.int .i64 (cmpV f n g m))∧∃k,w'=w.drewN k:=by
 obtain⟨hc1,hn1,hx1⟩:=h1.opens;obtain⟨hc2,hn2,hx2⟩:=h2.opens;clear h1 h2;by_cases hnm:n=m
 ·subst hnm
  go_enter Tryz.func156,Tryz.ntmps156
  go_wp2
  go_loopw [5] (λa wr=>∃k:Nat,k<=n∧a=.int .i64 ((k:Int)-1)∧cmpDown f g k=cmpDown f g n∧∃j,wr=w.drewN j) (λa _=>(intOf a+1).toNat)
  case atStart=>exact⟨n,Yab _,rfl,rfl,0,rfl⟩
  case round=>
   obtain⟨k,hk,rfl,ht,j,rfl⟩:=hrel;have HT:=Yah ht;clear ht;by_cases h0:0<k
   ·obtain⟨b,off,rfl,hb,hcell⟩:=hx1 Zo
    obtain⟨b2,off2,rfl,hb2,hcell2⟩:=hx2 Zo;have a1:=hcell (k-1) Zo;have a2:=hcell2 (k-1) Zo;have b1:=f0 (k-1) Zo;have b2:=f1 (k-1) Zo;have b3:=g0 (k-1) Zo;have b4:=g1 (k-1) Zo;clear hcell hcell2 hx1 hx2 f0 f1 g0 g1;obtain⟨k,rfl⟩:∃j,k=j+1:=⟨k-1,Zo⟩
    simp only[Ybf]at a1 a2 b1 b2 b3 b4;rw[show((k+1:Nat):Int)-1=(k:Int) by omega];have HE:=Zif f g (k+1) Zo;have HN:=Zig f g (k+1) Zo;simp only[Ybf]at HE HN;replace HE:=Yah HE;replace HN:=Yah HN;by_cases hfg:f k=g k
    ·have hq:(f k != g k)=false:=by simpa using hfg
     have HF:=Yah hfg;clear hfg;go_wp2
     go_quiet (fail)
     go_wp2
     go_roundw
     case rel=>exact⟨k,Zo,rfl,by rw[<-HT.out,HE.out HF.out],_,rfl⟩
     case measure=>simp[intOf]
    ·have hq:(f k != g k)=true:=by simpa using hfg
     have HF:=Yah hfg;clear hfg;go_wp2
     go_quiet (fail)
     go_wp2
     go_quiet (fail)
     go_wp2
     go_ret
     exact⟨by rw[cmpV,if_pos rfl,<-HT.out,HN.out HF.out];rfl,_,by rw[Ydc,Ydc]⟩
   ·obtain rfl:k=0:=by omega
    go_wp2
    go_ret
    exact⟨by rw[cmpV,if_pos rfl,<-HT.out];rfl,_,rfl⟩
 ·have hnm':((n:Int) != (m:Int))=true:=by simp;omega
  go_enter Tryz.func156,Tryz.ntmps156
  go_wp2
  go_ret
  refine⟨by rw[cmpV,if_neg hnm];rfl,0,rfl⟩
end Go.Proofs.W
namespace Go.Mono
theorem Zkr {f g:Nat->Int} {n:Nat} (f0:∀i,i<n->0<=f i) (f1:∀i,i<n->f i<1000000000) (g0:∀i,i<n->0<=g i) (g1:∀i,i<n->g i<1000000000) (cd:Nat->Int)
  (h0:cd 0=0) (hs:∀k,cd (k+1)=if f k=g k then cd k else f k-g k):(cd n<0↔vf f n<vf g n)∧(cd n=0↔vf f n=vf g n):=by
 induction n with
 | zero=>rw[h0];simp[vf]
 | succ n ih =>
   have h1:=ih (λi hi=>f0 i Zo) (λi hi=>f1 i Zo) (λi hi=>g0 i Zo) (λi hi=>g1 i Zo);rw[hs,Zah,Zah];by_cases e:f n=g n
   ·rw[if_pos e,e];omega
   ·rw[if_neg e]
    have a1:=Zap (f:=f) (k:=n) λi hi=>f0 i Zo;have a2:=Zap (f:=g) (k:=n) λi hi=>g0 i Zo;have b1:=Zc3 (f:=f) (k:=n) λi hi=>f1 i Zo;have b2:=Zc3 (f:=g) (k:=n) λi hi=>g1 i Zo;rcases Yge e with h|h
    ·have:(f n+1)*pw n<=g n*pw n:=Yaw Zo (Yap (Za7 n))
     rw[Yel]at this;omega
    ·have:(g n+1)*pw n<=f n*pw n:=Yaw Zo (Yap (Za7 n))
     rw[Yel]at this;omega
def MinusInv (n:Nat) (S:Int) (i:Nat) (h:Nat->Int):Prop:=
 vf h n=S∧(∀j,j<i->0<=h j∧h j<1000000000)∧(∀j,i<=j->j<n->(if j=i then -1000000000 else -999999999)<=h j∧h j<1000000000)
theorem Zyw (f g:Nat->Int) (k:Nat):vf (λj=>f j-g j) k=vf f k-vf g k:=by
 induction k with
 | zero=>rfl
 | succ k ih=>rw[Zah,Zah,Zah,ih];grind
theorem MinusInv.start {n m:Nat} {f g:Nat->Int} (hmn:m<=n) (f0:∀i,i<n->0<=f i) (f1:∀i,i<n->f i<1000000000) (g0:∀i,i<m->0<=g i) (g1:∀i,i<m->g i<1000000000) :
  MinusInv n (vf f n-vf g m) 0 (λj=>f j-(if j<m then g j else 0)):=by
 refine⟨?_,λj hj=>Zo,λj _ hj=>?_⟩
 ·rw[Zyw,Zqs Zo]
 ·have a:=f0 j hj
  have b:=f1 j hj;by_cases hm:j<m
  ·have c:=g0 j hm
   have d:=g1 j hm;simp only[hm,if_true];split<;>omega
  ·simp only[hm,if_false];split<;>omega
theorem MinusInv.last {n i:Nat} {S:Int} {h:Nat->Int} (H:MinusInv n S i h) (hS:0<=S) (hi:i<n) (hc:h i<0):i+1<n:=by
 obtain⟨a,b,c⟩:=H;rcases Ydu (i+1) n with h1|h1
 ·exact h1
 ·obtain rfl:n=i+1:=by omega
  rw[Zah]at a;have h2:=Zc3 (f:=h) (k:=i) λj hj=>(b j hj).2;have h3:h i*pw i<=(-1)*pw i:=Yaw Zo (Yap (Za7 i));omega
theorem MinusInv.bd {n i:Nat} {S:Int} {h:Nat->Int} (H:MinusInv n S i h) (hi:i<n) : -1000000000<=h i∧h i<1000000000∧(i+1<n->-999999999<=h (i+1)∧h (i+1)<1000000000):=by
 obtain⟨a,b,c⟩:=H;have h0:=c i (Yab _) hi;rw[if_pos rfl]at h0;refine⟨h0.1,h0.2,λh2=>?_⟩;have:=c (i+1) Zo h2;rwa [if_neg Zo]at this
theorem MinusInv.carry {n i:Nat} {S:Int} {h:Nat->Int} (H:MinusInv n S i h) (hi:i+1<n) (hc:h i<0) :
  MinusInv n S (i+1) (λj=>if j=i+1 then h (i+1)-1 else if j=i then h i+1000000000 else h j):=by
 have hb:=H.bd Zo;obtain⟨a,b,c⟩:=H;refine⟨?_,λj hj=>?_,λj hj hjn=>?_⟩
 ·have e1:(λj=>if j=i+1 then h (i+1)-1 else if j=i then h i+1000000000 else h j)=λj=>if j=i+1 then h (i+1)-1 else(λj=>if j=i then h i+1000000000 else h j) j:=rfl
  rw[e1,Zc4,Zc4,a,if_pos Zo,if_pos Zo];simp only[show ¬i+1=i by omega,if_false,Za4];grind
 ·show 0<=(if j=i+1 then _ else _)∧(if j=i+1 then _ else _)<_
  rw[if_neg Zo];split
  ·omega
  ·exact b j Zo
 ·show _<=(if j=i+1 then _ else _)∧(if j=i+1 then _ else _)<_
  have:=c j Zo hjn;rw[if_neg Zo]at this;by_cases e:j=i+1
  ·subst e;rw[if_pos rfl,if_pos rfl];omega
  ·rw[if_neg e,if_neg e,if_neg Zo];exact this
theorem MinusInv.plain {n i:Nat} {S:Int} {h:Nat->Int} (H:MinusInv n S i h) (hi:i<n) (hc:0<=h i):MinusInv n S (i+1) h:=by
 have hb:=H.bd hi;obtain⟨a,b,c⟩:=H;refine⟨a,λj hj=>?_,λj hj hjn=>?_⟩
 ·rcases Ydu j i with h|h
  ·exact b j h
  ·obtain rfl:j=i:=by omega
   omega
 ·have:=c j Zo hjn
  rw[if_neg Zo]at this;split<;>omega
theorem MinusInv.done {n:Nat} {S:Int} {h:Nat->Int} (H:MinusInv n S n h):Digs h (trimN h n)∧vf h (trimN h n)=S:=by
 obtain⟨a,b,c⟩:=H;have:=Zb5 (f:=h) (k:=n) (λi hi=>(b i hi).1) (λi hi=>(b i hi).2);rwa [a]at this
structure TimesInv (n m:Nat) (f g:Nat->Int) (i k:Nat) (h:Nat->Int) (c:Int):Prop where
 lo:∀j,j<n+m->0<=h j
 hi:∀j,j<n+m->h j<1000000000
 above:∀j,i+m<=j->j<n+m->h j=0
 c0:0<=c
 c1:c<1000000000
 val:vf h (n+m)+c*pw (i+k)=vf f i*vf g m+f i*pw i*vf g k
theorem Zgp {x y:Int} (x0:0<=x) (x1:x<1000000000) (y0:0<=y) (y1:y<1000000000):0<=x*y∧x*y<=999999998000000001:=by
 refine⟨Ycg x0 y0,?_⟩;have h1:x*y<=999999999*y:=Yaw Zo y0;omega
theorem TimesInv.step {n m:Nat} {f g:Nat->Int} {i k:Nat} {h:Nat->Int} {c:Int} (H:TimesInv n m f g i k h c) (hi:i<n) (hk:k<m)
  (f0:0<=f i) (f1:f i<1000000000) (g0:0<=g k) (g1:g k<1000000000) :
  TimesInv n m f g i (k+1) (λj=>if j=i+k then(h (i+k)+f i*g k+c)%1000000000 else h j) ((h (i+k)+f i*g k+c)/1000000000):=by
 have hb:=Zgp f0 f1 g0 g1;have a1:=H.lo (i+k) Zo;have a2:=H.hi (i+k) Zo;have a3:=H.c0;have a4:=H.c1;have hv:=H.val;generalize hx:h (i+k)+f i*g k+c=x;have hq:x=1000000000*(x/1000000000)+x%1000000000:=(Ycf x 1000000000).symm;refine⟨λj hj=>?_,λj hj=>?_,λj hj hjn=>?_,Zo,Zo,?_⟩
 ·show 0<=if j=i+k then _ else _
  split
  ·omega
  ·exact H.lo j hj
 ·show(if j=i+k then _ else _)<_
  split
  ·omega
  ·exact H.hi j hj
 ·show(if j=i+k then _ else _)=_
  rw[if_neg Zo];exact H.above j hj hjn
 ·rw[Zc4,if_pos Zo,Zah,<-Ybj,Za4]
  have hp:=Zfv i k;generalize x/1000000000=q at hq ⊢;generalize x%1000000000=r at hq ⊢;generalize vf h (n+m)=V at hv ⊢;generalize vf f i*vf g m=W at hv ⊢;rw[hp]at hv ⊢;subst hq;grind
theorem TimesInv.outer {n m:Nat} {f g:Nat->Int} {i:Nat} {h:Nat->Int} {c:Int} (H:TimesInv n m f g i m h c) (hi:i<n) :
  TimesInv n m f g (i+1) 0 (λj=>if j=i+m then c else h j) 0:=by
 have a3:=H.c0;have a4:=H.c1;have hv:=H.val;have hz:=H.above (i+m) (Yab _) Zo;refine⟨λj hj=>?_,λj hj=>?_,λj hj hjn=>?_,Zo,Zo,?_⟩
 ·show 0<=if j=i+m then _ else _
  split
  ·omega
  ·exact H.lo j hj
 ·show(if j=i+m then _ else _)<_
  split
  ·omega
  ·exact H.hi j hj
 ·show(if j=i+m then _ else _)=_
  rw[if_neg Zo];exact H.above j Zo hjn
 ·rw[Zc4,if_pos Zo,hz,Zah]
  simp only[vf];generalize vf h (n+m)=V at hv ⊢;grind
theorem TimesInv.start {n m:Nat} {f g:Nat->Int}:TimesInv n m f g 0 0 (λ_=>0) 0:=
 ⟨λ_ _=>Zs,λ_ _=>Zs,λ_ _ _=>rfl,Zs,Zs,by rw[Zdm λ_ _=>rfl];simp[vf]⟩
theorem TimesInv.done {n m:Nat} {f g:Nat->Int} {h:Nat->Int} (H:TimesInv n m f g n 0 h 0):Digs h (trimN h (n+m))∧vf h (trimN h (n+m))=vf f n*vf g m:=by
 have:=Zb5 (f:=h) (k:=n+m) H.lo H.hi;have hv:=H.val;simp[vf]at hv;rwa [hv]at this
structure ByInv (n:Nat) (f:Nat->Int) (d:Int) (i:Nat) (h:Nat->Int) (c:Int):Prop where
 lo:∀j,j<n+1->0<=h j
 hi:∀j,j<n+1->h j<1000000000
 above:∀j,i<=j->j<n+1->h j=0
 c0:0<=c
 c1:c<1000000000
 val:vf h (n+1)+c*pw i=vf f i*d
theorem ByInv.start {n:Nat} {f:Nat->Int} {d:Int}:ByInv n f d 0 (λ_=>0) 0:=
 ⟨λ_ _=>Zs,λ_ _=>Zs,λ_ _ _=>rfl,Zs,Zs,by rw[Zdm λ_ _=>rfl];simp[vf]⟩
theorem ByInv.step {n:Nat} {f:Nat->Int} {d:Int} {i:Nat} {h:Nat->Int} {c:Int} (H:ByInv n f d i h c) (hi:i<n)
  (f0:0<=f i) (f1:f i<1000000000) (g0:0<=d) (g1:d<1000000000) :
  ByInv n f d (i+1) (λj=>if j=i then(f i*d+c)%1000000000 else h j) ((f i*d+c)/1000000000):=by
 have hb:=Zgp f0 f1 g0 g1;have a3:=H.c0;have a4:=H.c1;have hv:=H.val;have hz:=H.above i (Yab _) Zo;generalize hx:f i*d+c=x;have hq:x=1000000000*(x/1000000000)+x%1000000000:=(Ycf x 1000000000).symm;refine⟨λj hj=>?_,λj hj=>?_,λj hj hjn=>?_,Zo,Zo,?_⟩
 ·show 0<=if j=i then _ else _
  split
  ·omega
  ·exact H.lo j hj
 ·show(if j=i then _ else _)<_
  split
  ·omega
  ·exact H.hi j hj
 ·show(if j=i then _ else _)=_
  rw[if_neg Zo];exact H.above j Zo hjn
 ·rw[Zc4,if_pos Zo,hz,Zah f i,Za4]
  generalize x/1000000000=q at hq ⊢;generalize x%1000000000=r at hq ⊢;generalize vf h (n+1)=V at hv ⊢;subst hq;grind
theorem ByInv.done {n:Nat} {f:Nat->Int} {d:Int} {h:Nat->Int} {c:Int} (H:ByInv n f d n h c) :
  (∀j,j<n+1->0<=(if j=n then c else h j))∧(∀j,j<n+1->(if j=n then c else h j)<1000000000)∧vf (λj=>if j=n then c else h j) (n+1)=vf f n*d:=by
 have a3:=H.c0;have a4:=H.c1;have hv:=H.val;have hz:=H.above n (Yab _) Zo;refine⟨λj hj=>?_,λj hj=>?_,?_⟩
 ·split
  ·omega
  ·exact H.lo j hj
 ·split
  ·omega
  ·exact H.hi j hj
 ·rw[Zc4,if_pos Zo,hz];grind
structure PartInv (n:Nat) (f:Nat->Int) (d:Int) (i:Nat) (h:Nat->Int) (r:Int):Prop where
 lo:∀j,j<n->0<=h j
 hi:∀j,j<n->h j<1000000000
 below:∀j,j<i->h j=0
 r0:0<=r
 r1:r<d
 val:vf f n=vf f i+r*pw i+d*vf h n
theorem PartInv.start {n:Nat} {f:Nat->Int} {d:Int} (hd:0<d):PartInv n f d n (λ_=>0) 0:=
 ⟨λ_ _=>Zs,λ_ _=>Zs,λ_ _=>rfl,Zs,hd,by rw[Zdm (f:=λ_=>0) λ_ _=>rfl];simp⟩
theorem PartInv.step {n:Nat} {f:Nat->Int} {d:Int} {i:Nat} {h:Nat->Int} {r:Int} (H:PartInv n f d (i+1) h r) (hi:i<n)
  (f0:0<=f i) (f1:f i<1000000000) :
  PartInv n f d i (λj=>if j=i then(r*1000000000+f i)/d else h j) ((r*1000000000+f i)%d):=by
 have a3:=H.r0;have a4:=H.r1;have hv:=H.val;have hz:=H.below i Zo;have hd:0<d:=Zo;generalize hx:r*1000000000+f i=x;have hq:x=d*(x/d)+x%d:=(Ycf x d).symm;have q0:0<=x/d:=Ydq Zo Zo;have q1:x/d<1000000000:=Int.ediv_lt_of_lt_mul hd Zo;have r0:=Ycc x (show d≠0 by omega);have r1:=Ybu x hd;refine⟨λj hj=>?_,λj hj=>?_,λj hj=>?_,r0,r1,?_⟩
 ·show 0<=if j=i then _ else _
  split
  ·omega
  ·exact H.lo j hj
 ·show(if j=i then _ else _)<_
  split
  ·omega
  ·exact H.hi j hj
 ·show(if j=i then _ else _)=_
  rw[if_neg Zo];exact H.below j Zo
 ·rw[Zc4,if_pos hi,hz]
  rw[Zah,Za4]at hv;generalize x/d=q at hq ⊢;generalize x%d=s at hq ⊢;generalize vf h n=V at hv ⊢;generalize vf f n=W at hv ⊢;grind
theorem PartInv.done {n:Nat} {f:Nat->Int} {d:Int} {h:Nat->Int} {r:Int} (H:PartInv n f d 0 h r):Digs h (trimN h n)∧vf f n=d*vf h (trimN h n)+r:=by
 have:=Zb5 (f:=h) (k:=n) H.lo H.hi;have hv:=H.val;simp[vf,pw]at hv;rw[this.2];exact⟨this.1,Zo⟩
end Go.Mono
namespace Go.Proofs.W
open Go.RowKit Go.Mono
theorem Zcj (p:Option Addr) (n cap:Nat) (f:Nat->Int) (w:World) (h:SlF w (.slice p n cap) n f) :
  Calls Tryz.prog 161 #[.slice p n cap] w λe w'=>e=.returned (.slice p (trimN f n) cap)∧w=w':=by
 obtain⟨hc,hn,hx⟩:=h.opens;clear h;go_enter Tryz.func161,Tryz.ntmps161
 go_wp2
 go_loop [0] (λa=>∃k:Nat,k<=n∧a=.slice p k cap∧trimN f k=trimN f n) (λa=>match a with | .slice _ k _=>k|_=>0)
 case atStart=>exact⟨_,Yab _,rfl,rfl⟩
 case round=>
  obtain⟨k,hk,rfl,ht⟩:=hrel;have HT:=Yah ht;clear ht;by_cases h0:0<k
  ·obtain⟨b,off,rfl,hb,hcell⟩:=hx Zo
   have hc:=hcell (k-1) Zo;clear hcell hx;by_cases hz:f (k-1)=0
   ·have hz':(f (k-1)==0)=true:=by simpa using hz
    have HZ:=Yah hz;clear hz;go_wp2
    refine⟨⟨k-1,Zo,rfl,?_⟩,by simp;omega⟩;rw[<-HT.out,Zid f k h0 HZ.out]
   ·have hz':(f (k-1)==0)=false:=by simpa using hz
    have HZ:=Yah hz;clear hz;go_wp2
    go_ret
    exact⟨by rw[show trimN f n=k by rw[<-HT.out,Znq f k h0 HZ.out]];rfl,rfl⟩
  ·obtain rfl:k=0:=by omega
   go_wp2
   go_ret
   exact⟨by rw[<-HT.out];rfl,rfl⟩
end Go.Proofs.W
namespace Go.Mono
open Go.RowKit
structure Flm where
 ix:Int
 p:Int
 q:Int
deriving DecidableEq
def Flm.ok (f:Flm):Prop:=10000000<=f.ix∧f.ix<=40000000∧0<=f.p∧f.p<=1000∧1<=f.q∧f.q<=1000
instance (f:Flm):Decidable f.ok:=by unfold Flm.ok;infer_instance
def Flm.vals (f:Flm):Array Value:=#[.int .i64 f.ix,.int .i64 f.p,.int .i64 f.q]
def xt (f:Nat->Int) (n:Nat):Nat->Int:=λi=>if i<n then f i else 0
theorem Zpx {f:Nat->Int} {n i:Nat} (h:i<n):xt f n i=f i:=if_pos h
theorem Zvh {f:Nat->Int} {n i:Nat} (h:n<=i):xt f n i=0:=if_neg Zo
theorem Zjw {f:Nat->Int} {n:Nat} (h:∀i,i<n->0<=f i) (i:Nat):0<=xt f n i:=by
 by_cases hi:i<n
 ·rw[Zpx hi];exact h i hi
 ·rw[Zvh Zo];exact Yek _
theorem Zpy {f:Nat->Int} {n:Nat} (h:∀i,i<n->f i<1000000000) (i:Nat):xt f n i<1000000000:=by
 by_cases hi:i<n
 ·rw[Zpx hi];exact h i hi
 ·rw[Zvh Zo];decide
theorem Zln {f:Nat->Int} {n i:Nat} (h:n<=i):vf (xt f n) i=vf f n:=by
 obtain⟨d,rfl⟩:=Yfe h;rw[Zci,Zbj (f:=xt f n) (g:=f) (k:=n) (λi hi=>Zpx hi),Zdm (f:=λj=>xt f n (n+j)) (λi _=>Zvh Zo)];simp
theorem Zoj (h:Nat->Int) (i:Nat) (x:Int):vf (λj=>if j=i then x else h j) (i+1)=vf h i+x*pw i:=by
 rw[Zah,Zbj (g:=h) (λj hj=>if_neg Zo),if_pos rfl]
theorem Zjx (n p:Int):n%1000000000*p+n/1000000000*(p*1000000000)=n*p:=by
 have h:n=n%1000000000+1000000000*(n/1000000000):=(Int.emod_add_mul_ediv n 1000000000).symm;generalize n%1000000000=r at *;generalize n/1000000000=q at *;subst h;grind
/-! ### sums -/
structure SumI (X Y:Nat->Int) (i:Nat) (h:Nat->Int) (c:Int):Prop where
 lo:∀j,j<i->0<=h j
 hi:∀j,j<i->h j<1000000000
 eq:vf h i+c*pw i=vf X i+vf Y i
 c0:0<=c
 c1:c<=1
theorem SumI.start (X Y h:Nat->Int):SumI X Y 0 h 0:=⟨λj hj=>Zo,λj hj=>Zo,by simp[vf],Zd,Zd⟩
theorem SumI.next {X Y h:Nat->Int} {i:Nat} {c:Int} (H:SumI X Y i h c) (x0:0<=X i) (x1:X i<1000000000) (y0:0<=Y i) (y1:Y i<1000000000) :
  SumI X Y (i+1) (λj=>if j=i then(X i+Y i+c)%1000000000 else h j) ((X i+Y i+c)/1000000000):=by
 have h1:=H.c0;have h2:=H.c1;refine⟨λj hj=>?_,λj hj=>?_,?_,Zo,Zo⟩
 ·split
  ·omega
  ·exact H.lo j Zo
 ·split
  ·omega
  ·exact H.hi j Zo
 ·rw[Zoj,Zah,Zah,Za4]
  have h3:=H.eq;have h4:=Zjx (X i+Y i+c) (pw i);grind
theorem SumI.done {f g h:Nat->Int} {n m i:Nat} (H:SumI (xt f n) (xt g m) i h 0) (hn:n<=i) (hm:m<=i):vf h i=vf f n+vf g m:=by
 have:=H.eq;rw[Zln hn,Zln hm]at this;omega
theorem SumI.len {f g h:Nat->Int} {n m i:Nat} {c:Int} (H:SumI (xt f n) (xt g m) i h c) (hf:∀i,i<n->f i<1000000000) (hg:∀i,i<m->g i<1000000000) (hn:n<=i) (hm:m<=i) (hc:0<c):i=max n m:=by
 have h1:=H.eq;have h0:=Zap H.lo;rw[Zln hn,Zln hm]at h1;have h2:=Zc3 hf;have h3:=Zc3 hg;have h4:=Zbp (show n<=max n m by omega);have h5:=Zbp (show m<=max n m by omega);have h6:1*pw i<=c*pw i:=Yaw Zo (Yap (Za7 i));by_cases hi:max n m<i
 ·have h7:=Zbp (show max n m+1<=i by omega)
  rw[Za4]at h7;have:=Za7 (max n m);omega
 ·omega
/-! ### differences -/
structure DifI (X Y:Nat->Int) (i:Nat) (h:Nat->Int) (c:Int):Prop where
 lo:∀j,j<i->0<=h j
 hi:∀j,j<i->h j<1000000000
 eq:vf h i=vf X i-vf Y i+c*pw i
 c0:0<=c
 c1:c<=1
theorem DifI.start (X Y h:Nat->Int):DifI X Y 0 h 0:=⟨λj hj=>Zo,λj hj=>Zo,by simp[vf],Zd,Zd⟩
theorem DifI.below {X Y h:Nat->Int} {i:Nat} {c:Int} (H:DifI X Y i h c) (x0:0<=X i) (y1:Y i<1000000000) (hn:X i-Y i-c<0) :
  DifI X Y (i+1) (λj=>if j=i then X i-Y i-c+1000000000 else h j) 1:=by
 have h1:=H.c0;have h2:=H.c1;refine⟨λj hj=>?_,λj hj=>?_,?_,Zd,Zd⟩
 ·split
  ·omega
  ·exact H.lo j Zo
 ·split
  ·omega
  ·exact H.hi j Zo
 ·rw[Zoj,Zah,Zah,Za4]
  have h3:=H.eq;grind
theorem DifI.above {X Y h:Nat->Int} {i:Nat} {c:Int} (H:DifI X Y i h c) (x1:X i<1000000000) (y0:0<=Y i) (hn:¬X i-Y i-c<0) :
  DifI X Y (i+1) (λj=>if j=i then X i-Y i-c else h j) 0:=by
 have h1:=H.c0;have h2:=H.c1;refine⟨λj hj=>?_,λj hj=>?_,?_,Zd,Zd⟩
 ·split
  ·omega
  ·exact H.lo j Zo
 ·split
  ·omega
  ·exact H.hi j Zo
 ·rw[Zoj,Zah,Zah,Za4]
  have h3:=H.eq;grind
theorem DifI.done {f g h:Nat->Int} {n m:Nat} {c:Int} (H:DifI f (xt g m) n h c) (hm:m<=n) (hge:vf g m<=vf f n):vf h n=vf f n-vf g m:=by
 have h1:=H.eq;rw[Zln hm]at h1;have h2:=Zc3 H.hi;have h0:=H.c0;have h4:=H.c1;rcases(by omega:c=0∨c=1) with rfl|rfl<;>omega
/-! ### products -/
theorem Zsn (d:Nat->Int) (L j:Nat) (x:Int) (hj:j<L):vf (λi=>if i=j then(x+d j)%1000000000 else d i) L+(x+d j)/1000000000*pw (j+1)=vf d L+x*pw j:=by
 rw[Zc4,if_pos hj,Za4];have:=Zjx (x+d j) (pw j);grind
theorem Zpz {d:Nat->Int} {L j:Nat} {x V:Int} (hd:∀i,i<L->0<=d i) (hV:vf d L+x*pw j=V) (hx:0<x) (hL:V<pw L):j<L:=by
 have h0:=Zap hd;have h1:1*pw j<=x*pw j:=Yaw Zo (Yap (Za7 j));by_cases h:j<L
 ·exact h
 ·have:=Zbp (show L<=j by omega)
  omega
/-! ### a multiple taken off -/
structure TakI (X Y:Nat->Int) (k:Int) (i:Nat) (h:Nat->Int) (c:Int):Prop where
 lo:∀j,j<i->0<=h j
 hi:∀j,j<i->h j<1000000000
 eq:vf h i+c*pw i=vf X i-k*vf Y i
 c0:c<=0
 c1 : -1000000000<=c
theorem TakI.start (X Y h:Nat->Int) (k:Int):TakI X Y k 0 h 0:=⟨λj hj=>Zo,λj hj=>Zo,by simp[vf],Zd,Zd⟩
theorem Zjy {y k:Int} (y0:0<=y) (y1:y<1000000000) (k0:0<=k) (k1:k<1000000000):0<=y*k∧y*k<=999999999*999999999:=by
 refine⟨Ycg y0 k0,?_⟩;have h1:y*k<=999999999*k:=Yaw Zo k0;omega
theorem TakI.next {X Y h:Nat->Int} {k:Int} {i:Nat} {c:Int} (H:TakI X Y k i h c) (x0:0<=X i) (x1:X i<1000000000) (y0:0<=Y i) (y1:Y i<1000000000) (k0:0<=k) (k1:k<1000000000) :
  TakI X Y k (i+1) (λj=>if j=i then(X i-Y i*k+c)%1000000000 else h j) ((X i-Y i*k+c)/1000000000):=by
 have h1:=H.c0;have h2:=H.c1;obtain⟨m0,m1⟩:=Zjy y0 y1 k0 k1;refine⟨λj hj=>?_,λj hj=>?_,?_,Zo,Zo⟩
 ·split
  ·omega
  ·exact H.lo j Zo
 ·split
  ·omega
  ·exact H.hi j Zo
 ·rw[Zoj,Zah,Zah,Za4]
  have h3:=H.eq;have h4:=Zjx (X i-Y i*k+c) (pw i);grind
theorem TakI.done {f g h:Nat->Int} {n m:Nat} {k c:Int} (H:TakI f (xt g m) k n h c) (hm:m<=n) (hge:k*vf g m<=vf f n):vf h n=vf f n-k*vf g m:=by
 have h1:=H.eq;rw[Zln hm]at h1;have h0:=Zap H.lo;have h2:=Zc3 H.hi;have h3:=H.c0;have hp:=Za7 n;by_cases hc:c=0
 ·subst hc;omega
 ·have h6:c*pw n<=-1*pw n:=Yaw Zo (Yap hp)
  omega
theorem Zvi {f g:Nat->Int} {n m:Nat} (hf:∀i,i<n->0<=f i) (hg:Digs g (m+1)) (hle:vf g (m+1)<=vf f n) (hn:n<=m+2) (hmn:m<n) :
  let H:=xt f n (m+1)*1000000000+f m
  let k:=H/(g m+1)
  0<=k∧k*vf g (m+1)<=vf f n:=by
 intro H k;have g0:=hg.lo m Zo;have g1:=hg.hi m Zo;have f0:=hf m hmn;have x0:=Zjw hf (m+1);have hH:0<=H:=Zo;have hk:0<=k:=Ydq hH Zo;refine⟨hk,?_⟩;have h1:k*(g m+1)<=H:=Int.ediv_mul_le _ Zo;have h2:vf g (m+1)<=(g m+1)*pw m:=by
  rw[Zah];have:=Zc3 (f:=g) (k:=m) λi hi=>hg.hi i Zo;grind
 have h3:k*vf g (m+1)<=k*((g m+1)*pw m):=Ycr h2 hk;have h4:k*(g m+1)*pw m<=H*pw m:=Yaw h1 (Yap (Za7 m));have h5:H*pw m<=vf f n:=by
  have e:vf f n=vf (xt f n) (m+2):=(Zln hn).symm;rw[e,Zah,Zah,Za4,Zpx hmn];have:=Zap (f:=xt f n) (k:=m) λi _=>Zjw hf i;have e2:H*pw m=f m*pw m+xt f n (m+1)*(pw m*1000000000):=by
   show(xt f n (m+1)*1000000000+f m)*pw m=_;grind
  omega
 rw[Int.mul_assoc]at h4;omega
theorem Zso {f g:Nat->Int} {n m:Nat} (hf:∀i,i<n->0<=f i) (hg:Digs g (m+1)) (hlt:vf f n<vf g (m+1)*1000000000) (hn:n<=m+2) (hmn:m<n) :
  (xt f n (m+1)*1000000000+f m)/(g m+1)<1000000000:=by
 have g0:=hg.lo m Zo;have g1:=hg.hi m Zo;refine Int.ediv_lt_of_lt_mul Zo ?_;have e:vf f n=vf (xt f n) (m+2):=(Zln hn).symm;rw[e,Zah,Zah,Za4,Zpx hmn]at hlt;have h0:=Zap (f:=xt f n) (k:=m) λi _=>Zjw hf i;have h2:vf g (m+1)<(g m+1)*pw m:=by
  rw[Zah];have:=Zc3 (f:=g) (k:=m) λi hi=>hg.hi i Zo;grind
 have hp:=Za7 m;have h3:(xt f n (m+1)*1000000000+f m)*pw m<((g m+1)*1000000000)*pw m:=by
  have e2:(xt f n (m+1)*1000000000+f m)*pw m=f m*pw m+xt f n (m+1)*(pw m*1000000000):=by grind
  have e3:(g m+1)*1000000000*pw m=(g m+1)*pw m*1000000000:=by grind
  omega
 have:=Ygc h3 (Yap hp);omega
theorem Zm3 (f:Nat->Int) (k:Nat):vf f (k+1)=f 0+1000000000*vf (λj=>f (j+1)) k:=by
 have:=Zci f 1 k;rw[Yfb 1 k]at this;rw[this];simp only[vf,pw,Int.zero_add,Int.mul_one,Yga];congr 2
 exact Zbj λi _=>by rw[Yfb]
def shl (x:Int) (f:Nat->Int):Nat->Int:=λj=>if j=0 then x else f (j-1)
theorem Zza (x:Int) (f:Nat->Int) (k:Nat):vf (shl x f) (k+1)=x+1000000000*vf f k:=by
 rw[Zm3];congr 2
structure ParI (f:Nat->Int) (n:Nat) (B:Int) (i:Nat) (q:Nat->Int) (R:Int):Prop where
 eq:vf (λj=>f (i+j)) (n-i)=vf (λj=>q (i+j)) (n-i)*B+R
 r0:0<=R
 r1:R<B
 lo:∀j,i<=j->j<n->0<=q j
 hi:∀j,i<=j->j<n->q j<1000000000
theorem ParI.start (f q:Nat->Int) (n:Nat) {B:Int} (hB:0<B):ParI f n B n q 0:=
 ⟨by simp[vf],Yek _,hB,λj h1 h2=>Zo,λj h1 h2=>Zo⟩
theorem ParI.next {f q:Nat->Int} {n i:Nat} {B R c R':Int} (H:ParI f n B (i+1) q R) (hi:i<n) (hc0:0<=c) (hc1:c<1000000000) (hr0:0<=R') (hr1:R'<B) (he:f i+1000000000*R=c*B+R') :
  ParI f n B i (λj=>if j=i then c else q j) R':=by
 refine⟨?_,hr0,hr1,λj h1 h2=>?_,λj h1 h2=>?_⟩
 ·obtain⟨k,hk⟩:∃k,n-i=k+1:=⟨n-i-1,Zo⟩
  have e:=H.eq;rw[show n-(i+1)=k by omega]at e;rw[hk,Zm3,Zm3];simp only[Yce,if_true];have e1:vf (λj=>f (i+(j+1))) k=vf (λj=>f (i+1+j)) k:=Zbj λj _=>by rw[show i+(j+1)=i+1+j by omega]
  have e2:vf (λj=>if i+(j+1)=i then c else q (i+(j+1))) k=vf (λj=>q (i+1+j)) k:=Zbj λj _=>by rw[if_neg Zo,show i+(j+1)=i+1+j by omega]
  rw[e1,e2,e];generalize vf (λj=>q (i+1+j)) k=Q at *;grind
 ·split
  ·exact hc0
  ·exact H.lo j Zo h2
 ·split
  ·exact hc1
  ·exact H.hi j Zo h2
theorem ParI.done {f q:Nat->Int} {n:Nat} {B R:Int} (H:ParI f n B 0 q R):vf q n=vf f n/B∧R=vf f n%B:=by
 have e:=H.eq;simp only[Nat.sub_zero,Yba]at e;have h0:=H.r0;have h1:=H.r1;have hB:0<B:=Zo;rw[e,Int.add_comm,Int.add_mul_ediv_right _ _ Zo,Int.ediv_eq_zero_of_lt h0 h1,Int.zero_add,Int.add_mul_emod_self_right,Int.emod_eq_of_lt h0 h1];exact⟨rfl,rfl⟩
theorem Zp0 (a b:Int) (hb:b≠0):((a.natAbs:Int)/b.natAbs=(a.tdiv b).natAbs)∧((a.natAbs:Int)%b.natAbs=(a.tmod b).natAbs)∧
  ((decide (a<0) != decide (b<0))&&decide (0<((a.tdiv b).natAbs:Int)))=decide (a.tdiv b<0)∧(decide (a<0)&&decide (0<((a.tmod b).natAbs:Int)))=decide (a.tmod b<0):=by
 have h1:(a.natAbs:Int)/b.natAbs=(a.tdiv b).natAbs:=by rw[Yfg];norm_cast
 have h2:(a.natAbs:Int)%b.natAbs=(a.tmod b).natAbs:=by
  have:(a.tmod b).natAbs=a.natAbs%b.natAbs:=Ydy a b;rw[this];norm_cast
 refine⟨h1,h2,?_,?_⟩
 ·by_cases h0 : a.tdiv b = 0
  ·simp[h0]
  ·have hpos:0<((a.tdiv b).natAbs:Int):=by omega
   rw[decide_eq_true hpos,Bool.and_true];rw[Ycx];simp only[bne_iff_ne,ne_eq,decide_eq_decide,decide_eq_true_eq];rcases Yen a 0 with ha|ha|ha
   ·rcases Yge hb with hb'|hb'
    ·have:=Int.tdiv_nonneg_of_nonpos_of_nonpos (Yap ha) (Yap hb')
     omega
    ·have:=Int.tdiv_nonneg (a:=-a) (b:=b) Zo (Yap hb')
     rw[Int.neg_tdiv]at this;omega
   ·subst ha;simp at h0
   ·rcases Yge hb with hb'|hb'
    ·have:=Int.tdiv_nonneg (a:=a) (b:=-b) (Yap ha) Zo
     rw[Int.tdiv_neg]at this;omega
    ·have:=Int.tdiv_nonneg (Yap ha) (Yap hb')
     omega
 ·by_cases h0 : a.tmod b = 0
  ·simp[h0]
  ·have hpos:0<((a.tmod b).natAbs:Int):=by omega
   rw[decide_eq_true hpos,Bool.and_true];rw[Ycx];simp only[decide_eq_true_eq];by_cases ha:a<0
   ·have:=Int.tmod_nonneg (a:=-a) b Zo
    rw[Int.neg_tmod]at this;omega
   ·have:=Int.tmod_nonneg (a:=a) b Zo
    omega
section
structure Box (w:World) (B:Nat) (T:TypeId) (cs:Array Value):Prop where
 blk:w.heap[B]? = some (.cells cs T (0,0))
section
variable {w w':World} {B:Nat} {T:TypeId} {cs:Array Value}
theorem Box.lt (h:Box w B T cs):B<w.heap.size:=Zam h.blk
theorem Box.cell (h:Box w B T cs):∀i,w.cell? ⟨B,i,none⟩=cs[i]?:=λi=>by simp[World.cell?,h.blk]
theorem Box.frozen (h:Box w B T cs):∀i,w.frozen? ⟨B,i,none⟩=false:=λi=>by simp[World.frozen?,h.blk]
theorem Box.below (h:Box w B T cs) (hb:Below w.heap.size w w'):Box w' B T cs:=⟨(hb.block B h.lt).trans h.blk⟩
theorem Box.drew (h:Box w B T cs):Box w.drew B T cs:=⟨h.blk⟩
theorem Box.new (w:World) (T:TypeId) (cs:Array Value):Box (w.alloc (.cells cs T)) w.heap.size T cs:=⟨by show(w.heap.push _)[w.heap.size]? = _;simp⟩
theorem Box.alloc (h:Box w B T cs) (o:Obj):Box (w.alloc o) B T cs:=h.below ((Yae _ _).alloc (Yab _) o)
theorem Box.set (h:Box w B T cs) (i:Nat) (u:Value):Box (w.setCell ⟨B,i,none⟩ u) B T (cs.setIfInBounds i u):=
 ⟨by show(w.heap.modify B _)[B]? = _;simp[Array.getElem?_modify,h.blk]⟩
theorem Box.other (h:Box w B T cs) (a:Addr) (u:Value) (hne:B≠a.block):Box (w.setCell a u) B T cs:=⟨(Ydx w a u B hne).trans h.blk⟩
theorem Ext.set {a:World} (h:Ext a w) (hb:Box w B T cs) (hT:T≠3) (i:Nat) (u:Value):Ext a (w.setCell ⟨B,i,none⟩ u):=by
 refine h.trans ⟨by show _<=(w.heap.modify _ _).size;simp,λk cs' fr hk=>?_⟩;refine(Ydx w _ u k ?_).trans hk;rintro rfl;have e:=hb.blk;rw[hk]at e;simp at e;exact hT e.2.1.symm
end
structure KeepBut (R N:Nat) (W w:World):Prop where
 os:w.os=W.os
 tape:w.tape=W.tape
 output:w.output=W.output
 size:N<=w.heap.size
 block:∀k,k<N->k≠R->w.heap[k]? = W.heap[k]?
section
variable {R N:Nat} {W w w':World}
theorem KeepBut.refl (R:Nat) (W:World):KeepBut R W.heap.size W W:=⟨rfl,rfl,rfl,Yab _,λ_ _ _=>rfl⟩
theorem KeepBut.drew (h:KeepBut R N W w):KeepBut R N W w.drew:=⟨h.os,h.tape,h.output,h.size,h.block⟩
theorem KeepBut.drewN (h:KeepBut R N W w) (k:Nat):KeepBut R N W (w.drewN k):=⟨h.os,h.tape,h.output,h.size,h.block⟩
theorem KeepBut.call (h:KeepBut R N W w) (hb:Below w.heap.size w w'):KeepBut R N W w':=
 ⟨hb.os.trans h.os,hb.tape.trans h.tape,hb.output.trans h.output,Yak h.size hb.size,λk hk hR=>(hb.block k (Yaf hk h.size)).trans (h.block k hk hR)⟩
theorem KeepBut.alloc (h:KeepBut R N W w) (o:Obj):KeepBut R N W (w.alloc o):=h.call ((Yae _ _).alloc (Yab _) o)
theorem KeepBut.set (h:KeepBut R N W w) (i:Nat) (u:Value):KeepBut R N W (w.setCell ⟨R,i,none⟩ u):=
 ⟨h.os,h.tape,h.output,by show N<=(w.heap.modify _ _).size;simpa using h.size,λk hk hR=>(Ydx w _ u k hR).trans (h.block k hk hR)⟩
theorem KeepBut.cell (h:KeepBut R N W w):∀b o,b<N->b≠R->w.cell? ⟨b,o,none⟩=W.cell? ⟨b,o,none⟩:=
 λb o hb hR=>World.cell?_of_block (a:=⟨b,o,none⟩) (h.block b hb hR)
theorem KeepBut.S (h:KeepBut R N W w):(∀b o,b<N->b≠R->w.cell? ⟨b,o,none⟩=W.cell? ⟨b,o,none⟩)∧KeepBut R N W w:=⟨h.cell,h⟩
theorem KeepBut.ext (h:KeepBut R W.heap.size W w) {T:TypeId} {cs:Array Value} (hb:Box W R T cs) (hT:T≠3):Ext W w:=by
 refine⟨h.size,λk cs' fr hk=>(h.block k (Zam hk) ?_).trans hk⟩;rintro rfl;have e:=hb.blk;rw[hk]at e;simp at e;exact hT e.2.1.symm
theorem KeepBut.below (h:KeepBut R N W w) {w0:World} (hB:Below w0.heap.size w0 W) (hR:w0.heap.size<=R) (hN:w0.heap.size<=N):Below w0.heap.size w0 w:=
 ⟨h.os.trans hB.os,h.tape.trans hB.tape,h.output.trans hB.output,Yak hN h.size,λk hk=>(h.block k Zo Zo).trans (hB.block k hk)⟩
theorem KeepBut.box (h:KeepBut R N W w) {B:Nat} {T:TypeId} {cs:Array Value} (hb:Box W B T cs) (hN:B<N) (hR:B≠R):Box w B T cs:=⟨(h.block B hN hR).trans hb.blk⟩
end
theorem Zb3 {P:Program} {c:Code} {Q:Exit->Act->World->Prop} {a:Act} {w:World} {T0:TypeId} {c0:Array Value}
  (h:∀W,Below w.heap.size w W->w.heap.size+1<=W.heap.size->Box W w.heap.size T0 c0->c.wp P Q a W):c.wp P Q a (w.alloc (.cells c0 T0)):=
 h _ ((Yae _ _).alloc (Yab _) _) Zs (Box.new _ _ _)
theorem Zej {P:Program} {c:Code} {Q:Exit->Act->World->Prop} {a:Act} {w:World} {T0 T1:TypeId} {c0 c1:Array Value}
  (h:∀W,Below w.heap.size w W->w.heap.size+2<=W.heap.size->Box W w.heap.size T0 c0->Box W (w.heap.size+1) T1 c1->c.wp P Q a W):c.wp P Q a ((w.alloc (.cells c0 T0)).alloc (.cells c1 T1)):=by
 refine h _ (((Yae _ _).alloc (Yab _) _).alloc Zs _) Zs ((Box.new _ _ _).alloc _) ?_;have:=Box.new (w.alloc (.cells c0 T0)) T1 c1;rwa [Yav]at this
theorem Zfw {P:Program} {c:Code} {Q:Exit->Act->World->Prop} {a:Act} {w:World} {T0 T1 T2:TypeId} {c0 c1 c2:Array Value}
  (h:∀W,Below w.heap.size w W->w.heap.size+3<=W.heap.size->Box W w.heap.size T0 c0->Box W (w.heap.size+1) T1 c1->Box W (w.heap.size+1+1) T2 c2->c.wp P Q a W) :
  c.wp P Q a (((w.alloc (.cells c0 T0)).alloc (.cells c1 T1)).alloc (.cells c2 T2)):=by
 have b1:=Box.new (w.alloc (.cells c0 T0)) T1 c1;have b2:=Box.new ((w.alloc (.cells c0 T0)).alloc (.cells c1 T1)) T2 c2;simp only[Yav]at b1 b2;exact h _ ((((Yae _ _).alloc (Yab _) _).alloc Zs _).alloc (by simp;omega) _) Zs (((Box.new _ _ _).alloc _).alloc _) (b1.alloc _) b2
section
variable {P:Program} {f:FuncId} {args:Array Value} {R:Ending->World->Prop} {w:World} {T0 T1 T2:TypeId} {c0 c1 c2:Array Value}
theorem Zbz (h:∀W,Below w.heap.size w W->w.heap.size+1<=W.heap.size->Box W w.heap.size T0 c0->Calls P f args W R):Calls P f args (w.alloc (.cells c0 T0)) R:=
 h _ ((Yae _ _).alloc (Yab _) _) Zs (Box.new _ _ _)
theorem Zbq (h:∀W,Below w.heap.size w W->w.heap.size+2<=W.heap.size->Box W w.heap.size T0 c0->Box W (w.heap.size+1) T1 c1->Calls P f args W R):Calls P f args ((w.alloc (.cells c0 T0)).alloc (.cells c1 T1)) R:=by
 refine h _ (((Yae _ _).alloc (Yab _) _).alloc Zs _) Zs ((Box.new _ _ _).alloc _) ?_;have:=Box.new (w.alloc (.cells c0 T0)) T1 c1;rwa [Yav]at this
theorem Zbx (h:∀W,Below w.heap.size w W->w.heap.size+3<=W.heap.size->Box W w.heap.size T0 c0->Box W (w.heap.size+1) T1 c1->Box W (w.heap.size+1+1) T2 c2->Calls P f args W R) :
  Calls P f args (((w.alloc (.cells c0 T0)).alloc (.cells c1 T1)).alloc (.cells c2 T2)) R:=by
 have b1:=Box.new (w.alloc (.cells c0 T0)) T1 c1;have b2:=Box.new ((w.alloc (.cells c0 T0)).alloc (.cells c1 T1)) T2 c2;simp only[Yav]at b1 b2;exact h _ ((((Yae _ _).alloc (Yab _) _).alloc Zs _).alloc (by simp;omega) _) Zs (((Box.new _ _ _).alloc _).alloc _) (b1.alloc _) b2
end
theorem Za2 {W w:World} (h:Below W.heap.size W w):(∀b o,b<W.heap.size->w.cell? ⟨b,o,none⟩=W.cell? ⟨b,o,none⟩)∧Below W.heap.size W w:=⟨λ_ _ hb=>h.cell hb,h⟩
theorem Zaa {w w1 w2:World} (h:Below w.heap.size w w1) (k:Below w1.heap.size w1 w2):Below w.heap.size w w2:=h.trans (k.mono h.size)
theorem Zad {w w1:World} (h:Below w.heap.size w w1) (o:Obj):Below w.heap.size w (w1.alloc o):=h.alloc h.size o
theorem Zaf {w w1:World} (h:Below w.heap.size w w1) {B:Nat} (hB:w.heap.size<=B) (i:Nat) (u:Value):Below w.heap.size w (w1.setCell ⟨B,i,none⟩ u):=h.setCell (p:=⟨B,i,none⟩) hB u
def Sg (s:Bool) (z:Int):Prop:=(s=true->z<=0)∧(s=false->0<=z)
theorem Sg.mul {s:Bool} {z y:Int} (h:Sg s z) (hy:0<=y):Sg s (z*y):=
 ⟨λe=>by have:=Yaw (h.1 e) hy;simpa using this,λe=>Ycg (h.2 e) hy⟩
theorem Zd2 {z y:Int} (hy:0<=y):((z*y).natAbs:Int)=z.natAbs*y:=by
 rw[Yde,Ycw];congr 1
 omega
theorem Sg.div {s:Bool} {z y:Int} (h:Sg s z) (hy:0<y):Sg s (z/y):=
 ⟨λe=>by have:=Int.ediv_le_ediv hy (h.1 e);simpa using this,λe=>Ydq (h.2 e) (Yap hy)⟩
end
end Go.Mono
namespace Go.Proofs.W
open Go.RowKit Go.Mono
theorem Zby:(Tryz.prog.info? 3).map (λi=>(i.zero,i.size,i.bytes))=some (some (.int .i64 0),1,8):=Zk
theorem Zqt (p q:Option Addr) (n m c1 c2:Nat) (f g:Nat->Int) (w:World) (h1:SlF w (.slice p n c1) n f) (h2:SlF w (.slice q m c2) m g)
  (f0:∀i,i<n->0<=f i) (f1:∀i,i<n->f i<1000000000) (g0:∀i,i<m->0<=g i) (g1:∀i,i<m->g i<1000000000) (hn:n<=1000000) (hm:m<=1000000) :
  Calls Tryz.prog 114 #[.slice p n c1,.slice q m c2] w λe w'=>∃b k h,e=.returned (.slice (some ⟨b,0,none⟩) k (n+m))∧SlF w' (.slice (some ⟨b,0,none⟩) k (n+m)) k h∧Digs h k∧vf h k=vf f n*vf g m∧k<=n+m∧Below w.heap.size w w':=by
 obtain⟨hc1,hn1,hx1⟩:=h1.opens;obtain⟨hc2,hn2,hx2⟩:=h2.opens;clear h1 h2;go_enter Tryz.func114,Tryz.ntmps114
 go_wp2_with (at_make;refine Za1 _ rfl _ _ 119 rfl Tryz.underlying119 Zby _ _ (n+m) rfl rfl Zs Zs Zo ?_;intro w1 r1 b1;have s1:=b1.size;have L1:=r1.lt)
 go_loopw [20] (λa wr=>∃i:Nat,i<=n∧a=.int .i64 i∧Below w.heap.size w wr∧∃h,RowF wr w.heap.size (n+m) h∧TimesInv n m f g i 0 h 0) (λa _=>n-(intOf a).toNat)
 case atStart=>exact⟨0,Yat _,rfl,b1,_,r1,TimesInv.start⟩
 case round=>
  clear b1 s1 L1 r1;obtain⟨i,hi,rfl,hb,h,hr,HT⟩:=hrel;by_cases hlt:i<n
  ·obtain⟨b,off,rfl,hbs,hcell⟩:=hx1 Zo
   have a1:=(hb.cell (p:=⟨b,off+i,none⟩) hbs).trans (hcell i hlt);have fi0:=f0 i hlt;have fi1:=f1 i hlt;clear hcell hx1;go_wp2
   go_loopw [8,27] (λc a wr=>∃k:Nat,k<=m∧a=.int .i64 k∧Below w.heap.size w wr∧∃h cc,c=.int .i64 cc∧RowF wr w.heap.size (n+m) h∧TimesInv n m f g i k h cc) (λ_ a _=>m-(intOf a).toNat)
   case atStart=>exact⟨0,Yat _,rfl,hb,_,_,rfl,hr,HT⟩
   case round=>
    clear hb hr HT a1;obtain⟨k,hk,rfl,hb,h,cc,rfl,hr,HT⟩:=hrel;by_cases hlk:k<m
    ·obtain⟨b2,off2,rfl,hbs2,hcell2⟩:=hx2 Zo
     have a1:=(hb.cell (p:=⟨b2,off2+k,none⟩) hbs2).trans (hcell2 k hlk);have gk0:=g0 k hlk;have gk1:=g1 k hlk;have a2:=hr.cell (i+k) Zo;have a3:=hr.frozen (i+k);have d1:=HT.lo (i+k) Zo;have d2:=HT.hi (i+k) Zo;have d3:=HT.c0;have d4:=HT.c1;obtain⟨d5,d6⟩:=Zgp fi0 fi1 gk0 gk1;clear hcell2 hx2 f0 f1 g0 g1;go_wp2
     go_roundw
     case rel=>exact⟨k+1,Zo,by go_num,hb.setCell (p:=⟨w.heap.size,i+k,none⟩) (Yab _) _,_,_,rfl,hr.set (i+k) _,HT.step hlt hlk fi0 fi1 gk0 gk1⟩
     case measure=>simp[intOf];omega
    ·obtain rfl:k=m:=by omega
     have d3:=HT.c0;have d4:=HT.c1;have a2:=hr.cell (i+k) Zo;have a3:=hr.frozen (i+k);clear hlk hk hx2 f0 f1 g0 g1;go_wp2
     go_roundw
     case rel=>exact⟨i+1,Zo,by go_num,hb.setCell (p:=⟨w.heap.size,i+k,none⟩) (Yab _) _,_,hr.set (i+k) _,HT.outer hlt⟩
     case measure=>simp[intOf];omega
  ·obtain rfl:i=n:=by omega
   clear hlt hi hx1 hx2;have hs:=hr.slice Zo (i+m) (Yab _) (i+m) (Yab _);obtain⟨c1',c2'⟩:=HT.done;have hle:=Za3 h (i+m);replace c2':=Yah c2';go_wp2_with (go_at_call 161;refine(Zcj _ _ _ h _ hs).mono ?_;rintro e w' ⟨rfl,rfl⟩)
   go_ret
   exact⟨_,_,h,rfl,hs.take _ hle,c1',c2'.out,hle,hb⟩
theorem Zf2 (m1 m2:Nat) (w wf:World) (hx:Ext wf w) (p q:Option Addr) (n m c1 c2:Nat) (N M:Int) (h1:Sz m1 wf (.slice p n c1) N) (h2:Sz m2 wf (.slice q m c2) M) (hm1:m1<=1000000) (hm2:m2<=1000000) :
  Calls Tryz.prog 114 #[.slice p n c1,.slice q m c2] w λe w'=>∃p k c,e=.returned (.slice p k c)∧Sz (m1+m2) w' (.slice p k c) (N*M)∧Below w.heap.size w w':=by
 obtain⟨n,f,s1,d1,rfl,l1,rfl⟩:=(h1.ext hx).sl;obtain⟨m,g,s2,d2,rfl,l2,rfl⟩:=(h2.ext hx).sl;refine(Zqt p q n m c1 c2 f g w s1 s2 d1.lo d1.hi d2.lo d2.hi Zo Zo).mono ?_;rintro e w' ⟨b,k,h,rfl,hs,hd,hv,hk,hb⟩;exact⟨_,_,_,rfl,⟨k,h,hs,hd,hv,Zo⟩,hb⟩
end Go.Proofs.W
namespace Go.Mono
section
theorem mle {a b c:Int} (h:a<=b) (hc:0<=c):a*c<=b*c:=Yaw h hc
structure Est (p vl v2 v1 ul u0 u1 u2 V U:Int):Prop where
 p0:0<p
 vl0:0<=vl
 vl1:vl<p
 v20:0<=v2
 v21:v2<1000000000
 v10:0<v1
 v11:v1<1000000000
 ul0:0<=ul
 ul1:ul<p
 u00:0<=u0
 u01:u0<1000000000
 u10:0<=u1
 u11:u1<1000000000
 u20:0<=u2
 hV:V=vl+v2*p+v1*(1000000000*p)
 hU:U=ul+u0*p+u1*(1000000000*p)+u2*(1000000000*(1000000000*p))
 lt:U<V*1000000000
section
variable {p vl v2 v1 ul u0 u1 u2 V U:Int}
theorem Est.U_lt (E:Est p vl v2 v1 ul u0 u1 u2 V U):U<((u2*1000000000+u1)*1000000000+u0+1)*p:=by
 rw[E.hU];have:=E.ul1;grind
theorem Est.U_ge (E:Est p vl v2 v1 ul u0 u1 u2 V U):((u2*1000000000+u1)*1000000000+u0)*p<=U:=by
 rw[E.hU];have:=E.ul0;grind
theorem Est.V_ge (E:Est p vl v2 v1 ul u0 u1 u2 V U):(v1*1000000000+v2)*p<=V:=by
 rw[E.hV];have:=E.vl0;grind
theorem Est.V_lt (E:Est p vl v2 v1 ul u0 u1 u2 V U):V<(v1*1000000000+v2+1)*p:=by
 rw[E.hV];have:=E.vl1;grind
theorem Est.V_pos (E:Est p vl v2 v1 ul u0 u1 u2 V U):0<V:=by
 have h1:=E.V_ge;have h2:=mle (show 1<=v1*1000000000+v2 by have:=E.v10;have:=E.v20;omega) (Yap E.p0);have:=E.p0;omega
theorem Est.u2_le (E:Est p vl v2 v1 ul u0 u1 u2 V U):u2<=v1:=by
 rcases Ycz v1 u2 with h|h
 ·have h1:=E.U_ge
  have h2:=E.V_lt;have h3:=E.lt;have h4:=mle (show(v1*1000000000+v2+1)*1000000000<=(u2*1000000000+u1)*1000000000+u0 by have:=E.v21;have:=E.u10;have:=E.u00;omega) (Yap E.p0);have h5:(v1*1000000000+v2+1)*1000000000*p=(v1*1000000000+v2+1)*p*1000000000:=by grind
  omega
 ·exact h
structure EstInv (V U v1 top d rest:Int):Prop where
 top:top=d*v1+rest
 r0:0<=rest
 d0:0<=d
 d1:d<2000000000
 big:U<(d+1)*V
theorem Est.d_lt (E:Est p vl v2 v1 ul u0 u1 u2 V U) {d rest:Int} (h:u2*1000000000+u1=d*v1+rest) (hr:0<=rest):d<2000000000:=by
 rcases Ycz d 2000000000 with h1|h1
 ·exact h1
 ·have h2:=mle h1 (Yap E.v10)
  have:=E.u2_le;have:=E.u11;have:=E.v10;omega
theorem Est.init (E:Est p vl v2 v1 ul u0 u1 u2 V U):EstInv V U v1 (u2*1000000000+u1) ((u2*1000000000+u1)/v1) ((u2*1000000000+u1)%v1):=by
 generalize ht:u2*1000000000+u1=t;have t0:0<=t:=by have:=E.u20;have:=E.u10;omega
 have h1:t=t/v1*v1+t%v1:=by rw[Ydh];exact(Ycf t v1).symm
 have h2:=Ycc t (show v1≠0 by have:=E.v10;omega);have h3:=Ybu t E.v10;have h4:0<=t/v1:=Ydq t0 (Yap E.v10);refine⟨h1,h2,h4,E.d_lt (ht.trans h1) h2,?_⟩;generalize t/v1=d at h1 h4 ⊢;generalize t%v1=r at h1 h2 h3;have a1:=E.U_lt;rw[ht]at a1;have a2:(t+1)*(1000000000*p)<=((d+1)*v1)*(1000000000*p):=mle (by grind) (by have:=E.p0;omega);have a3:(t*1000000000+u0+1)*p<=((t+1)*1000000000)*p:=mle (by have:=E.u01;omega) (Yap E.p0);have a4:(v1*(1000000000*p))*(d+1)<=V*(d+1):=mle (by have:=E.hV;have:=E.vl0;have:=mle E.v20 (Yap E.p0);omega) Zo;have a5:((t+1)*1000000000)*p=(t+1)*(1000000000*p):=by grind
 have a6:((d+1)*v1)*(1000000000*p)=(v1*(1000000000*p))*(d+1):=by grind
 have a7:V*(d+1)=(d+1)*V:=by grind
 omega
theorem Est.step (E:Est p vl v2 v1 ul u0 u1 u2 V U) {d rest:Int} (I:EstInv V U v1 (u2*1000000000+u1) d rest) (h:1000000000<=d∨rest*1000000000+u0<d*v2) :
  EstInv V U v1 (u2*1000000000+u1) (d-1) (rest+v1):=by
 have hV:=E.V_pos;have hbig:U<d*V:=by
  rcases h with h|h
  ·have:=E.lt
   have:=mle h (Yap hV);have:V*1000000000=1000000000*V:=by grind
   omega
  ·have a1:=E.U_lt
   have a2:((v1*1000000000+v2)*p)*d<=V*d:=mle E.V_ge I.d0;have a3:((u2*1000000000+u1)*1000000000+u0+1)*p<=(d*v1*1000000000+d*v2)*p:=mle (by have:=I.top;omega) (Yap E.p0);have a4:(d*v1*1000000000+d*v2)*p=((v1*1000000000+v2)*p)*d:=by grind
   have a5:V*d=d*V:=by grind
   omega
 have hd:1<=d:=by
  rcases Ycz 0 d with h1|h1
  ·omega
  ·obtain rfl:d=0:=by have:=I.d0;omega
   have:=I.r0;have:=E.u00;simp at h;omega
 refine⟨by have:=I.top;grind,by have:=I.r0;have:=E.v10;omega,Zo,by have:=I.d1;omega,?_⟩;rw[show d-1+1=d by omega];exact hbig
theorem Est.done (E:Est p vl v2 v1 ul u0 u1 u2 V U) {d rest:Int} (I:EstInv V U v1 (u2*1000000000+u1) d rest) (h1:d<1000000000) (h2:d*v2<=rest*1000000000+u0):d*V<U+V:=by
 have a1:=E.U_ge;have a2:V*d<=((v1*1000000000+v2+1)*p)*d:=mle (Yap E.V_lt) I.d0;have a3:(d*v1*1000000000+d*v2)*p<=((u2*1000000000+u1)*1000000000+u0)*p:=mle (by have:=I.top;omega) (Yap E.p0);have a4:((v1*1000000000+v2+1)*p)*d=(d*v1*1000000000+d*v2)*p+d*p:=by grind
 have a5:d*p<=999999999*p:=mle Zo (Yap E.p0);have a6:(1000000000*1)*p<=(v1*1000000000+v2)*p:=mle (by have:=E.v10;have:=E.v20;omega) (Yap E.p0);have a7:=E.V_ge;have a8:V*d=d*V:=by grind
 have:=E.p0;omega
theorem Est.brk (E:Est p vl v2 v1 ul u0 u1 u2 V U) {d rest:Int} (I:EstInv V U v1 (u2*1000000000+u1) d rest) (h:1000000000<=rest):d<1000000000∧d*v2<=rest*1000000000+u0:=by
 have hd:d<1000000000:=by
  rcases Ycz d 1000000000 with h1|h1
  ·exact h1
  ·have:=mle h1 (Yap E.v10)
   have:=E.u2_le;have:=E.u11;have:=I.top;omega
 have:=Zgp I.d0 hd E.v20 E.v21;have:=E.u00;exact⟨hd,Zo⟩
end
theorem Est.mk' {m:Nat} {g u:Nat->Int} (g0:∀i,i<m+2->0<=g i) (g1:∀i,i<m+2->g i<1000000000) (u0:∀i,i<m+3->0<=u i) (u1:∀i,i<m+3->u i<1000000000)
  (htop:g (m+1)≠0) (hlt:vf u (m+3)<vf g (m+2)*1000000000) :
  Est (pw m) (vf g m) (g m) (g (m+1)) (vf u m) (u m) (u (m+1)) (u (m+2)) (vf g (m+2)) (vf u (m+3)):=by
 have h1:=g0 (m+1) Zo;exact⟨Za7 m,Zap λi hi=>g0 i Zo,Zc3 λi hi=>g1 i Zo,g0 m Zo,g1 m Zo,Zo,g1 _ Zo,Zap λi hi=>u0 i Zo,Zc3 λi hi=>u1 i Zo,
  u0 _ Zo,u1 _ Zo,u0 _ Zo,u1 _ Zo,u0 _ Zo,by simp only[Zah,Za4];grind,by simp only[Zah,Za4];grind,hlt⟩
end
end Go.Mono
namespace Go.Proofs.W
open Go.RowKit Go.Mono
theorem Zns:(Tryz.prog.info? 3).map (λi=>(i.zero,i.size,i.bytes))=some (some (.int .i64 0),1,8):=Zk
theorem Znt:(Tryz.prog.info? 3).map (·.size)=some 1:=Zk
theorem Zwx (p q:Option Addr) (n m c1 c2:Nat) (f g:Nat->Int) (w:World) (h1:SlF w (.slice p n c1) n f) (h2:SlF w (.slice q m c2) m g)
  (f0:∀i,i<n->0<=f i) (f1:∀i,i<n->f i<1000000000) (g0:∀i,i<m->0<=g i) (g1:∀i,i<m->g i<1000000000) (hmn:m<=n) (hn:n<=1000000) :
  Calls Tryz.prog 163 #[.slice p n c1,.slice q m c2] w λe w'=>∃b k h,e=.returned (.slice (some ⟨b,0,none⟩) k (n+1))∧SlF w' (.slice (some ⟨b,0,none⟩) k (n+1)) k h∧Digs h k∧vf h k=vf f n+vf g m∧k<=n+1∧Below w.heap.size w w':=by
 obtain⟨hc1,hn1,hx1⟩:=h1.opens;obtain⟨hc2,hn2,hx2⟩:=h2.opens;go_enter Tryz.func163,Tryz.ntmps163
 go_wp2_with (first
  | (at_make;refine Za1 _ rfl _ _ 119 rfl Tryz.underlying119 Zns _ _ (n+1) rfl rfl Zs Zs Zo ?_;intro w1 r1 b1;have s1:=b1.size;have L1:=r1.lt)
  | (with_reducible refine Zdl _ rfl (.tmp 20) (.tmp 21) 119 119 rfl Tryz.underlying119 Znt w.heap.size (n+1) _ (n+1) _ _ n c1 f rfl rfl r1 (h1.ext (.of_below b1)) Zo Zo w.heap.size w b1 (Yab _) ?_;intro w2 r2 b2))
 clear h1 h2 hx1;go_loopw [25] (λa wr=>∃k:Nat,k<=m∧a=.int .i64 k∧Below w.heap.size w wr∧RowF wr w.heap.size (n+1) (λj=>(if j<n then f j else 0)+(if j<k then g j else 0))) (λa _=>m-(intOf a).toNat)
 case atStart=>exact⟨0,Yat _,rfl,b2,r2.congr λi _=>Zs⟩
 case round=>
  obtain⟨k,hk,rfl,hb,hr⟩:=hrel;by_cases hlt:k<m
  ·obtain⟨b,off,rfl,hbs,hcell⟩:=hx2 Zo
   have a1:=(hb.cell (p:=⟨b,off+k,none⟩) hbs).trans (hcell k hlt);have a2:=hr.cell k Zo;rw[if_pos Zo,if_neg Zo,Yda]at a2;have a3:=hr.frozen k;have d1:=f0 k Zo;have d2:=f1 k Zo;have d3:=g0 k hlt;have d4:=g1 k hlt;clear hcell hx2 f0 f1 g0 g1;go_wp2
   go_roundw
   case rel=>
    refine⟨k+1,Zo,by go_num,hb.setCell (p:=⟨w.heap.size,k,none⟩) (Yab _) _,(hr.set k _).congr λi hi=>?_⟩;by_cases e:i=k
    ·subst e;simp;omega
    ·rw[if_neg e];simp only[show i<k+1↔i<k by omega]
   case measure=>simp[intOf];omega
  ·obtain rfl:k=m:=by omega
   clear hlt hk hx2;go_wp2
   have HP:PlusInv n (vf f n+vf g k) 0 (λj=>(if j<n then f j else 0)+(if j<k then g j else 0)):=PlusInv.start hmn f0 f1 g0 g1;clear f0 f1 g0 g1;go_loopw [40] (λa wr=>∃i:Nat,i<=n∧a=.int .i64 i∧Below w.heap.size w wr∧∃h,RowF wr w.heap.size (n+1) h∧PlusInv n (vf f n+vf g k) i h) (λa _=>n-(intOf a).toNat)
   case atStart=>exact⟨0,Yat _,rfl,hb,_,hr,HP⟩
   case round=>
    clear hb hr HP;obtain⟨i,hi,rfl,hb,h,hr,HP⟩:=hrel;by_cases hlt:i<n
    ·obtain⟨q1,q2,q3,q4⟩:=HP.bd hlt
     have a2:=hr.cell i Zo;have a3:=hr.frozen i;have a4:=hr.cell (i+1) Zo;have a5:=hr.frozen (i+1);by_cases hge:1000000000<=h i
     ·have r1:=hr.set i (h i-1000000000)
      have a6:=r1.cell (i+1) Zo;have a7:=r1.frozen (i+1);simp only[show ¬i+1=i by omega,if_false]at a6;go_wp2
      go_roundw
      case rel=>exact⟨i+1,Zo,by go_num,(hb.setCell (p:=⟨w.heap.size,i,none⟩) (Yab _) _).setCell (p:=⟨w.heap.size,i+1,none⟩) (Yab _) _,_,r1.set (i+1) (h (i+1)+1),HP.carry hlt hge⟩
      case measure=>simp[intOf];omega
     ·have hge':h i<1000000000:=by omega
      go_wp2
      go_roundw
      case rel=>exact⟨i+1,Zo,by go_num,hb,_,hr,HP.plain hlt hge'⟩
      case measure=>simp[intOf];omega
    ·obtain rfl:i=n:=by omega
     clear hlt hi;have hs:=hr.slice Zo (i+1) (Yab _) (i+1) (Yab _);obtain⟨c1',c2'⟩:=HP.done;have hle:=Za3 h (i+1);replace c2':=Yah c2';go_wp2_with (go_at_call 161;refine(Zcj _ _ _ h _ hs).mono ?_;rintro e w' ⟨rfl,rfl⟩)
     go_ret
     exact⟨_,_,h,rfl,hs.take _ hle,c1',c2'.out,hle,hb⟩
theorem Zwy (p q:Option Addr) (n m c1 c2:Nat) (f g:Nat->Int) (w:World) (h1:SlF w (.slice p n c1) n f) (h2:SlF w (.slice q m c2) m g)
  (f0:∀i,i<n->0<=f i) (f1:∀i,i<n->f i<1000000000) (g0:∀i,i<m->0<=g i) (g1:∀i,i<m->g i<1000000000) (hlt':m<n) (hn:n<=1000000) :
  Calls Tryz.prog 163 #[.slice q m c2,.slice p n c1] w λe w'=>∃b k h,e=.returned (.slice (some ⟨b,0,none⟩) k (n+1))∧SlF w' (.slice (some ⟨b,0,none⟩) k (n+1)) k h∧Digs h k∧vf h k=vf f n+vf g m∧k<=n+1∧Below w.heap.size w w':=by
 have hmn:m<=n:=Zo;obtain⟨hc1,hn1,hx1⟩:=h1.opens;obtain⟨hc2,hn2,hx2⟩:=h2.opens;go_enter Tryz.func163,Tryz.ntmps163
 go_wp2_with (first
  | (at_make;refine Za1 _ rfl _ _ 119 rfl Tryz.underlying119 Zns _ _ (n+1) rfl rfl Zs Zs Zo ?_;intro w1 r1 b1;have s1:=b1.size;have L1:=r1.lt)
  | (with_reducible refine Zdl _ rfl (.tmp 20) (.tmp 21) 119 119 rfl Tryz.underlying119 Znt w.heap.size (n+1) _ (n+1) _ _ n c1 f rfl rfl r1 (h1.ext (.of_below b1)) Zo Zo w.heap.size w b1 (Yab _) ?_;intro w2 r2 b2))
 clear h1 h2 hx1;go_loopw [25] (λa wr=>∃k:Nat,k<=m∧a=.int .i64 k∧Below w.heap.size w wr∧RowF wr w.heap.size (n+1) (λj=>(if j<n then f j else 0)+(if j<k then g j else 0))) (λa _=>m-(intOf a).toNat)
 case atStart=>exact⟨0,Yat _,rfl,b2,r2.congr λi _=>Zs⟩
 case round=>
  obtain⟨k,hk,rfl,hb,hr⟩:=hrel;by_cases hlt:k<m
  ·obtain⟨b,off,rfl,hbs,hcell⟩:=hx2 Zo
   have a1:=(hb.cell (p:=⟨b,off+k,none⟩) hbs).trans (hcell k hlt);have a2:=hr.cell k Zo;rw[if_pos Zo,if_neg Zo,Yda]at a2;have a3:=hr.frozen k;have d1:=f0 k Zo;have d2:=f1 k Zo;have d3:=g0 k hlt;have d4:=g1 k hlt;clear hcell hx2 f0 f1 g0 g1;go_wp2
   go_roundw
   case rel=>
    refine⟨k+1,Zo,by go_num,hb.setCell (p:=⟨w.heap.size,k,none⟩) (Yab _) _,(hr.set k _).congr λi hi=>?_⟩;by_cases e:i=k
    ·subst e;simp;omega
    ·rw[if_neg e];simp only[show i<k+1↔i<k by omega]
   case measure=>simp[intOf];omega
  ·obtain rfl:k=m:=by omega
   clear hlt hk hx2;go_wp2
   have HP:PlusInv n (vf f n+vf g k) 0 (λj=>(if j<n then f j else 0)+(if j<k then g j else 0)):=PlusInv.start hmn f0 f1 g0 g1;clear f0 f1 g0 g1;go_loopw [40] (λa wr=>∃i:Nat,i<=n∧a=.int .i64 i∧Below w.heap.size w wr∧∃h,RowF wr w.heap.size (n+1) h∧PlusInv n (vf f n+vf g k) i h) (λa _=>n-(intOf a).toNat)
   case atStart=>exact⟨0,Yat _,rfl,hb,_,hr,HP⟩
   case round=>
    clear hb hr HP;obtain⟨i,hi,rfl,hb,h,hr,HP⟩:=hrel;by_cases hlt:i<n
    ·obtain⟨q1,q2,q3,q4⟩:=HP.bd hlt
     have a2:=hr.cell i Zo;have a3:=hr.frozen i;have a4:=hr.cell (i+1) Zo;have a5:=hr.frozen (i+1);by_cases hge:1000000000<=h i
     ·have r1:=hr.set i (h i-1000000000)
      have a6:=r1.cell (i+1) Zo;have a7:=r1.frozen (i+1);simp only[show ¬i+1=i by omega,if_false]at a6;go_wp2
      go_roundw
      case rel=>exact⟨i+1,Zo,by go_num,(hb.setCell (p:=⟨w.heap.size,i,none⟩) (Yab _) _).setCell (p:=⟨w.heap.size,i+1,none⟩) (Yab _) _,_,r1.set (i+1) (h (i+1)+1),HP.carry hlt hge⟩
      case measure=>simp[intOf];omega
     ·have hge':h i<1000000000:=by omega
      go_wp2
      go_roundw
      case rel=>exact⟨i+1,Zo,by go_num,hb,_,hr,HP.plain hlt hge'⟩
      case measure=>simp[intOf];omega
    ·obtain rfl:i=n:=by omega
     clear hlt hi;have hs:=hr.slice Zo (i+1) (Yab _) (i+1) (Yab _);obtain⟨c1',c2'⟩:=HP.done;have hle:=Za3 h (i+1);replace c2':=Yah c2';go_wp2_with (go_at_call 161;refine(Zcj _ _ _ h _ hs).mono ?_;rintro e w' ⟨rfl,rfl⟩)
     go_ret
     exact⟨_,_,h,rfl,hs.take _ hle,c1',c2'.out,hle,hb⟩
theorem Zwz (m1 m2:Nat) (w wf:World) (hx:Ext wf w) (p q:Option Addr) (n m c1 c2:Nat) (N M:Int) (h1:Sz m1 wf (.slice p n c1) N) (h2:Sz m2 wf (.slice q m c2) M) (hm1:m1<=1000000) (hm2:m2<=1000000) :
  Calls Tryz.prog 163 #[.slice p n c1,.slice q m c2] w λe w'=>∃p k c,e=.returned (.slice p k c)∧Sz (max m1 m2+1) w' (.slice p k c) (N+M)∧Below w.heap.size w w':=by
 obtain⟨n,f,s1,d1,rfl,l1,rfl⟩:=(h1.ext hx).sl;obtain⟨m,g,s2,d2,rfl,l2,rfl⟩:=(h2.ext hx).sl;by_cases hmn:m<=n
 ·refine(Zwx p q n m c1 c2 f g w s1 s2 d1.lo d1.hi d2.lo d2.hi hmn Zo).mono ?_
  rintro e w' ⟨b,k,h,rfl,hs,hd,hv,hk,hb⟩;exact⟨_,_,_,rfl,⟨k,h,hs,hd,hv,Zo⟩,hb⟩
 ·refine(Zwy q p m n c2 c1 g f w s2 s1 d2.lo d2.hi d1.lo d1.hi Zo Zo).mono ?_
  rintro e w' ⟨b,k,h,rfl,hs,hd,hv,hk,hb⟩;exact⟨_,_,_,rfl,⟨k,h,hs,hd,by rw[hv];omega,Zo⟩,hb⟩
end Go.Proofs.W
namespace Go.Mono
abbrev win (h:Nat->Int) (j:Nat):Nat->Int:=λi=>h (j+i)
structure LessInv (R j n:Nat) (h0 g:Nat->Int) (d:Int) (i:Nat) (h:Nat->Int) (b:Int):Prop where
 lo:∀k,k<R->0<=h k
 hi:∀k,k<R->h k<1000000000
 out:∀k,k<j∨j+i<=k->h k=h0 k
 b0:0<=b
 b1:b<=1000000000
 val:vf (win h j) (n+1)-b*pw i=vf (win h0 j) (n+1)-d*vf g i
theorem Zi7 (h:Nat->Int) (j i k:Nat) (x:Int):vf (win (λy=>if y=j+i then x else h y) j) k=vf (win h j) k+(if i<k then(x-h (j+i))*pw i else 0):=by
 rw[<-Zc4 (win h j) i x k];refine Zbj λy _=>?_;simp only[win];by_cases e:y=i
 ·subst e;simp
 ·rw[if_neg Zo,if_neg e]
theorem LessInv.start {R j n:Nat} {h0 g:Nat->Int} {d:Int} (lo:∀k,k<R->0<=h0 k) (hi:∀k,k<R->h0 k<1000000000):LessInv R j n h0 g d 0 h0 0:=
 ⟨lo,hi,λ_ _=>rfl,Zs,Zs,by simp[vf]⟩
theorem LessInv.step {R j n:Nat} {h0 g:Nat->Int} {d:Int} {i:Nat} {h:Nat->Int} {b:Int} (H:LessInv R j n h0 g d i h b) (hi:i<n)
  (g0:0<=g i) (g1:g i<1000000000) (d0:0<=d) (d1:d<1000000000) {t e:Int} (ht:0<=t) (ht2:t<=2)
  (he:e=h (j+i)-(g i*d)%1000000000-b+t*1000000000) (e0:0<=e) (e1:e<1000000000) :
  LessInv R j n h0 g d (i+1) (λk=>if k=j+i then e else h k) ((g i*d)/1000000000+t):=by
 obtain⟨m0,m1⟩:=Zgp g0 g1 d0 d1;have b0:=H.b0;have b1:=H.b1;have hv:=H.val;generalize hx:g i*d=x at *;have hq:x=1000000000*(x/1000000000)+x%1000000000:=(Ycf x 1000000000).symm;refine⟨λk hk=>?_,λk hk=>?_,λk hk=>?_,Zo,Zo,?_⟩
 ·show 0<=if k=j+i then _ else _
  split
  ·omega
  ·exact H.lo k hk
 ·show(if k=j+i then _ else _)<_
  split
  ·omega
  ·exact H.hi k hk
 ·show(if k=j+i then _ else _)=_
  rw[if_neg Zo];exact H.out k Zo
 ·rw[Zi7,if_pos Zo,Zah g i,Za4]
  generalize x/1000000000=q at hq ⊢;generalize x%1000000000=r at hq he;generalize vf (win h j) (n+1)=V at hv ⊢;subst he;grind
theorem LessInv.last {R j n:Nat} {h0 g:Nat->Int} {d:Int} {h:Nat->Int} {b:Int} (H:LessInv R j n h0 g d n h b) {t e:Int} (ht:t=0∨t=1)
  (he:e=h (j+n)-b+t*1000000000) (e0:0<=e) (e1:e<1000000000) :
  vf (win (λk=>if k=j+n then e else h k) j) (n+1)=vf (win h0 j) (n+1)-d*vf g n+t*pw (n+1)∧(∀k,k<R->0<=(if k=j+n then e else h k))∧(∀k,k<R->(if k=j+n then e else h k)<1000000000)∧
   (∀k,k<j∨j+n<k->(if k=j+n then e else h k)=h0 k):=by
 have hv:=H.val;refine⟨?_,λk hk=>?_,λk hk=>?_,λk hk=>?_⟩
 ·rw[Zi7,if_pos Zo,Za4]
  generalize vf (win h j) (n+1)=V at hv ⊢;subst he;grind
 ·split
  ·omega
  ·exact H.lo k hk
 ·split
  ·omega
  ·exact H.hi k hk
 ·rw[if_neg Zo];exact H.out k Zo
structure MoreInv (R j n:Nat) (h0 g:Nat->Int) (i:Nat) (h:Nat->Int) (c:Int):Prop where
 lo:∀k,k<R->0<=h k
 hi:∀k,k<R->h k<1000000000
 out:∀k,k<j∨j+i<=k->h k=h0 k
 c0:0<=c
 c1:c<=1
 val:vf (win h j) (n+1)+c*pw i=vf (win h0 j) (n+1)+vf g i
theorem MoreInv.start {R j n:Nat} {h0 g:Nat->Int} (lo:∀k,k<R->0<=h0 k) (hi:∀k,k<R->h0 k<1000000000):MoreInv R j n h0 g 0 h0 0:=
 ⟨lo,hi,λ_ _=>rfl,Zs,Zs,by simp[vf]⟩
theorem MoreInv.step {R j n:Nat} {h0 g:Nat->Int} {i:Nat} {h:Nat->Int} {c:Int} (H:MoreInv R j n h0 g i h c) (hi:i<n) (hR:j+n<R)
  (g0:0<=g i) (g1:g i<1000000000) :
  MoreInv R j n h0 g (i+1) (λk=>if k=j+i then(h (j+i)+g i+c)%1000000000 else h k) ((h (j+i)+g i+c)/1000000000):=by
 have c0:=H.c0;have c1:=H.c1;have hv:=H.val;have a0:=H.lo (j+i) Zo;have a1:=H.hi (j+i) Zo;generalize hx:h (j+i)+g i+c=x;have hq:x=1000000000*(x/1000000000)+x%1000000000:=(Ycf x 1000000000).symm;refine⟨λk hk=>?_,λk hk=>?_,λk hk=>?_,Zo,Zo,?_⟩
 ·show 0<=if k=j+i then _ else _
  split
  ·omega
  ·exact H.lo k hk
 ·show(if k=j+i then _ else _)<_
  split
  ·omega
  ·exact H.hi k hk
 ·show(if k=j+i then _ else _)=_
  rw[if_neg Zo];exact H.out k Zo
 ·rw[Zi7,if_pos Zo,Zah g i,Za4]
  generalize x/1000000000=q at hq ⊢;generalize x%1000000000=r at hq ⊢;generalize vf (win h j) (n+1)=V at hv ⊢;grind
theorem MoreInv.last {R j n:Nat} {h0 g:Nat->Int} {h:Nat->Int} {c:Int} (H:MoreInv R j n h0 g n h c) (hR:j+n<R) :
  ∃o:Int,vf (win (λk=>if k=j+n then(h (j+n)+c)%1000000000 else h k) j) (n+1)=vf (win h0 j) (n+1)+vf g n-o*pw (n+1)∧(∀k,k<R->0<=(if k=j+n then(h (j+n)+c)%1000000000 else h k))∧(∀k,k<R->(if k=j+n then(h (j+n)+c)%1000000000 else h k)<1000000000)∧
    (∀k,k<j∨j+n<k->(if k=j+n then(h (j+n)+c)%1000000000 else h k)=h0 k):=by
 have c0:=H.c0;have c1:=H.c1;have hv:=H.val;generalize hx:h (j+n)+c=x;have hq:x=1000000000*(x/1000000000)+x%1000000000:=(Ycf x 1000000000).symm;refine⟨x/1000000000,?_,λk hk=>?_,λk hk=>?_,λk hk=>?_⟩
 ·rw[Zi7,if_pos Zo,Za4]
  generalize x/1000000000=q at hq ⊢;generalize x%1000000000=r at hq ⊢;generalize vf (win h j) (n+1)=V at hv ⊢;grind
 ·split
  ·omega
  ·exact H.lo k hk
 ·split
  ·omega
  ·exact H.hi k hk
 ·rw[if_neg Zo];exact H.out k Zo
theorem Zih {n:Nat} {U V d W:Int} {o t:Int} (hV0:0<V) (hVn:V<=pw n) (hd:U<(d+1)*V) (hd2:d*V<U+V) (ht:t=0∨t=1)
  (w0:0<=U-d*V+t*pw (n+1)) (w1:U-d*V+t*pw (n+1)<pw (n+1)) (hW:t=0->W=U-d*V) (hW1:t=1->W=U-d*V+pw (n+1)+V-o*pw (n+1)) (W0:0<=W) (W1:W<pw (n+1)) :
  0<=W∧W<V∧U=(d-t)*V+W:=by
 have hp:=Za4 n;have hp0:=Za7 n;have e1:(d+1)*V=d*V+V:=by grind
 rcases ht with rfl|rfl
 ·have:=hW rfl
  rw[Int.sub_zero];omega
 ·have h1:=hW1 rfl
  have e2:(d-1)*V=d*V-V:=by grind
  have h2:U-d*V<0:=Zo;have h3:W-(U-d*V+V)=(1-o)*pw (n+1):=by grind
  have h4:o=1:=by
   rcases Yen o 1 with h|h|h
   ·have:=mle (show 1<=1-o by omega) (Yap (Za7 (n+1)));omega
   ·exact h
   ·have:=mle (show 1-o<=-1 by omega) (Yap (Za7 (n+1)));omega
  subst h4;omega
section
open Go.RowKit
section
variable {P:Program} {ops:Array Oper} {Q:Exit->Act->World->Prop} {md:Region.Mode} {S:World->Prop}
theorem Zek (i:Nat) (d:Option Tmp) {oi:Oper} {v:Value} {fuel:Nat} {listed:Array Bool} {a:Act} {w:World} (hi:ops[i]? = some oi)
  (hs:Region.noSelect ops=true) (hf:Region.free md ops listed i=true) (hr:(Region.ready md ops listed).contains i=true) (hd:oi.dst=d)
  (hQ:∀c a w,Q (.panic c) (a.put d v) w->Q (.panic c) a w) (hw:Region.wanted oi (yielded ops a.tmps)=true) (hv:∀w,S w->(execOp a.eval oi).run P w=.ok (.value v) w) (hS:S w)
  (h:wpAnyH P md ops Q S fuel (listed.setIfInBounds i true) (a.put d v) w):wpAnyH P md ops Q S (fuel+1) listed a w:=by
 subst hd;exact wpAnyH_take hi hs hf hr hQ (Or.inl ⟨hw,hv⟩) hS h
theorem Zkq (i:Nat) (d:Option Tmp) {oi:Oper} {fuel:Nat} {listed:Array Bool} {a:Act} {w:World} (hi:ops[i]? = some oi)
  (hs:Region.noSelect ops=true) (hf:Region.free md ops listed i=true) (hr:(Region.ready md ops listed).contains i=true) (hd:oi.dst=d)
  (hQ:∀c a w,Q (.panic c) (a.put d undef) w->Q (.panic c) a w) (hw:Region.wanted oi (yielded ops a.tmps)=false) (hS:S w)
  (h:wpAnyH P md ops Q S fuel (listed.setIfInBounds i true) (a.put d undef) w):wpAnyH P md ops Q S (fuel+1) listed a w:=by
 subst hd;exact wpAnyH_take hi hs hf hr hQ (Or.inr ⟨hw,rfl⟩) hS h
theorem tk (i:Nat) (d:Option Tmp) {oi:Oper} {v:Value} {fuel:Nat} {listed:Array Bool} {a a':Act} {w:World}
  (h:wpAnyH P md ops Q S fuel (listed.setIfInBounds i true) a' w) (hi:ops[i]? = some oi:=by rfl)
  (hs:Region.noSelect ops=true:=by as_aux_lemma=>kernel_rfl) (hf:Region.free md ops listed i=true:=by as_aux_lemma=>kernel_rfl) (hr:(Region.ready md ops listed).contains i=true:=by as_aux_lemma=>kernel_rfl) (hd:oi.dst=d:=by rfl)
  (hw:Region.wanted oi (yielded ops a.tmps)=true:=by rfl) (hv:∀w,S w->(execOp a.eval oi).run P w=.ok (.value v) w:=by(intro w hSw;(try dsimp only at hSw);go_simp;all_goals with_reducible rfl))
  (hQ:∀c a w,Q (.panic c) (a.put d v) w->Q (.panic c) a w:=by exact(λ_ _ _ h=>h)) (hS:S w:=by assumption)
  (ha:a.put d v=a':=by(simp only[Act.put,Zsi,Zs0,Zss];rfl)):wpAnyH P md ops Q S (fuel+1) listed a w:=by
 subst ha;exact Zek i d hi hs hf hr hd hQ hw hv hS h
theorem tl (i:Nat) (d:Option Tmp) {oi:Oper} (hi:ops[i]? = some oi) (v:Value) {fuel:Nat} {listed:Array Bool} {a a':Act} {w:World}
  (hv:∀w,S w->(execOp a.eval oi).run P w=.ok (.value v) w) (h:wpAnyH P md ops Q S fuel (listed.setIfInBounds i true) a' w)
  (hs:Region.noSelect ops=true:=by as_aux_lemma=>kernel_rfl) (hf:Region.free md ops listed i=true:=by as_aux_lemma=>kernel_rfl) (hr:(Region.ready md ops listed).contains i=true:=by as_aux_lemma=>kernel_rfl) (hd:oi.dst=d:=by rfl)
  (hw:Region.wanted oi (yielded ops a.tmps)=true:=by rfl)
  (hQ:∀c a w,Q (.panic c) (a.put d v) w->Q (.panic c) a w:=by exact(λ_ _ _ h=>h)) (hS:S w:=by assumption)
  (ha:a.put d v=a':=by(simp only[Act.put,Zsi,Zs0,Zss];rfl)):wpAnyH P md ops Q S (fuel+1) listed a w:=by
 subst ha;exact Zek i d hi hs hf hr hd hQ hw hv hS h
theorem ts (i:Nat) (d:Option Tmp) {oi:Oper} {fuel:Nat} {listed:Array Bool} {a a':Act} {w:World}
  (h:wpAnyH P md ops Q S fuel (listed.setIfInBounds i true) a' w) (hi:ops[i]? = some oi:=by rfl)
  (hs:Region.noSelect ops=true:=by as_aux_lemma=>kernel_rfl) (hf:Region.free md ops listed i=true:=by as_aux_lemma=>kernel_rfl) (hr:(Region.ready md ops listed).contains i=true:=by as_aux_lemma=>kernel_rfl) (hd:oi.dst=d:=by rfl)
  (hw:Region.wanted oi (yielded ops a.tmps)=false:=by rfl)
  (hQ:∀c a w,Q (.panic c) (a.put d undef) w->Q (.panic c) a w:=by exact(λ_ _ _ h=>h)) (hS:S w:=by assumption)
  (ha:a.put d undef=a':=by(simp only[Act.put,Zsi,Zs0,Zss];rfl)):wpAnyH P md ops Q S (fuel+1) listed a w:=by
 subst ha;exact Zkq i d hi hs hf hr hd hQ hw hS h
theorem st (i:Nat) {o:Oper} {fuel:Nat} {listed:Array Bool} {a:Act} {w:World}
  (h:∀K':Act->World->Prop,Shut (∀a w,S w->(S w->wpAnyH P md ops Q S fuel (listed.setIfInBounds i true) a w)->K' a w)->if Region.wanted o (yielded ops a.tmps)=true then Oper.wp P o a w K' Q else K' (a.put o.dst undef) w)
  (ho:ops[i]? = some o:=by rfl) (hr:Region.ready md ops listed=[i]:=by as_aux_lemma=>kernel_rfl):wpAnyH P md ops Q S (fuel+1) listed a w:=
 wpAnyH_ready hr Zs (Yal ho h Yas)
theorem kp {K' X:Act->World->Prop} (hK:Shut (∀a w,S w->(S w->X a w)->K' a w)) {a a':Act} {w:World} (hS:S w) (h:S w->X a' w)
  (ha:a=a':=by first|(simp only[Act.put,Zsi,Zs0,Zss];rfl)|rfl):K' a w:=by
 subst ha;exact hK.out _ _ hS h
end
end
section
open Go.RowKit
theorem OwnF.low {w:World} {base:Nat} {v:Value} {n:Nat} {f:Nat->Int} (h:OwnF w base v n f):∀k,v.ownBlock=some k->base<=k:=by
 obtain⟨hl,⟨rfl,_⟩|⟨g,cap,cur,rfl,hb,_⟩⟩:=h
 ·intro k hk;simp[Value.ownBlock]at hk
 ·intro k hk;simp only[Value.ownBlock,Ybp]at hk;omega
theorem OwnF.below {w w':World} {base:Nat} {v:Value} {n:Nat} {f:Nat->Int} (h:OwnF w base v n f) (hB:Below w.heap.size w w'):OwnF w' base v n f:=by
 obtain⟨hl,h|⟨g,cap,cur,hv,hb,hh,hr⟩⟩:=h
 ·exact⟨hl,.inl h⟩
 ·exact⟨hl,.inr ⟨g,cap,cur,hv,hb,(hB.block g (Zam hh)).trans hh,hr⟩⟩
theorem OwnF.set {w:World} {base:Nat} {v:Value} {n:Nat} {f:Nat->Int} (h:OwnF w base v n f) (a:Addr) (u:Value) (ha:a.block<base):OwnF (w.setCell a u) base v n f:=by
 obtain⟨hl,h|⟨g,cap,cur,hv,hb,hh,hr⟩⟩:=h
 ·exact⟨hl,.inl h⟩
 ·exact⟨hl,.inr ⟨g,cap,cur,hv,hb,(Ydx w a u g Zo).trans hh,hr⟩⟩
theorem Box.low {w w':World} {B N:Nat} {T:TypeId} {cs:Array Value} (h:Box w B T cs) (hb:Below N w w') (hB:B<N):Box w' B T cs:=⟨(hb.block B hB).trans h.blk⟩
theorem Zjb (w:World) (x y:Int) (h:x=y):SlF (w.alloc (.cells #[.int .i64 x] 3)) (.slice (some ⟨w.heap.size,0,none⟩) 1 1) 1 (λ_=>y):=by
 subst h;refine .inr ⟨_,_,_,#[.int .i64 x],(0,0),rfl,Zo,Zo,(Box.new w 3 #[.int .i64 x]).blk,λi hi=>?_⟩;obtain rfl:i=0:=Zo;rfl
structure OfInv (z r:Int) (k:Nat) (f:Nat->Int):Prop where
 lo:∀i,i<k->0<=f i
 hi:∀i,i<k->f i<1000000000
 val:vf f k+pw k*r.natAbs=z.natAbs
 top:r=0->0<k->f (k-1)≠0
theorem OfInv.start (z:Int):OfInv z z 0 (λ_=>0):=⟨λi hi=>Zo,λi hi=>Zo,by simp[vf,pw],λ_ h=>Zo⟩
theorem OfInv.small {z r:Int} {k:Nat} {f:Nat->Int} (h:OfInv z r k f) (h1 : -9223372036854775808<=z) (h2:z<=9223372036854775807) (h0:r≠0):k<=2:=by
 have hv:=Zap h.lo;have hval:=h.val;have hp:=Za7 k;by_cases hk:k<=2
 ·exact hk
 ·have h3:=Zbp (i:=3) (k:=k) Zo
  have e3:pw 3=1000000000000000000000000000:=Zd;have:pw k*1<=pw k*r.natAbs:=Ycr Zo Zo;omega
theorem OfInv.bound {z r:Int} {k:Nat} {f:Nat->Int} (h:OfInv z r k f) (h1 : -9223372036854775808<=z) (h2:z<=9223372036854775807):r.natAbs<=9223372036854775808:=by
 have hv:=Zap h.lo;have hval:=h.val;have hp:=Za7 k;have:1*(r.natAbs:Int)<=pw k*r.natAbs:=Yaw Zo Zo;omega
theorem OfInv.step {z r:Int} {k:Nat} {f:Nat->Int} (h:OfInv z r k f) (h0:r≠0):OfInv z (r.tdiv 1000000000) (k+1) (λi=>if i<k then f i else((r.tmod 1000000000).natAbs:Int)):=by
 have hm:((r.tmod 1000000000).natAbs:Int)=r.natAbs%1000000000:=by rw[Ydy];rfl
 have hd:((r.tdiv 1000000000).natAbs:Int)=r.natAbs/1000000000:=by rw[Yfg];rfl
 refine⟨?_,?_,?_,?_⟩
 ·intro i hi
  by_cases hk:i<k
  ·rw[if_pos hk];exact h.lo i hk
  ·rw[if_neg hk];omega
 ·intro i hi
  by_cases hk:i<k
  ·rw[if_pos hk];exact h.hi i hk
  ·rw[if_neg hk];omega
 ·rw[Zah,Za4,if_neg (Yfw k),Zbj (g:=f) (λi hi=>if_pos hi),<-h.val,hm,hd]
  have e:(r.natAbs:Int)=r.natAbs%1000000000+1000000000*(r.natAbs/1000000000):=(Int.emod_add_mul_ediv _ _).symm;generalize hA:((r.natAbs:Int)%1000000000)=A at e;generalize hB:((r.natAbs:Int)/1000000000)=C at e;rw[e];grind
 ·intro hz _
  simp only[Ybf,Yfw,if_false];have:((r.tdiv 1000000000).natAbs:Int)=0:=by rw[hz];rfl
  omega
end
section
open Go.RowKit
def IterAll (F:Fence) (n:Nat) (P:Program) (g:Nat) (fi lb:Array Value) (m:Nat) (encs:Nat->Array Value) (Kp:World->Prop):Prop:=
 ∀(l:Nat) (J:Nat->World->Prop) (W:World),(∀i V,J i V->Kp V)->(∀i V V',J i V->Below V.heap.size V V'->J i V')->
   (∀i V,J i V->i<m->YieldAt F (n-1) P l (encs i) V λe V'=>e=.returned (.bool true)∧J (i+1) V')->
   J 0 W->CallsIn F n P g (fi++#[.func (.yield l) #[] #[]]++lb) W λe V=>(∃v,e=.returned v)∧J m V
theorem Zch {W W':World} (h:Below W.heap.size W W'):KeepsOthers W W':=
 ⟨h.size,λk _ hk _=>(h.block k (Zam hk)).trans hk⟩
theorem Zlg {w W:World} (h:Below w.heap.size w W) {l:Nat} (hl:w.heap.size<=l) (o:Obj):Below w.heap.size w (W.putObj l o):=
 h.grown (grownBy_putObj' W l o) h.size (λk e=>by cases e;exact hl)
theorem Zh8 {F:Fence} {n:Nat} {P:Program} {g:Operand} {ps:Array Tmp} {assign body:Code} {Q:Exit->Act->World->Prop} {a:Act} {w:World}
  (hro:F.round=none) (h1:1<=n) {gf:Nat} {fi lb:Array Value} (hg:a.eval g=.func (.func gf) fi lb) (hFg:F.fn gf)
  (eg:∀args w,(callFunc gf args).run P w=.ok (.enter gf args) w)
  {m:Nat} {encs:Nat->Array Value} {Kp:World->Prop} (hit:IterAll F (n-1) P gf fi lb m encs Kp) (hps:∀i,(encs i).size=ps.size)
  (I:Nat->World->Prop) (hI:OwnFrom w.heap.size I) (hK:∀i V,I i V->Kp V) (hIB:∀i V V',I i V->Below V.heap.size V V'->I i V') (h0:I 0 w) 
  (hround:∀(l i:Nat) (W:World),I i W->i<m->w.heap.size<=l->w.heap.size<=W.heap.size->
   assign.wpIn (F.inRound l) (n-1-1) P (Exit.then (λx W1=>KeepsOthers W W1∧∀W2,W1.grownBy W2 (some l)->(∃o:Obj,W1.heap[l]? = some o∧o.isCells=false)->
    body.wpIn (F.inRound l) (n-1-1) P (λe _ W'=>e=.normal∧KeepsOthers W2 W'∧I (i+1) W') x W2) (λ_ _ _=>False))
    {tmps:=(ps.zip (encs i)).foldl (λt (p,v)=>t.setIfInBounds p v) a.tmps,defers:=[]} W)
  (hdone:∀(D:Nat) (W:World),w.heap.size<=D->I m W->W.heap[D]? = some (.deferred (some []))->Q .normal {a with defers:={target:=.collected D,args:=#[]}::a.defers} W) :
  (Code.rangeFunc g ps assign body).wpIn F n P Q a w:=by
 refine wpIn_rangeFunc λfn hfn=>?_;rw[hro];obtain⟨rec,hrec⟩:∃rec:LoopState->Loop,rec=λst=>{state:=st,pending:=none,fn,tmps:=a.tmps,params:=ps,assign,body,defers:=w.heap.size}:=⟨_,rfl⟩
 obtain⟨W1,hW1⟩:∃W1,(w.alloc (.deferred (some []))).alloc (.loop (rec .ready))=W1:=⟨_,rfl⟩
 have hL1:W1.heap[w.heap.size+1]? = some (.loop (rec .ready)):=by
  rw[<-hW1];have:=World.alloc_heap_new (w.alloc (.deferred (some []))) (.loop (rec .ready));rwa [Yav]at this
 have hK1:W1.heap[w.heap.size]? = some (.deferred (some [])):=by
  rw[<-hW1];exact(Below.heap_alloc _ _ _ Zs).trans (World.alloc_heap_new w _)
 have hI1:I 0 W1:=by rw[<-hW1];exact hI.alloc _ (hI.alloc _ h0)
 refine⟨w.heap.size+1,[{target:=.collected w.heap.size,args:=#[]}],W1,{target:=.fn (.func gf) lb,args:=fi++#[.func (.yield (w.heap.size+1)) #[] #[]]},W1,gf,
  fi++#[.func (.yield (w.heap.size+1)) #[] #[]]++lb,W1,?_,?_,?_,?_,λ_=>h1,?_⟩
 ·rw[<-hW1,hrec];exact run_enterLoop_outer _ _ _ _ _
 ·simp only[resolve,hg]
  simp[go_sem]
 ·intro f' hf';simp[Target.leads]at hf';subst hf';exact hFg
 ·simp[invoke,go_sem,eg]
 ·refine(hit (w.heap.size+1)
   (λi W=>I i W∧W.heap[w.heap.size+1]? = some (.loop (rec .ready))∧W.heap[w.heap.size]? = some (.deferred (some []))) W1
   (λi V h=>hK i V h.1)
   (λi V V' h hb=>⟨hIB i V V' h.1 hb,(hb.block _ (Zam h.2.1)).trans h.2.1,(hb.block _ (Zam h.2.2)).trans h.2.2⟩)
   ?_ ⟨hI1,hL1,hK1⟩).mono ?_
  ·rintro i W ⟨hi,hl,hk⟩ hlen
   have hlt:w.heap.size+1<W.heap.size:=Zam hl;have hy:=run_yield (P:=P) (args:=encs i) hl (by rw[hrec];exact hps i);rw[hrec]at hy;refine⟨fn,_,assign,body,hy,roundIn_of_wpIn hfn (wpIn_mono (hround _ i W hi hlen Zo Zo) ?_)⟩;rintro e x W0 hx;cases e with
   | normal=>?_
   | _=>exact hx
   obtain⟨hk0,hx⟩:=hx;replace hl:=hk0.same _ _ hl rfl;replace hk:=hk0.same _ _ hk rfl;replace hlt:w.heap.size+1<W0.heap.size:=Zam hl;clear hi hy hk0;refine⟨_,run_beginRound hl (by rw[hrec]),?_⟩;have hl2:(W0.putObj (w.heap.size+1) (.loop {rec .ready with state:=.busy})).heap[w.heap.size+1]? = some (.loop {rec .ready with state:=.busy}):=World.putObj_heap_same hlt;have hk2:(W0.putObj (w.heap.size+1) (.loop {rec .ready with state:=.busy})).heap[w.heap.size]? = some (.deferred (some [])):=(World.putObj_heap_other Zo).trans hk;refine wpIn_mono (hx _ (grownBy_putObj' _ _ _) ⟨_,hl,rfl⟩) ?_;rintro e a3 W3 ⟨rfl,hk3,hi3⟩;have hl3:=hk3.same _ _ hl2 rfl;have he:=run_endRound (P:=P) none hl3;have h4:(rec LoopState.ready).pending=none:=by rw[hrec]
   refine⟨_,_,he,?_,hI.putObj _ hi3 Zo hl3 rfl,?_,(World.putObj_heap_other Zo).trans (hk3.same _ _ hk2 rfl)⟩
   ·rfl
   ·rw[World.putObj_heap_same (Zam hl3)]
    rw[hrec];rfl
  ·rintro e W2 ⟨⟨v,rfl⟩,hi,hl,hk⟩
   have he:=run_endLoop (P:=P) hl (by rw[hrec];simp);refine⟨_,_,he,?_⟩;rw[hrec];exact hdone _ _ (Yab _) (hI.putObj _ hi Zo hl rfl) ((World.putObj_heap_other Zo).trans hk)
theorem Box.grown {w w':World} {B:Nat} {T:TypeId} {cs:Array Value} (b:Box w B T cs) {row:Option Nat} (hg:w.grownBy w' row) (hr:∀r,row=some r->∃o:Obj,w.heap[r]? = some o∧o.isCells=false):Box w' B T cs:=by
 obtain⟨_,_,_,_,hb⟩:=hg;refine⟨(hb B b.lt λe=>?_).trans b.blk⟩;obtain⟨o,ho,hc⟩:=hr B e.symm;rw[b.blk]at ho;cases ho;cases hc
end
end Go.Mono
