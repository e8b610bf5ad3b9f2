/- The drafted optics of chapter 13: what it is and that it is valid. Part 4 of 19. No condition beside the row. -/
import Derived.Test.YtfgmlkjibdegfaaGreatDoorA06
import Derived.Test.YtfgmlkjibdegfaaGreatDoorA10
import Derived.Test.YtfgmlkjibdegfaaGreatDoorA16
import Derived.Test.YtfgmlkjibdegfaaGreatDoorA25
import Derived.Test.YtfgmlkjibdegfaaGreatDoorD01
import Derived.Test.YtfgmlkjibdegfaaGreatDoorD02
import Derived.Test.YtfgmlkjibdegfaaGreatDoorD03
set_option linter.unusedVariables false
set_option linter.unusedSimpArgs false
set_option maxRecDepth 100000
set_option maxHeartbeats 4000000
namespace Go.Mono
theorem Zr6 {a r s:Nat} (h1:r*r<=a) (h2:a<(r+1)*(r+1)) (g1:s*s<=a) (g2:a<(s+1)*(s+1)):r=s:=by
 rcases Nat.lt_trichotomy r s with h|h|h
 ·have:=Nat.mul_le_mul (show r+1<=s from h) (show r+1<=s from h)
  omega
 ·exact h
 ·have:=Nat.mul_le_mul (show s+1<=r from h) (show s+1<=r from h)
  omega
noncomputable def rtN (a:Nat):Nat:=Classical.epsilon λr=>r*r<=a∧a<(r+1)*(r+1)
theorem Zr7 {a r:Nat} (h1:r*r<=a) (h2:a<(r+1)*(r+1)):rtN a=r:=by
 have h:=Classical.epsilon_spec (p:=λr=>r*r<=a∧a<(r+1)*(r+1)) ⟨r,h1,h2⟩;exact Zr6 h.1 h.2 h1 h2
theorem Zuu:∀a:Nat,∃r,r*r<=a∧a<(r+1)*(r+1)
 | 0=>⟨0,by decide,by decide⟩
 | a + 1 => by
   obtain⟨r,h1,h2⟩:=Zuu a;by_cases h:a+1<(r+1)*(r+1)
   ·exact⟨r,by omega,h⟩
   ·refine⟨r+1,by omega,?_⟩
    have:(r+1+1)*(r+1+1)=(r+1)*(r+1)+2*(r+1)+1:=by
     simp only[Nat.mul_add,Nat.add_mul];omega
    omega
theorem Znq (a:Nat):rtN a*rtN a<=a∧a<(rtN a+1)*(rtN a+1):=by
 obtain⟨r,h1,h2⟩:=Zuu a;rw[Zr7 h1 h2];exact⟨h1,h2⟩
theorem Zxf {a b:Nat} (h:a<(b+1)*(b+1)):rtN a<=b:=by
 have h1:=(Znq a).1;by_cases hb:rtN a<=b
 ·exact hb
 ·have:=Nat.mul_le_mul (show b+1<=rtN a by omega) (show b+1<=rtN a by omega)
  omega
theorem Zxg {a b:Nat} (h:b*b<=a):b<=rtN a:=by
 have h1:=(Znq a).2;by_cases hb:b<=rtN a
 ·exact hb
 ·have:=Nat.mul_le_mul (show rtN a+1<=b by omega) (show rtN a+1<=b by omega)
  omega
end Go.Mono
namespace Go.Proofs.W
open Go.RowKit Go.Mono
theorem Zr8 {v1:Value} {a:Rat} (w:World) (h1:QtV 600 w v1 a) :
  Calls Tryz.prog 196 #[v1] w λe w'=>e=.returned (.tuple #[.int .i64 a.num.sign,.int .i64 0])∧Below w.heap.size w w':=by
 have hr1:=λ(X:World) (hX:Ext w X)=>Zb1 X (h1.ext hX);obtain⟨s1,p1,n1,c1,t1,q1,m1,d1,rfl,x1,x2⟩:=h1;go_enter Tryz.func196,Tryz.ntmps196
 go_wp2_with fail
 refine Zbv λW hB hs b0=>?_;refine(hr1 W (.of_below hB)).mono ?_;rintro e W2 ⟨rfl,hb⟩;replace b0:=b0.below hb;replace hB:=Zaa hB hb;clear hb hr1 hs;go_wp2_with fail
 refine wp_region_held_drew (S:=λw'=>(∀b o,b<W2.heap.size->w'.cell? ⟨b,o,none⟩=W2.cell? ⟨b,o,none⟩)∧Below W2.heap.size W2 w') Zx (Za3 (Yae _ _).drew) (λhHeld=>?_);have hBel:Below W2.heap.size W2 W2.drew:=(Yae _ _).drew;have hpre:∀w',Below W2.heap.size W2 w'->w'.rangeAt w.heap.size 0 (#[Value.bool s1,Value.slice p1 n1 c1]:Array Value).toList:=λw' h j v hj=>by
  have hc:=(b0.below h).cell (0+j);match j,hj with
  | 0,hj=>cases hj;exact hc
  | 1,hj=>cases hj;exact hc
  | j+2,hj=>simp at hj
 refine tk 0 (some 7) ?_;refine tl 1 (some 8) rfl (.agg #[.bool s1,.slice p1 n1 c1]) (Zaj 52 _ rfl w.heap.size 0 rfl #[.bool s1,.slice p1 n1 c1] (λw' h=>hpre w' h.2) _ Tryz.underlying52 rfl Zae) ?_;refine Mono.stc 2 (some 9) (Zeb 0 _ Zd Zd) (λe Wn2 hR=>?_);obtain⟨V2,rfl,R2,hb2⟩:=hR;replace hBel:=Zaa hBel hb2;refine⟨Za3 (Zaa hHeld.2 hb2),λhHeld=>Mono.pt ?_⟩;refine Mono.stc 3 (some 10) (Zfq _ (x1.ext ((Ext.of_below hB).trans (.of_below hBel))) R2) (λe Wn3 hR=>?_);obtain⟨rfl,hb3⟩:=hR;replace hBel:=Zaa hBel hb3;refine⟨Za3 (Zaa hHeld.2 hb3),λhHeld=>Mono.pt ?_⟩;refine tk 4 (some 2) ?_;refine tk 5 (some 3) ?_;refine wpAnyH_done Zx ?_ _;go_wp2
 go_ret2
 exact⟨Zs,Zaa hB hBel⟩
theorem Zg7 (s:ByteArray) (hs:NameOk s) (w:World) :
  Calls Tryz.prog 127 #[.string s] w λe w'=>e=.returned (.bool true)∧w'=w:=by
 obtain⟨h0,h1,hl⟩:=hs;go_enter Tryz.func127,Tryz.ntmps127
 go_wp2
 go_loopw [3] (λx wr=>∃k:Nat,k<=s.size∧x=.int .i64 (k:Int)∧wr=w) (λx _=>(s.size-intOf x).toNat)
 case atStart=>exact⟨0,Yat _,rfl,rfl⟩
 case round=>
  obtain⟨k,hk,rfl,rfl⟩:=hrel;by_cases hks:k<s.size
  ·have hlk:=hl k hks
   have h0':(k:Int)<s.size:=Zo;have hg:s.data[k]? = some s[k]:=by
    rw[Yby (by exact hks)];rfl
   clear hl;generalize hz:(s[k].toNat:Int)=z at *;rcases hlk with ⟨h1,h2⟩|⟨h1,h2⟩|⟨h1,h2⟩|h1|h1
   ·go_wp2
    go_roundw
    case rel=>refine⟨k+1,Zo,?_⟩;simp
    case measure=>simp[intOf];omega
   ·have h3:65<=z:=by omega
    have h4:¬(z<=90):=Zo;go_wp2
    go_roundw
    case rel=>refine⟨k+1,Zo,?_⟩;simp
    case measure=>simp[intOf];omega
   ·have h3:¬(65<=z):=by omega
    have h4:¬(97<=z):=Zo;go_wp2
    go_roundw
    case rel=>refine⟨k+1,Zo,?_⟩;simp
    case measure=>simp[intOf];omega
   ·subst h1
    go_wp2
    go_roundw
    case rel=>refine⟨k+1,Zo,?_⟩;simp
    case measure=>simp[intOf];omega
   ·subst h1
    go_wp2
    go_roundw
    case rel=>refine⟨k+1,Zo,?_⟩;simp
    case measure=>simp[intOf];omega
  ·obtain rfl:k=s.size:=by omega
   have h0':(1:Int)<=s.size:=Zo;have h1':(s.size:Int)<=16:=Zo;go_wp2
   go_ret
   exact⟨rfl,rfl⟩
theorem Zro (f:Flm) (hf:f.ok) (w:World) :
  Calls Tryz.prog 217 #[.agg f.vals] w λe w'=>e=.returned (.bool true)∧Below w.heap.size w w':=by
 obtain⟨h1,h2,h3,h4,h5,h6⟩:=hf;unfold Flm.vals;go_enter Tryz.func217,Tryz.ntmps217
 go_wp2
 go_ret
 exact⟨rfl,Zad (Yae _ _) _⟩
end Go.Proofs.W
namespace Go.Mono
abbrev Chg:=Nat×Int×Int
def withS (l:List Srf) (c:Chg):Option (List Srf):=
 match l[c.1]? with
 | none=>none
 | some s=>if c.2.1=9∧c.1+1=l.length then none else(setS s c.2.1 c.2.2).map λt=>l.set c.1 t
def dupS (cs:List Chg) (n:Nat):Prop:=∃k,k<n∧(cs.getD k (0,0,0)).1=(cs.getD n (0,0,0)).1∧(cs.getD k (0,0,0)).2.1=(cs.getD n (0,0,0)).2.1
noncomputable def madeN (l:List Srf) (cs:List Chg):Nat->Option (List Srf)
 | 0=>some l
 | n+1=>open Classical in (madeN l cs n).bind λm=>if dupS cs n then none else withS m (cs.getD n (0,0,0))
noncomputable def madeS (l:List Srf) (cs:List Chg):Option (List Srf):=madeN l cs cs.length
theorem Zfm {l:List Srf} {cs:List Chg}:∀{n m:Nat},n<=m->madeN l cs n=none->madeN l cs m=none
 | n, 0, h, e => by obtain rfl : n = 0 := by omega
                    exact e
 | n, m + 1, h, e => by
   rcases Ydu n (m+1) with h1|h1
   ·unfold madeN
    rw[Zfm (by omega:n<=m) e];rfl
   ·obtain rfl:n=m+1:=by omega
    exact e
structure KeptL (l m:List Srf):Prop where
 len:m.length=l.length
 ok:∀s∈m,s.ok
 all:∀i s,l[i]? = some s->∃t,m[i]? = some t∧t.kind=s.kind∧t.glass=s.glass∧t.order=s.order∧t.co=s.co∧(i+1=l.length->t.thick=s.thick)
theorem KeptL.refl {l:List Srf} (h:∀s∈l,s.ok):KeptL l l:=⟨rfl,h,λi s hs=>⟨s,hs,rfl,rfl,rfl,rfl,λ_=>rfl⟩⟩
theorem KeptL.with {l m n:List Srf} {c:Chg} (h:KeptL l m) (hv:In 32768000 c.2.2) (e:withS m c=some n):KeptL l n:=by
 unfold withS at e;split at e
 ·cases e
 ·rename_i s hs
  split at e
  ·cases e
  ·rename_i hc
   obtain⟨t,ht,rfl⟩:=Yad.1 e;have hlt:c.1<m.length:=(Yan.1 hs).1;have hsm:s∈m:=Ych hs;obtain⟨⟨h1,h2,h3,h4,h5⟩,h6⟩:=Zv4 (h.ok s hsm) hv ht;refine⟨by rw[List.length_set,h.len],λu hu=>?_,λi u hu=>?_⟩
   ·rcases Ygf hu with hu|rfl
    ·exact h.ok u hu
    ·exact h1
   ·obtain⟨t',ht',g1,g2,g3,g4,g5⟩:=h.all i u hu
    by_cases hi:c.1=i
    ·subst hi
     obtain rfl:t'=s:=by rw[hs]at ht';exact(Yej ht').symm
     refine⟨t,by rw[List.getElem?_set_self hlt],by rw[h2,g1],by rw[h3,g2],by rw[h4,g3],by rw[h5,g4],λhl=>?_⟩;rw[h6 λh9=>hc ⟨h9,by rw[h.len];exact hl⟩,g5 hl]
    ·exact⟨t',by rw[List.getElem?_set_ne hi];exact ht',g1,g2,g3,g4,g5⟩
theorem Zfn {l:List Srf} (hl:∀s∈l,s.ok) {cs:List Chg} (hv:∀i,i<cs.length->In 32768000 (cs.getD i (0,0,0)).2.2):∀{n:Nat} {m:List Srf},n<=cs.length->madeN l cs n=some m->KeptL l m
 | 0, m, _, e => by
   cases e;exact KeptL.refl hl
 | n + 1, m, hn, e => by
   unfold madeN at e;obtain⟨k,hk,e⟩:=Ybg.1 e;split at e
   ·cases e
   ·exact(Zfn hl hv Zo hk).with (hv n Zo) e
theorem Zh8 {l:List Srf} (hl:∀s∈l,s.ok) {cs:List Chg} (hv:∀i,i<cs.length->In 32768000 (cs.getD i (0,0,0)).2.2) {m:List Srf} (e:madeS l cs=some m):KeptL l m:=
 Zfn hl hv (Yab _) e
noncomputable def dConf (l:List Srf):List Chg->List Chg->List Chg
 | done,[]=>done
 | done,c::r=>open Classical in if(madeS l (done++[c])).isSome then dConf l (done++[c]) r else dConf l done r
end Go.Mono
