/- Contracts of package paraxial,and a verified evaluator. Part 18 of 28. No condition beside the row. -/
import Derived.TacticsIn
import Derived.Test.YtfgmlkjibdegfaaGreatDoorA17
set_option linter.unusedVariables false
set_option linter.unusedSimpArgs false
set_option maxRecDepth 100000
set_option maxHeartbeats 4000000
namespace Go.Ex
open Go.RowKit Go.Mono
section
def sargs (get:Operand->Option SV):List Operand->Option (List SA)
 | []=>some []
 | x :: r => match get x with
   | some (.a s)=>(sargs get r).map (s::·)
   | _=>none
def capsA (caps:List (Nat×Nat)):List SA:=caps.map λp=>.one (.ptr p.1 p.2)
def entersB (P:Program) (f:FuncId):Bool:=
 match P.funcs[f]? with
 | some fn=>!(fn.name== "runtime.NumGoroutine")&&fn.body.isSome
 | none=>false
theorem Zfd {P:Program} {f:FuncId} (h:entersB P f=true) (args:Array Value) (w:World):(callFunc f args).run P w=.ok (.enter f args) w:=by
 unfold entersB at h;split at h
 ·rename_i fn hf
  rw[Yam]at h;obtain⟨h1,h2⟩:=h;unfold callFunc;have e1:(fn.name== "runtime.NumGoroutine")=false:=by simpa using h1
  have e2:fn.body.isNone=false:=by cases hb:fn.body<;>simp_all
  simp only[Yar,run_program,Yag,hf,e1,e2,Ybq,if_false,Yau]
 ·cases h
section
variable {D:Den} {P:Program} {ρ:Nm} {wc w:World} {get:Operand->Option SV} {ev:Operand->Value}
theorem denAs.append:∀{l m:List SA} {vs us:List Value},denAs D ρ w l vs->denAs D ρ w m us->denAs D ρ w (l++m) (vs++us)
 | [],m,vs,us,e,hm=>by rw[show vs=[] from e];exact hm
 | x::l,m,_,us,⟨v,r,e,hv,hr⟩,hm=>⟨v,r++us,by rw[e,Ydi],hv,denAs.append hr hm⟩
theorem Zip (hg:∀x z,get x=some z->denV D ρ wc z (ev x)):∀{l:List Operand} {s:List SA},sargs get l=some s->denAs D ρ wc s (l.map ev)
 | [],s,h=>by cases h;rfl
 | x :: r, s, h => by
   unfold sargs at h;split at h
   ·rename_i y hy
    obtain⟨q,hq,rfl⟩:=Yad.1 h;exact⟨_,_,rfl,hg _ _ hy,Zip hg hq⟩
   ·cases h
theorem Zf6:∀{l:List (Nat×Nat)} {vs:List Value},adrs ρ l vs->denAs D ρ w (capsA l) vs
 | [],vs,e=>e
 | p::r,vs,⟨B,v',hB,e,hr⟩=>⟨_,v',e,⟨B,hB,rfl⟩,Zf6 hr⟩
end
def ans (b:Bool):List (Option Bool)->Bool×List Prop×List (Option Bool)
 | some x::r=>(x,[b=x],r)
 | none::r=>(b,[],r)
 | []=>(b,[],[])
theorem Zw4 {b:Bool} {orc:List (Option Bool)} (h:∀p∈(ans b orc).2.1,p):(ans b orc).1=b:=by
 match orc,h with
 | some x::r,h=>exact(h (b=x) (by simp[ans])).symm
 | none::r,h=>rfl
 | [],h=>rfl
def fixB (x:SV) (orc:List (Option Bool)):SV×List Prop×List (Option Bool):=
 match x with
 | .a (.one (.tst b))=>(.a (.one (.val (.bool (ans b orc).1))),(ans b orc).2.1,(ans b orc).2.2)
 | x=>(x,[],orc)
theorem Zp8 {D:Den} {ρ:Nm} {w:World} {x:SV} {orc:List (Option Bool)} {v:Value} (h:∀p∈(fixB x orc).2.1,p) (hv:denV D ρ w x v):denV D ρ w (fixB x orc).1 v:=by
 unfold fixB at h ⊢;split
 ·rename_i b
  dsimp only at h ⊢;rw[Zw4 h];exact⟨hv,rfl⟩
 ·exact hv
def inR (z:Int):Prop:=-9223372036854775808<=z∧z<=9223372036854775807
theorem Zmx {z:Int} (h:inR z):IntKind.i64.wrap z=z:=by
 rw[Ybi];have:=h.1;have:=h.2;omega
def intOf:Option SV->Option (IntKind×Int×Bool)
 | some (.a (.one (.val (.int k n))))=>some (k,n,false)
 | some (.a (.one (.sym z)))=>some (.i64,z,true)
 | some (.a (.one (.sml k z)))=>some (k,z,true)
 | _=>none
theorem Zdy {D:Den} {ρ:Nm} {w:World} {x:SV} {k:IntKind} {z:Int} {b:Bool} {v:Value} (h:intOf (some x)=some (k,z,b)) (hv:denV D ρ w x v):v=.int k z:=by
 unfold intOf at h;split at h
 ·rename_i k' n e
  cases h;cases e;simpa using hv.1
 ·rename_i z' e
  cases h;cases e;simpa[denV,denA,denU]using hv
 ·rename_i k' z' e
  cases h;cases e;simpa[denV,denA,denU]using hv
 ·cases h
def mkI (k:IntKind) (z:Int):SV:=
 match k with
 | .i64=>.a (.one (.sym z))
 | k=>.a (.one (.sml k z))
theorem Zfe {D:Den} {ρ:Nm} {w:World} (k:IntKind) (z:Int):denV D ρ w (mkI k z) (.int k z):=by
 cases k<;>rfl
def inK (k:IntKind) (z:Int):Prop:=
 match k with
 | .i64=>inR z
 | k=>k.wrap z=z
theorem Zjx {k:IntKind} {z:Int} (h:inK k z):k.wrap z=z:=by
 cases k<;>first|exact Zmx h|exact h
def arith (op:BinOp) (k:IntKind) (a b:Int):Option (SV×List Prop):=
 match op with
 | .add=>some (mkI k (a+b),[inK k (a+b)])
 | .sub=>some (mkI k (a-b),[inK k (a-b)])
 | .mul=>some (mkI k (a*b),[inK k (a*b)])
 | .quo=>some (mkI k (a.tdiv b),[b≠0,inK k (a.tdiv b)])
 | .rem=>some (mkI k (a.tmod b),[b≠0])
 | .eql=>some (.a (.one (.tst (a==b))),[])
 | .neq=>some (.a (.one (.tst (a != b))),[])
 | .lss=>some (.a (.one (.tst (decide (a<b)))),[])
 | .leq=>some (.a (.one (.tst (decide (a<=b)))),[])
 | .gtr=>some (.a (.one (.tst (decide (a>b)))),[])
 | .geq=>some (.a (.one (.tst (decide (a>=b)))),[])
 | _=>none
def symS (P:Program) (o:Oper) (get:Operand->Option SV):Option (SV×List Prop):=
 match o.op with
 | .binOp op _ x y _ => match intOf (get x), intOf (get y) with
   | some (k,a,s),some (k',b,s')=>if(s || s')&&decide (k=k') then arith op k a b else none
   | _,_=>none
 | .unOp .neg _ x => match intOf (get x) with
   | some (.i64,a,true)=>some (.a (.one (.sym (0-a))),[inR (0-a)])
   | _=>none
 | .convert src dst x => match intOf (get x) with
   | some (_, a, true) => match P.underlying src, P.underlying dst with
     | some _,some (.int k)=>some (mkI k a,[inK k a])
     | _,_=>none
   | _=>none
 | _=>none
theorem Zta {D:Den} {P:Program} {ρ:Nm} {wc w:World} {op:BinOp} {t:TypeId} {x y:Operand} {k:IntKind} {a b:Int} {r:SV} {ps:List Prop} (h:arith op k a b=some (r,ps)) (hp:∀p∈ps,p) :
  ∃v,(do eqGuard op t x y (.int k a) (.int k b);binOp op t (.int k a) (.int k b):Sem Value).run P w=.ok v w∧denV D ρ wc r v:=by
 have hg:∀(s:Sem Value),(do eqGuard op t x y (.int k a) (.int k b);s:Sem Value).run P w=s.run P w:=by
  intro s;unfold eqGuard;cases op<;>rfl
 rw[hg];unfold arith at h;split at h<;>cases h
 ·exact⟨.int k (a+b),by simp[binOp,Op.intArith,Zjx (hp (inK k (a+b)) Zs)],Zfe _ _⟩
 ·exact⟨.int k (a-b),by simp[binOp,Op.intArith,Zjx (hp (inK k (a-b)) Zs)],Zfe _ _⟩
 ·exact⟨.int k (a*b),by simp[binOp,Op.intArith,Zjx (hp (inK k (a*b)) Zs)],Zfe _ _⟩
 ·exact⟨.int k (a.tdiv b),by simp[binOp,Op.intDiv,hp (b≠0) Zs,Zjx (hp (inK k (a.tdiv b)) Zs)],Zfe _ _⟩
 ·exact⟨.int k (a.tmod b),by simp[binOp,Op.intDiv,hp (b≠0) Zs],Zfe _ _⟩
 ·exact⟨.bool (a==b),by simp[binOp,Op.intCmp],rfl⟩
 ·exact⟨.bool (a != b),by simp[binOp,Op.intCmp],rfl⟩
 ·exact⟨.bool (decide (a<b)),by simp[binOp,Op.intCmp],rfl⟩
 ·exact⟨.bool (decide (a<=b)),by simp[binOp,Op.intCmp],rfl⟩
 ·exact⟨.bool (decide (a>b)),by simp[binOp,Op.intCmp],rfl⟩
 ·exact⟨.bool (decide (a>=b)),by simp[binOp,Op.intCmp],rfl⟩
theorem Zvc {D:Den} {P:Program} {ρ:Nm} {wc w:World} {get:Operand->Option SV} {ev:Operand->Value} (hg:∀x z,get x=some z->denV D ρ wc z (ev x)) {o:Oper} {r:SV} {ps:List Prop} (h:symS P o get=some (r,ps)) (hp:∀p∈ps,p) :
  ∃v,(execOp ev o).run P w=.ok (.value v) w∧denV D ρ wc r v:=by
 have ofInt:∀{x:Operand} {k:IntKind} {z:Int} {b:Bool},intOf (get x)=some (k,z,b)->ev x=.int k z:=by
  intro x k z b hx;cases hgx:get x with
  | none=>rw[hgx]at hx;simp[intOf]at hx
  | some s=>rw[hgx]at hx;exact Zdy hx (hg _ _ hgx)
 have viaV:∀{s:Sem Value},(∃v,s.run P w=.ok v w∧denV D ρ wc r v)->∃v,(do pure (Next.value (<-s)):Sem Next).run P w=.ok (.value v) w∧denV D ρ wc r v:=by
  rintro s ⟨v,h1,h2⟩;exact⟨v,by simp only[Yar,h1,Yag,Yau],h2⟩
 unfold symS at h;split at h
 ·rename_i op t x y ty ho
  split at h
  ·rename_i k a s k' b s' ha hb
   split at h
   ·rename_i hkk
    rw[Yam,decide_eq_true_eq]at hkk;obtain⟨_,rfl⟩:=hkk;unfold execOp;rw[ho];refine viaV ?_;rw[ofInt ha,ofInt hb];exact Zta h hp
   ·cases h
  ·cases h
 ·rename_i t x ho
  split at h
  ·rename_i a ha
   cases h;unfold execOp;rw[ho];refine viaV ⟨.int .i64 (0-a),?_,rfl⟩;rw[ofInt ha];have:=Zmx (hp (inR (0-a)) Zs);simp only[Op.unary,Op.intArith,Yau,this]
  ·cases h
 ·rename_i src dst x ho
  split at h
  ·rename_i k0 a ha
   split at h
   ·rename_i ts k hs hd
    cases h;unfold execOp;rw[ho];refine viaV ⟨.int k a,?_,Zfe _ _⟩;rw[ofInt ha];have:=Zjx (hp (inK k a) Zs);simp only[convert,Yar,run_underlying hs,run_underlying hd,Yag,Conv.intToInt,Yau,this]
   ·cases h
  ·cases h
 ·cases h
def unar:List (Option Bool)->Nat×List (Option Bool)
 | some false::r=>((unar r).1+1,(unar r).2)
 | some true::r=>(0,r)
 | r=>(0,r)
def letterOf:Option SV->Option (IntKind×Int)
 | some (.a (.one (.sym z)))=>some (.i64,z)
 | some (.a (.one (.sml k z)))=>some (k,z)
 | _=>none
theorem Zlh {D:Den} {ρ:Nm} {w:World} {x:SV} {k:IntKind} {z:Int} {v:Value} (h:letterOf (some x)=some (k,z)) (hv:denV D ρ w x v):v=.int k z:=by
 unfold letterOf at h;split at h
 ·rename_i z' e
  cases h;cases e;simpa[denV,denA,denU]using hv
 ·rename_i k' z' e
  cases h;cases e;simpa[denV,denA,denU]using hv
 ·cases h
def idxS (P:Program) (o:Oper) (get:Operand->Option SV) (orc:List (Option Bool)):Option (SV×List Prop×List (Option Bool)):=
 match o.op with
 | .index t x ix => match letterOf (get ix) with
   | some (k,z)=>(indexS P t (get x) (some (.a (.one (.val (.int k (unar orc).1)))))).map λr=>(r,[z=((unar orc).1:Int)],(unar orc).2)
   | none=>none
 | .indexAddr t x ix => match letterOf (get ix) with
   | some (k,z)=>(indexAddrS P t (get x) (some (.a (.one (.val (.int k (unar orc).1)))))).map λr=>(r,[z=((unar orc).1:Int)],(unar orc).2)
   | none=>none
 | .call ⟨.builtin .min, ⟨[x, y]⟩, _⟩ => match intOf (get x), intOf (get y), orc with
   | some (k,a,s),some (k',b,s'),some true::r=>if(s || s')&&decide (k=k') then(get x).map λz=>(z,[a<=b],r) else none
   | some (k,a,s),some (k',b,s'),some false::r=>if(s || s')&&decide (k=k') then(get y).map λz=>(z,[b<=a],r) else none
   | _,_,_=>none
 | .call ⟨.builtin .max, ⟨[x, y]⟩, _⟩ => match intOf (get x), intOf (get y), orc with
   | some (k,a,s),some (k',b,s'),some true::r=>if(s || s')&&decide (k=k') then(get y).map λz=>(z,[a<=b],r) else none
   | _,_,_=>none
 | _=>none
theorem Zvd {D:Den} {P:Program} {ρ:Nm} {wc w:World} {get:Operand->Option SV} {ev:Operand->Value} (hg:∀x z,get x=some z->denV D ρ wc z (ev x)) {o:Oper} {orc orc':List (Option Bool)} {r:SV} {ps:List Prop} (h:idxS P o get orc=some (r,ps,orc')) (hp:∀p∈ps,p) :
  ∃v,(execOp ev o).run P w=.ok (.value v) w∧denV D ρ wc r v:=by
 have hl:∀{x:Operand} {k:IntKind} {z:Int},letterOf (get x)=some (k,z)->ev x=.int k z:=by
  intro x k z hx;cases hgx:get x with
  | none=>rw[hgx]at hx;simp[letterOf]at hx
  | some s=>rw[hgx]at hx;exact Zlh hx (hg _ _ hgx)
 have viaV:∀{s:Sem Value},(∃v,s.run P w=.ok v w∧denV D ρ wc r v)->∃v,(do pure (Next.value (<-s)):Sem Next).run P w=.ok (.value v) w∧denV D ρ wc r v:=by
  rintro s ⟨v,h1,h2⟩;exact⟨v,by simp only[Yar,h1,Yag,Yau],h2⟩
 have one:∀{k:IntKind} {j:Nat} {v:Value},v=.int k (j:Int)->∀s,some (SV.a (.one (.val (.int k (j:Int)))))=some s->denV D ρ wc s v:=by
  intro k j v e s hs;cases hs;exact⟨by rw[e],by simp[Value.oneCell']⟩
 unfold idxS at h;split at h
 ·rename_i t x ix ho
  split at h
  ·rename_i k z hz
   obtain⟨y,hy,e⟩:=Yad.1 h;cases e;have e1:z=((unar orc).1:Int):=hp _ Zs;have e2:=hl hz;rw[e1]at e2;unfold execOp;rw[ho];exact viaV (Zh0 (hg x) (one e2) hy)
  ·cases h
 ·rename_i t x ix ho
  split at h
  ·rename_i k z hz
   obtain⟨y,hy,e⟩:=Yad.1 h;cases e;have e1:z=((unar orc).1:Int):=hp _ Zs;have e2:=hl hz;rw[e1]at e2;unfold execOp;rw[ho];exact viaV (Zd6 (hg x) (one e2) hy)
  ·cases h
 ·rename_i x y ts ho
  have ofInt:∀{x:Operand} {k:IntKind} {z:Int} {b:Bool},intOf (get x)=some (k,z,b)->ev x=.int k z:=by
   intro x k z b hx;cases hgx:get x with
   | none=>rw[hgx]at hx;simp[intOf]at hx
   | some s=>rw[hgx]at hx;exact Zdy hx (hg _ _ hgx)
  have run:∀{k:IntKind} {a b:Int},ev x=.int k a->ev y=.int k b->(execOp ev o).run P w=.ok (.value (.int k (if b<a then b else a))) w:=by
   intro k a b e1 e2;unfold execOp;simp only[ho,resolve,Yar,Yau,Yag,invoke,builtin,Builtin.min_,Yev,Ybz,Yfp,e1,e2];rfl
  split at h
  ·rename_i k a s k' b s' r' hx hy
   split at h
   ·rename_i hc
    rw[Yam,decide_eq_true_eq]at hc;obtain⟨_,rfl⟩:=hc;obtain⟨z,hz,e⟩:=Yad.1 h;cases e;have hab:a<=b:=hp _ Zs;refine⟨_,run (ofInt hx) (ofInt hy),?_⟩;rw[if_neg Zo,<-ofInt hx];exact hg _ _ hz
   ·cases h
  ·rename_i k a s k' b s' r' hx hy
   split at h
   ·rename_i hc
    rw[Yam,decide_eq_true_eq]at hc;obtain⟨_,rfl⟩:=hc;obtain⟨z,hz,e⟩:=Yad.1 h;cases e;have hab:b<=a:=hp _ Zs;refine⟨_,run (ofInt hx) (ofInt hy),?_⟩;have e3:(if b<a then b else a)=b:=by split<;>omega
    rw[e3,<-ofInt hy];exact hg _ _ hz
   ·cases h
  ·cases h
 ·rename_i x y ts ho
  have ofInt:∀{x:Operand} {k:IntKind} {z:Int} {b:Bool},intOf (get x)=some (k,z,b)->ev x=.int k z:=by
   intro x k z b hx;cases hgx:get x with
   | none=>rw[hgx]at hx;simp[intOf]at hx
   | some s=>rw[hgx]at hx;exact Zdy hx (hg _ _ hgx)
  split at h
  ·rename_i k a s k' b s' r' hx hy
   split at h
   ·rename_i hc
    rw[Yam,decide_eq_true_eq]at hc;obtain⟨_,rfl⟩:=hc;obtain⟨z,hz,e⟩:=Yad.1 h;cases e;have hab:a<=b:=hp _ Zs;have hrun:(execOp ev o).run P w=.ok (.value (.int k (if b>a then b else a))) w:=by
     unfold execOp;simp only[ho,resolve,Yar,Yau,Yag,invoke,builtin,Builtin.max_,Yev,Ybz,Yfp,ofInt hx,ofInt hy];rfl
    refine⟨_,hrun,?_⟩;have e3:(if b>a then b else a)=b:=by split<;>omega
    rw[e3,<-ofInt hy];exact hg _ _ hz
   ·cases h
  ·cases h
 ·cases h
def rngOf:Option SV->Option (FuncId×List SA×List (Nat×Nat))
 | some (.a (.one (.clo gf caps)))=>some (gf,[],caps)
 | some (.a (.one (.bnd gf g l)))=>some (gf,[bndA g l],[])
 | _=>none
theorem Zmy {D:Den} {ρ:Nm} {w:World} {y:Option SV} {gf:FuncId} {fs:List SA} {caps:List (Nat×Nat)} (h:rngOf y=some (gf,fs,caps)) {v:Value} (hv:∀x,y=some x->denV D ρ w x v) :
  ∃us vs:List Value,v=.func (.func gf) us.toArray vs.toArray∧denAs D ρ w fs us∧adrs ρ caps vs:=by
 unfold rngOf at h;split at h
 ·cases h
  obtain⟨vs,hvs,e⟩:=hv _ rfl;exact⟨[],vs,by simpa using e,rfl,hvs⟩
 ·cases h
  obtain⟨u,e,hu⟩:=hv _ rfl;exact⟨[u],[],by simpa using e,⟨u,[],rfl,hu.up,rfl⟩,rfl⟩
 ·cases h
def callOf (P:Program) (o:Oper) (get:Operand->Option SV):Option (FuncId×List SA):=
 match o.op with
 | .call c => match c.callee with
   | .value fv => match rngOf (get fv), sargs get c.args.toList with
     | some (f,fs,caps),some args=>if entersB P f then some (f,fs++(args++capsA caps)) else none
     | _,_=>none
   | _=>none
 | _=>none
def yldOf (o:Oper) (get:Operand->Option SV):Option (Nat×List SA):=
 match o.op with
 | .call c => match c.callee with
   | .value fv => match get fv, sargs get c.args.toList with
     | some (.a (.one (.yld k))),some args=>some (k,args)
     | _,_=>none
   | _=>none
 | _=>none
def panOf (o:Oper) (get:Operand->Option SV):Option Value:=
 match o.op with
 | .panic x => match (get x).bind realV with
   | some (.iface t v)=>some (.iface t v)
   | _=>none
 | .call ⟨.builtin .panic, ⟨[x]⟩, _⟩ => match (get x).bind realV with
   | some (.iface t v)=>some (.iface t v)
   | _=>none
 | _=>none
def isDefer (o:Oper):Bool:=
 match o.op with
 | .defer _=>true
 | _=>false
def tmin (a b:Nat):Nat:=bif Nat.ble a b then a else b
theorem Zli (a b:Nat):tmin a b<=b:=by
 unfold tmin;cases h:Nat.ble a b with
 | true=>exact Yaa h
 | false=>exact Yab _
def retS (r:OpR):OpR:=⟨(fixB r.v r.orc).1,r.wr,r.obl++(fixB r.v r.orc).2.1,(fixB r.v r.orc).2.2,r.c,r.th,r.pan⟩
def opS (P : Program) (cs : CallS) (ys : YEnv) (o : Oper) (get : Operand -> Option SV) (bk : List (Nat × Blk)) (th c : Nat) (orc : List (Option Bool)) : Option (OpR × Bool) :=
 if isDefer o then none else
 match cs.op o get with
 | some x=>some (⟨x,[],[],orc,c,th,none⟩,false)
 | none=>
 match callOf P o get with
 | some (f, args) => if bk.all (λp => Nat.blt p.1 c) then (match cs.call ys f args bk c (tmin th c) orc with
   | some r=>if Nat.ble c r.c then some (retS r,true) else none
   | none=>none) else none
 | none => match yldOf o get with
   | some (k, args) => match ys.look k with
     | some h => if bk.all (λp => Nat.blt p.1 c) then (match h args bk c (tmin th c) orc with
       | some r=>if Nat.ble c r.c then some (retS r,true) else none
       | none=>none) else none
     | none=>none
   | none => match panOf o get with
     | some p=>some (⟨.no,bk,[],orc,c,th,some p⟩,false)
     | none => match idxS P o get orc with
      | some (x,ps,orc')=>some (⟨x,[],ps,orc',c,th,none⟩,false)
      | none=>match symS P o get with
       | some (x,ps)=>some (⟨(fixB x orc).1,[],ps++(fixB x orc).2.1,(fixB x orc).2.2,c,th,none⟩,false)
       | none => match effS P o get bk th c with
         | some (x,wr,c')=>if Nat.ble c c' then some (⟨x,wr,[],orc,c',th,none⟩,false) else none
         | none=>none
theorem Zc1 {α:Type} {l:List (Nat×α)} {c:Nat} (h:l.all (λp=>Nat.blt p.1 c)=true):∀k b,l.look k=some b->k<c:=by
 induction l with
 | nil=>intro k b hk;simp at hk
 | cons p r ih =>
   obtain⟨k',x⟩:=p;intro k b hk;rw[List.all_cons,Yam]at h;rw[Zaz]at hk;split at hk
   ·rename_i e
    subst e;exact of_eq_true (by rw[<-Nat.blt_eq];simpa using h.1)
   ·exact ih h.2 k b hk
theorem Sat.reth {D:Den} {w0:World} {X:Nat->Prop} {th t:Nat} {ρ:Nm} {wc w:World} {bk:List (Nat×Blk)} (h:Sat D w0 X th ρ wc w bk) (hf:∀k b,bk.look k=some b->k<t):Sat D w0 X t ρ wc w bk:=
 ⟨h.fr,h.ext,h.inj,h.lt,λk b hk=>let ⟨B,cs,h1,h2,h3,h4,_,h6⟩:=h.box k b hk;⟨B,cs,h1,h2,h3,h4,λ_ hh=>absurd hh (Nat.not_le.2 (hf k b hk.1)),h6⟩⟩
theorem Sat.tmin {D:Den} {w0:World} {X:Nat->Prop} {th c:Nat} {ρ:Nm} {wc w:World} {bk:List (Nat×Blk)} (h:Sat D w0 X th ρ wc w bk) (hf:∀k b,bk.look k=some b->k<c):Sat D w0 X (tmin th c) ρ wc w bk:=by
 unfold Go.Ex.tmin;cases hb:Nat.ble th c with
 | true=>exact h
 | false=>exact h.reth hf
theorem YOk.at {D:Den} {P:Program} {w0:World} {X:Nat->Prop}:∀{bd:Nat} {ys:YEnv} {ρ:Nm} {wc w:World} {k:Nat} {h:YS},YOk D P w0 X bd ys ρ wc w->ys.look k=some h->
  ∃B,ρ k=some B∧∀args bk c th orc r,h args bk c th orc=some r->(∀p∈r.obl,p)->∀vals,Sat D w0 X th ρ wc w bk->(∀j x,bk.look j=some x->j<c)->th<=c->
    (∀j,c<=j->j<r.c->ρ j=none)->denAs D ρ wc args vals->
    ∃fn tmps assign body,(Instr.yield B.blk vals.toArray).run P w=.ok (.round B.blk fn tmps assign body) w∧
      RoundIn (WF none) 0 P B.blk fn tmps assign body w (Post D w0 X ρ wc w bk c r)
 | _, (k', h') :: ys, ρ, wc, w, k, h, ⟨B, lp, h2, h3, _, _, h1, h4⟩, hk => by
   rw[Zaz]at hk;split at hk
   ·rename_i e
    cases hk;subst e;refine⟨B,h2,λargs bk c th orc r hh ho vals g1 g2 g3 g4 g5=>?_⟩;obtain⟨fn,tmps,assign,body,q1,q2⟩:=h4 args bk c th orc r hh ho ρ wc w vals (Nm.le.refl _) (Ext.refl _) g1 h1 g2 g3 g4 g5 h3;exact⟨fn,tmps,assign,body,q1,q2.mono λe w' hp=>hp.1⟩
   ·exact YOk.at h1 hk
section
variable {D:Den} {P:Program} {w0:World} {X:Nat->Prop} {th:Nat} {ρ:Nm} {wc w:World} {bk bkR:List (Nat×Blk)} {c:Nat} {get:Operand->Option SV} {a:Act} {cs:CallS} {ys:YEnv}
theorem Zjy {o:Oper} {orc:List (Option Bool)} {r:OpR} {cl:Bool} (he:opS P cs ys o get bkR th c orc=some (r,cl)):c<=r.c:=by
 unfold opS at he;split at he
 ·cases he
 ·split at he
  ·cases he
   exact Yab _
  split at he
  ·split at he
   ·split at he
    ·split at he
     ·rename_i h
      cases he;exact Yaa h
     ·cases he
    ·cases he
   ·cases he
  ·split at he
   ·split at he
    ·split at he
     ·split at he
      ·split at he
       ·rename_i h
        cases he;exact Yaa h
       ·cases he
      ·cases he
     ·cases he
    ·cases he
   ·split at he
    ·cases he
     exact Yab _
    ·split at he
     ·cases he
      exact Yab _
     split at he
     ·cases he
      exact Yab _
     ·split at he
      ·split at he
       ·rename_i h
        cases he;exact Yaa h
       ·cases he
      ·cases he
theorem Zmz (hcs:CallOk D P w0 X cs) {bd:Nat} (hy:YOk D P w0 X bd ys ρ wc w) (h:Sat D w0 X th ρ wc w bk) (hs:Sub bkR bk) (hg:∀x z,get x=some z->denV D ρ wc z (a.eval x)) {o:Oper} {orc:List (Option Bool)} {r:OpR} {cl:Bool}
  (he:opS P cs ys o get bkR th c orc=some (r,cl)) (hobl:∀p∈r.obl,p) (hn:∀k,c<=k->k<r.c->ρ k=none) {G:List (Nat×Blk)} {th':Nat} {ro:Option Nat} {n:Nat}
  (hcl:cl=true->(∀k b,bkR.look k=some b->k<c)->∀ρ' wc' w',Sat D w0 X r.th ρ' wc' w' (r.fin bkR)->Evo ρ wc w bkR c r.c ρ' wc' w' (r.fin bkR)->Sat D w0 X th' ρ' wc' w' G∧Evo ρ wc w bk c r.c ρ' wc' w' G)
  (hpl:cl=false->r.th=th->th'=th∧((r.pan=none∧G=r.wr++bk)∨(r.pan≠none∧(r.wr=bkR->Sub' G bk))))
  {K:Act->World->Prop} {Q:Exit->Act->World->Prop}
  (hK:r.pan=none->∀ρ' wc' w' v,denV D ρ' wc' r.v v->Sat D w0 X th' ρ' wc' w' G->Evo ρ wc w bk c r.c ρ' wc' w' G->K (a.put o.dst v) w')
  (hP:∀p,r.pan=some p->∀ρ' wc' w',Sat D w0 X th' ρ' wc' w' G->Evo ρ wc w bk c r.c ρ' wc' w' G->Q (.panic [{v:=p,recovered:=false}]) a w'):o.wpIn (WF ro) n P a w K Q:=by
 refine⟨λ_ _=>trivial,?_⟩;unfold opS at he;split at he
 ·cases he
 rename_i hdf;rw[Oper.semAt_eq _ _ _ (λc hc=>by rw[isDefer,hc]at hdf;simp at hdf)]
 have fin:∀{r':OpR} {e:Ending} {w':World},r=retS r'->(∀ρ' wc' w',Sat D w0 X r'.th ρ' wc' w' (r'.fin bkR)->Evo ρ wc w bkR c r'.c ρ' wc' w' (r'.fin bkR)->Sat D w0 X th' ρ' wc' w' G∧Evo ρ wc w bk c r'.c ρ' wc' w' G)->Post D w0 X ρ wc w bkR c r' e w'->
   (match e,w' with
    | .returned v,w''=>K (a.put o.dst v) w''
    | .panicked chain,w''=>Q (.panic chain) a w''
    | .outgrown,_=>LetsOut Q):=by
  intro r' e w' hr hm ⟨v,ρ',wc',hend,hv,hS,hE⟩;subst hr;obtain⟨k1,k2⟩:=hm ρ' wc' w' hS hE;unfold OpR.ends at hend;split at hend
  ·rename_i hp
   subst hend;exact hK hp ρ' wc' w' v (Zp8 (λp hp=>hobl p (Ydv _ hp)) hv) k1 k2
  ·rename_i p hp
   subst hend;exact hP p hp ρ' wc' w' k1 k2
 split at he
 ·rename_i x hx
  obtain⟨rfl,rfl⟩:(⟨x,[],[],orc,c,th,none⟩:OpR)=r∧false=cl:=by simpa using he
  obtain⟨rfl,hG⟩:=hpl rfl rfl;obtain rfl:G=bk:=by
   rcases hG with ⟨_,h2⟩|⟨h2,_⟩
   ·exact h2
   ·exact absurd rfl h2
  obtain⟨v,h1,h2⟩:=hcs.op o get x hx ρ wc w a.eval h.fr hg;rw[h1,Oper.uponIn_value];exact hK rfl ρ wc w v h2 h (Evo.refl _ _ _ _ _)
 split at he
 ·rename_i f args hcall
  split at he
  ·rename_i hall
   split at he
   ·rename_i r' hr
    split at he
    ·rename_i hle
     obtain⟨rfl,rfl⟩:retS r'=r∧true=cl:=by simpa using he
     have hlt:=Zc1 hall;unfold callOf at hcall;split at hcall
     ·rename_i cc ho
      split at hcall
      ·rename_i fv hcal
       split at hcall
       ·rename_i gf fs caps sa hfv hsa
        split at hcall
        ·rename_i hen
         obtain⟨rfl,rfl⟩:gf=f∧fs++(sa++capsA caps)=args:=by simpa using hcall
         obtain⟨us,vs,e2,hus,hvs⟩:=Zmy hfv (hg fv);have hargs:=hus.append ((Zip hg hsa).append (Zf6 (D:=D) (w:=wc) hvs));have hx:(execOp a.eval o).run P w=.ok (.enter gf (us++(cc.args.toList.map a.eval++vs)).toArray) w:=by
          unfold execOp;simp only[ho,resolve,hcal,Deferred.ofValue,e2,Yar,Yau,Yag,invoke];rw[Zfd hen];congr 2
          apply Yee.1;simp
         rw[hx,Oper.uponIn_enter];refine⟨(λhh=>by cases hh),callsIn_WF.2 ((hcs.call _ _ _ _ _ _ _ _ hr (λp hp=>hobl p (Ycy _ hp)) bd ρ wc w _ ((h.sub hs).tmin hlt) hy hlt (Zli _ _) hn hargs).mono ?_)⟩;intro e w' hp;exact fin rfl (hcl rfl hlt) hp
        ·cases hcall
       ·cases hcall
      ·cases hcall
     ·cases hcall
    ·cases he
   ·cases he
  ·cases he
 ·split at he
  ·rename_i k args hyl
   split at he
   ·rename_i hd hhd
    split at he
    ·rename_i hall
     split at he
     ·rename_i r' hr
      split at he
      ·rename_i hle
       obtain⟨rfl,rfl⟩:retS r'=r∧true=cl:=by simpa using he
       have hlt:=Zc1 hall;unfold yldOf at hyl;split at hyl
       ·rename_i cc ho
        split at hyl
        ·rename_i fv hcal
         split at hyl
         ·rename_i k' sa hfv hsa
          obtain⟨rfl,rfl⟩:k'=k∧sa=args:=by simpa using hyl
          obtain⟨B,hB,e1⟩:=hg _ _ hfv;have e2:a.eval fv=.func (.yield B.blk) #[] #[]:=by simpa using e1
          have hargs:=Zip (D:=D) (wc:=wc) hg hsa;obtain⟨B',hB',hround⟩:=hy.at hhd;cases hB.symm.trans hB';obtain⟨fn,tmps,assign,body,q1,q2⟩:=hround _ _ _ _ _ _ hr (λp hp=>hobl p (Ycy _ hp)) _ ((h.sub hs).tmin hlt) hlt (Zli _ _) hn hargs;have hx:(execOp a.eval o).run P w=.ok (.round B.blk fn tmps assign body) w:=by
           rw[<-q1];unfold execOp;simp only[ho,resolve,hcal,Deferred.ofValue,e2,Yar,Yau,Yag,invoke];congr 2
           apply Yee.1;simp
          rw[hx,Oper.uponIn_round];refine⟨(λhh=>by cases hh),?_⟩;refine RoundIn.mono (F:=WF ro) (R:=Post D w0 X ρ wc w bkR c r') ⟨trivial,λc' cs' hroom=>?_⟩ λe w' hp=>fin rfl (hcl rfl hlt) hp;exact q2.2 c' cs' (λd hd=>by cases hd)
         ·cases hyl
        ·cases hyl
       ·cases hyl
      ·cases he
     ·cases he
    ·cases he
   ·cases he
  ·split at he
   ·rename_i p hpan
    obtain⟨rfl,rfl⟩:(⟨.no,bkR,[],orc,c,th,some p⟩:OpR)=r∧false=cl:=by simpa using he
    obtain⟨rfl,hG⟩:=hpl rfl rfl;have hG:Sub' G bk:=by
     rcases hG with ⟨h1,_⟩|⟨_,h2⟩
     ·cases h1
     ·exact h2 rfl
    have real:∀{x:Operand} {u:Value},(get x).bind realV=some u->a.eval x=u:=by
     intro x u hx;obtain⟨z,hz,hr⟩:=Ybg.1 hx;exact Zgp hr (hg _ _ hz)
    have hrun:(execOp a.eval o).run P w=.halt (.panic p) w:=by
     unfold panOf at hpan;split at hpan
     ·rename_i x ho
      split at hpan
      ·rename_i t v hx
       cases hpan;unfold execOp;simp only[ho,real hx];rfl
      ·cases hpan
     ·rename_i x ts ho
      split at hpan
      ·rename_i t v hx
       cases hpan;unfold execOp;simp only[ho,resolve,Yar,Yau,Yag,invoke,builtin,Yev,Ybz,Yfp,real hx];rfl
      ·cases hpan
     ·cases hpan
    rw[hrun,Oper.uponIn_panic];exact hP p rfl ρ wc w (h.sub' hG) ((Evo.refl ρ wc w bk c).sub' hG)
   ·split at he
    ·rename_i x ps orc' hidx
     obtain⟨rfl,rfl⟩:(⟨x,[],ps,orc',c,th,none⟩:OpR)=r∧false=cl:=by simpa using he
     obtain⟨rfl,hG⟩:=hpl rfl rfl;obtain rfl:G=bk:=by
      rcases hG with ⟨_,h2⟩|⟨h2,_⟩
      ·exact h2
      ·exact absurd rfl h2
     obtain⟨v,h1,h2⟩:=Zvd (P:=P) (w:=w) hg hidx hobl;rw[h1,Oper.uponIn_value];exact hK rfl ρ wc w v h2 h (Evo.refl _ _ _ _ _)
    split at he
    ·rename_i x ps hsym
     obtain⟨rfl,rfl⟩:(⟨(fixB x orc).1,[],ps++(fixB x orc).2.1,(fixB x orc).2.2,c,th,none⟩:OpR)=r∧false=cl:=by simpa using he
     obtain⟨rfl,hG⟩:=hpl rfl rfl;obtain rfl:G=bk:=by
      rcases hG with ⟨_,h2⟩|⟨h2,_⟩
      ·exact h2
      ·exact absurd rfl h2
     obtain⟨v,h1,h2⟩:=Zvc (P:=P) (w:=w) hg hsym (λp hp=>hobl p (Ycy _ hp));rw[h1,Oper.uponIn_value];exact hK rfl ρ wc w v (Zp8 (λp hp=>hobl p (Ydv _ hp)) h2) h (Evo.refl _ _ _ _ _)
    ·split at he
     ·rename_i x wr c' heff
      split at he
      ·obtain⟨rfl,rfl⟩:(⟨x,wr,[],orc,c',th,none⟩:OpR)=r∧false=cl:=by simpa using he
       obtain⟨rfl,hG⟩:=hpl rfl rfl;obtain rfl:G=wr++bk:=by
        rcases hG with ⟨_,h2⟩|⟨h2,_⟩
        ·exact h2
        ·exact absurd rfl h2
       obtain⟨nx,v,w',ρ',hrun,hnx,hv,k1,k2⟩:=Zvb h hs hg heff hn;rw[hrun];rcases hnx with rfl|⟨rfl,rfl⟩
       ·exact hK rfl ρ' wc w' v hv k1 k2
       ·exact hK rfl ρ' wc w' undef hv k1 k2
      ·cases he
     ·cases he
end
/-! ### slots -/
def putT (tm:List (Nat×SV)) (d:Option Tmp) (x:SV):List (Nat×SV):=
 match d with
 | some t=>(t,x)::tm
 | none=>tm
def dstOk (n:Nat) (d:Option Tmp):Bool:=
 match d with
 | some t=>Nat.blt t n
 | none=>true
theorem TSat.put {D:Den} {ρ:Nm} {w:World} {n:Nat} {tm:List (Nat×SV)} {a:Act} (h:TSat D ρ w n tm a) {d:Option Tmp} (hd:dstOk n d=true) {x:SV} {v:Value} (hv:denV D ρ w x v) :
  TSat D ρ w n (putT tm d x) (a.put d v):=by
 cases d with
 | none=>exact h
 | some t =>
   have ht:t<a.tmps.size:=by rw[h.size];exact Nat.blt_eq▸(show Nat.blt t n=true from hd)
   refine⟨by simp[Act.put,h.size],λs y hs=>?_⟩;unfold putT at hs;dsimp only at hs;rw[Zaz]at hs;show ∃v',(a.tmps.setIfInBounds t v)[s]? = some v'∧_;by_cases e:s=t
   ·rw[if_pos e]at hs
    cases hs;subst e;exact⟨v,by simp[ht],hv⟩
   ·rw[if_neg e]at hs
    obtain⟨v',h1,h2⟩:=h.at_ s y hs;exact⟨v',by rw[Array.getElem?_setIfInBounds,if_neg (λh=>e h.symm)];exact h1,h2⟩
def wantS (ops:Array Oper) (o:Oper) (tm:List (Nat×SV)) (orc:List (Option Bool)):Option (Bool×List Prop×List (Option Bool)):=
 match o.guard with
 | none=>some (true,[],orc)
 | some (j, want) => match (ops[j]?).bind (·.dst) with
   | some d => match tm.look d with
     | some (.a (.one (.val (.bool b))))=>some (b==want,[],orc)
     | some (.tup _)=>some (false,[],orc)
     | _=>none
   | none=>none
theorem Zep {D:Den} {ρ:Nm} {w:World} {n:Nat} {tm:List (Nat×SV)} {a:Act} (h:TSat D ρ w n tm a) {ops:Array Oper} {o:Oper} {orc orc':List (Option Bool)} {b:Bool} {ps:List Prop}
  (hw:wantS ops o tm orc=some (b,ps,orc')) (hps:∀p∈ps,p):Region.wanted o (yielded ops a.tmps)=b:=by
 unfold wantS at hw;unfold Region.wanted;split at hw
 ·rename_i hg
  cases hw;rw[hg]
 ·rename_i j want hg
  rw[hg];dsimp only;split at hw
  ·rename_i d hd
   split at hw
   ·rename_i b' hb
    obtain⟨v,hv,hden⟩:=h.at_ d _ hb;have hvb:v=.bool b':=by simpa using hden.1
    subst hvb;cases hw;unfold yielded;rw[hd,Yfq,hv];cases b'<;>cases want<;>rfl
   ·rename_i l hb
    cases hw;obtain⟨v,hv,vs,rfl,_⟩:=h.at_ d _ hb;unfold yielded;rw[hd,Yfq,hv];rfl
   ·cases hw
  ·cases hw
end
section
inductive DF where
 | clo (f:FuncId) (caps:List (Nat×Nat))
 | col (k:Nat)
structure Stt where
 tm:List (Nat×SV)
 bk:List (Nat×Blk)
 c:Nat
 th:Nat
 orc:List (Option Bool)
 df:List DF
def DfOk (P:Program) (m:Nat) (ρ:Nm) (w:World):List DF->List Deferred->Prop
 | [],ds=>ds=[]
 | .clo f caps::r,ds=>∃(vs:List Value) (d:List Deferred),ds = {target:=.fn (.func f) vs.toArray,args:=#[]}::d∧adrs ρ caps vs∧entersB P f=true∧DfOk P m ρ w r d
 | .col k::r,ds=>∃(B:Pl) (d:List Deferred),ds = {target:=.collected B.blk,args:=#[]}::d∧ρ k=some B∧m<=B.blk∧(∀x∈d,∀b,x.target=.collected b->b<B.blk)∧w.heap[B.blk]? = some (Obj.deferred (some []))∧DfOk P m ρ w r d
theorem DfOk.step {P:Program} {m:Nat} {ρ ρ':Nm} {w w':World} (hr:ρ.le ρ') :
  ∀{df:List DF} {ds:List Deferred},(∀l:Nat,(∃x∈ds,x.target=.collected l)->w.heap[l]? = some (Obj.deferred (some []))->w'.heap[l]? = some (Obj.deferred (some [])))->DfOk P m ρ w df ds->DfOk P m ρ' w' df ds
 | [],ds,hl,h=>h
 | .clo f caps :: r, ds, hl, ⟨vs, d, h1, h2, h3, h4⟩ => by
   subst h1;exact⟨vs,d,rfl,h2.mono hr,h3,h4.step hr λl ⟨x,hx,e⟩=>hl l ⟨x,Ybs _ hx,e⟩⟩
 | .col k :: r, ds, hl, ⟨B, d, h1, h2, hm, hb, h3, h4⟩ => by
   subst h1;exact⟨B,d,rfl,hr k B h2,hm,hb,hl _ ⟨_,Ycl ..,rfl⟩ h3,h4.step hr λl ⟨x,hx,e⟩=>hl l ⟨x,Ybs _ hx,e⟩⟩
theorem DfOk.low {P:Program} {m N:Nat} {ρ:Nm} {w:World} (hN:∀k B,ρ k=some B->B.blk<N):∀{df:List DF} {ds:List Deferred},DfOk P m ρ w df ds->∀x∈ds,∀b,x.target=.collected b->b<N
 | [],ds,h,x,hx,b,e=>by rw[show ds=[] from h]at hx;cases hx
 | .clo f caps :: r, ds, ⟨vs, d, h1, h2, h3, h4⟩, x, hx, b, e => by
   rw[h1]at hx;rcases Ycp.1 hx with rfl|hx
   ·cases e
   ·exact h4.low hN x hx b e
 | .col k :: r, ds, ⟨B, d, h1, h2, hm, hb, h3, h4⟩, x, hx, b, e => by
   rw[h1]at hx;rcases Ycp.1 hx with rfl|hx
   ·cases e;exact hN k B h2
   ·exact h4.low hN x hx b e
theorem DfOk.evo {D:Den} {P:Program} {w0:World} {X:Nat->Prop} {th:Nat} {ρ ρ':Nm} {wc w wc' w':World} {bk bk':List (Nat×Blk)} {c c':Nat} {df:List DF} {ds:List Deferred} {m:Nat} (h:DfOk P m ρ w df ds)
  (hS:Sat D w0 X th ρ wc w bk) (e:Evo ρ wc w bk c c' ρ' wc' w' bk'):DfOk P m ρ' w' df ds:=
 h.step e.rho λl _ hl=>hS.stays e hl rfl
def deferOf (P:Program) (o:Oper) (get:Operand->Option SV):Option DF:=
 match o.op with
 | .defer c => match c.callee, c.args.toList with
   | .value fv, [] => match get fv with
     | some (.a (.one (.clo f caps)))=>if entersB P f then some (.clo f caps) else none
     | _=>none
   | _,_=>none
 | _=>none
def exP:Option Value->Exit
 | none=>.normal
 | some p=>.panic [{v:=p,recovered:=false}]
def seqS (P:Program) (cs:CallS) (ys:YEnv) (rd:Bool) (ops:Array Oper) (n:Nat):List Oper->Stt->Option (Stt×List Prop×Option Value)
 | [],s=>some (s,[],none)
 | o :: rest, s => match wantS ops o s.tm s.orc with
   | some (true, ps, orc) => if dstOk n o.dst then (match deferOf P o (getS s.tm) with
     | some d => if rd then none else (match seqS P cs ys rd ops n rest ⟨putT s.tm o.dst (.tup []), s.bk, s.c, s.th, orc, d :: s.df⟩ with
       | some (s',q,p)=>some (s',ps++q,p)
       | none=>none)
     | none => (match opS P cs ys o (getS s.tm) s.bk s.th s.c orc with
       | some (r, _) => (match r.pan with
         | some p=>some (⟨s.tm,r.wr,r.c,r.th,r.orc,s.df⟩,ps++r.obl,some p)
         | none => (match seqS P cs ys rd ops n rest ⟨putT s.tm o.dst r.v, r.wr ++ s.bk, r.c, r.th, r.orc, s.df⟩ with
           | some (s',q,p)=>some (s',ps++(r.obl++q),p)
           | none=>none))
       | none=>none)) else none
   | some (false, ps, orc) => if dstOk n o.dst then (match seqS P cs ys rd ops n rest ⟨putT s.tm o.dst (.tup []), s.bk, s.c, s.th, orc, s.df⟩ with
     | some (s',q,p)=>some (s',ps++q,p)
     | none=>none) else none
   | none=>none
def Goes (D:Den) (P:Program) (w0:World) (X:Nat->Prop) (mm n:Nat) (ρ:Nm) (wc w:World) (s s':Stt) (Q:Act->World->Prop):Prop:=
 ∀ρ' wc' w' a',Sat D w0 X s'.th ρ' wc' w' s'.bk->TSat D ρ' wc' n s'.tm a'->DfOk P mm ρ' w' s'.df a'.defers->Evo ρ wc w s.bk s.c s'.c ρ' wc' w' s'.bk->Q a' w'
section
variable {D:Den} {P:Program} {w0:World} {X:Nat->Prop} {cs:CallS} {ys:YEnv}
theorem Zgs {rd:Bool} {ops:Array Oper} {n:Nat}:∀{l:List Oper} {s s':Stt} {q:List Prop} {p:Option Value},seqS P cs ys rd ops n l s=some (s',q,p)->s.c<=s'.c
 | [],s,s',q,p,h=>by cases h;exact Yab _
 | o :: rest, s, s', q, p, h => by
   unfold seqS at h;split at h
   ·split at h
    ·split at h
     ·split at h
      ·cases h
      ·split at h
       ·rename_i s2 q2 p2 h2
        cases h;have k:=Zgs h2;exact k
       ·cases h
     ·split at h
      ·rename_i r cl hr
       split at h
       ·cases h
        exact Zjy hr
       ·split at h
        ·rename_i s2 q2 p2 h2
         cases h;exact Yak (Zjy hr) (Zgs h2)
        ·cases h
      ·cases h
    ·cases h
   ·split at h
    ·split at h
     ·rename_i s2 q2 p2 h2
      cases h;have k:=Zgs h2;exact k
     ·cases h
    ·cases h
   ·cases h
theorem Zgt {ρ:Nm} {w:World}:denV D ρ w (.tup []) undef:=⟨[],rfl,rfl⟩
theorem Ziq (hcs : CallOk D P w0 X cs) {bd mm : Nat} {rd : Bool} {ro : Option Nat} (hrd : rd = false -> ro = none) {m : Nat} {ops : Array Oper} {n : Nat} {Q : Exit -> Act -> World -> Prop} : ∀ {l : List Oper} {s s' : Stt} {q : List Prop} {pn : Option Value} {ρ : Nm} {wc w : World} {a : Act},
  seqS P cs ys rd ops n l s=some (s',q,pn)->(∀p∈q,p)->
  Sat D w0 X s.th ρ wc w s.bk->YOk D P w0 X bd ys ρ wc w->TSat D ρ wc n s.tm a->DfOk P mm ρ w s.df a.defers->(∀k,s.c<=k->k<s'.c->ρ k=none)->
  Goes D P w0 X mm n ρ wc w s s' (Q (exP pn))->wpListIn (WF ro) m P ops Q l a w
 | [], s, s', q, pn, ρ, wc, w, a, h, hq, hS, hY, hT, hD, hn, hK => by
   cases h;exact hK ρ wc w a hS hT hD (Evo.refl _ _ _ _ _)
 | o :: rest, s, s', q, pn, ρ, wc, w, a, h, hq, hS, hY, hT, hD, hn, hK => by
   unfold seqS at h;unfold wpListIn;split at h
   ·rename_i ps orc hw
    split at h
    ·rename_i hd
     split at h
     ·rename_i df hdf
      split at h
      ·cases h
      ·rename_i hrd'
       have hro:ro=none:=hrd (by simpa using hrd');subst hro;split at h
       ·rename_i s2 q2 p2 h2
        cases h;rw[if_pos (Zep hT hw λp hp=>hq p (by simp[hp]))];refine⟨λ_ _=>trivial,?_⟩;unfold deferOf at hdf;split at hdf
        ·rename_i cc ho
         split at hdf
         ·rename_i fv hcal hargs
          split at hdf
          ·rename_i f caps hfv
           split at hdf
           ·rename_i hen
            cases hdf;obtain⟨vs,hvs,e1⟩:=hT.get hfv;have e2:a.eval fv=.func (.func f) #[] vs.toArray:=by simpa using e1
            have hx:(o.semAt none a.eval).run P w=.ok (.defer {target:=.fn (.func f) vs.toArray,args:=#[]}) w:=by
             rw[Oper.semAt_none];unfold execOp;have ha:cc.args = #[]:=by apply Yee.1;rw[hargs]
             simp only[ho,resolve,hcal,Deferred.ofValue,e2,ha,Yar,Yau,Yag];simp
            show Oper.uponIn _ _ _ _ _ _ _ ((o.semAt (WF none).round a.eval).run P w);rw[show(WF none).round=none from rfl,hx,Oper.uponIn_defer];refine Ziq (mm:=mm) hcs hrd h2 (λp hp=>hq p (by simp[hp])) hS hY (TSat.put (a:={a with defers:=_::a.defers}) ⟨hT.size,hT.at_⟩ hd Zgt) ?_ hn ?_
            ·have e3:(({a with defers:={target:=.fn (.func f) vs.toArray,args:=#[]}::a.defers}:Act).put o.dst undef).defers = {target:=.fn (.func f) vs.toArray,args:=#[]}::a.defers:=by
              cases o.dst<;>rfl
             rw[e3];exact⟨vs,a.defers,rfl,hvs,hen,hD⟩
            ·intro ρ2 wc2 w2 a2 k1 k2 k3 k4
             exact hK ρ2 wc2 w2 a2 k1 k2 k3 k4
           ·cases hdf
          ·cases hdf
         ·cases hdf
        ·cases hdf
       ·cases h
     ·split at h
      ·rename_i r cl hr
       have hrc:=Zjy hr;split at h
       ·rename_i p hp
        cases h;rw[if_pos (Zep hT hw λp hp=>hq p (by simp[hp]))];refine Zmz (G:=r.fin s.bk) (th':=r.th) hcs hY hS (λk b hk=>hk) (λx z hz=>hT.get hz) hr (λp hp=>hq p (by simp[hp])) hn (λ_ _ _ _ _ h1 h2=>⟨h1,h2⟩) (λ_ ht=>⟨ht,?_⟩) (λhnn=>?_) ?_
        ·refine .inr ⟨by rw[hp];simp,λhw=>?_⟩
         unfold OpR.fin;rw[hp];dsimp only;rw[hw];exact λk b hk=>hk
        ·rw[hp]at hnn;cases hnn
        ·intro p' hp' ρ' wc' w' k1 k2
         rw[hp]at hp';cases hp';have ef:r.fin s.bk=r.wr:=by unfold OpR.fin;rw[hp]
         rw[ef]at k1 k2;exact hK ρ' wc' w' a k1 (hT.mono k2.rho k2.ext) (hD.evo hS k2) k2
       ·rename_i hp
        split at h
        ·rename_i s2 q2 p2 h2
         cases h;have hcc:=Zgs h2;have ef:r.fin s.bk=r.wr++s.bk:=by unfold OpR.fin;rw[hp]
         rw[if_pos (Zep hT hw λp hp=>hq p (by simp[hp]))];refine Zmz (G:=r.fin s.bk) (th':=r.th) hcs hY hS (λk b hk=>hk) (λx z hz=>hT.get hz) hr (λp hp=>hq p (by simp[hp])) (λk h1 h2=>hn k h1 (by dsimp only at hcc;omega)) (λ_ _ _ _ _ h1 h2=>⟨h1,h2⟩) (λ_ ht=>⟨ht,.inl ⟨hp,ef⟩⟩) ?_ (λp' hp'=>?_)
         ·intro _ ρ' wc' w' v hv hS' hE
          rw[ef]at hS' hE;refine Ziq (mm:=mm) hcs hrd h2 (λp hp=>hq p (by simp[hp])) hS' (hY.evo hS hE) ((hT.mono hE.rho hE.ext).put hd hv) ?_ (λk h1 h2=>?_) ?_
          ·have e3:(a.put o.dst v).defers=a.defers:=by cases o.dst<;>rfl
           rw[e3];exact hD.evo hS hE
          ·dsimp only at h1
           rw[hE.dom k (.inr h1)];exact hn k Zo h2
          ·intro ρ2 wc2 w2 a2 k1 k2 k3 k4
           exact hK ρ2 wc2 w2 a2 k1 k2 k3 (hE.trans k4 hS.named)
         ·rw[hp]at hp';cases hp'
        ·cases h
      ·cases h
    ·cases h
   ·rename_i ps orc hw
    split at h
    ·rename_i hd
     split at h
     ·rename_i s2 q2 p2 h2
      cases h;rw[if_neg (by rw[Zep hT hw λp hp=>hq p (by simp[hp])];simp)];refine⟨λ_ _=>trivial,?_⟩;refine Ziq (mm:=mm) hcs hrd h2 (λp hp=>hq p (by simp[hp])) hS hY (hT.put hd Zgt) ?_ hn ?_
      ·have e3:(a.put o.dst undef).defers=a.defers:=by cases o.dst<;>rfl
       rw[e3];exact hD
      ·intro ρ2 wc2 w2 a2 k1 k2 k3 k4
       exact hK ρ2 wc2 w2 a2 k1 k2 k3 k4
     ·cases h
    ·cases h
   ·cases h
end
/-! ### any order: lists of what was written,by those that came up -/
def accAt {α:Type} (ws:List (List (Nat×α))) (L:Nat->Bool) (l0:List (Nat×α)):Nat->List (Nat×α)
 | 0=>l0
 | m+1=>(if L m then ws.getD m [] else[])++accAt ws L l0 m
section
variable {α:Type} {ws:List (List (Nat×α))} {l0:List (Nat×α)}
abbrev wrote (ws:List (List (Nat×α))) (j k:Nat):Prop:=((ws.getD j []).look k).isSome=true
theorem Zh1 (x:List (Nat×α)) (L:Nat->Bool):∀m,accAt (x::ws) L l0 (m+1)=accAt ws (λj=>L (j+1)) ((if L 0 then x else[])++l0) m
 | 0=>rfl
 | m + 1 => by
   have ih:=Zh1 x L m;show(if L (m+1) then(x::ws).getD (m+1) [] else[])++accAt (x::ws) L l0 (m+1)=_;rw[ih];rfl
theorem Zb3 (L:Nat->Bool) (m k:Nat):(accAt ws L l0 (m+1)).look k=if L m=true∧wrote ws m k then(ws.getD m []).look k else(accAt ws L l0 m).look k:=by
 show((if L m then ws.getD m [] else[])++accAt ws L l0 m).look k=_;rw[Zbc];unfold wrote;cases hL:L m with
 | false=>simp
 | true =>
   rw[if_pos rfl];generalize ws.getD m []=x;cases hw:x.look k with
   | none=>rw[if_neg Zs];rfl
   | some b=>rw[if_pos ⟨rfl,rfl⟩];rfl
theorem Zm0 {L:Nat->Bool} {i k:Nat} (hi:L i=false) (hlo:∀j,j<i->wrote ws j k->L j=true) (hhi:∀j,i<j->wrote ws j k->L j=false) :
  ∀N,i<=N->(accAt ws L l0 N).look k=(accAt ws (λ_=>true) l0 i).look k:=by
 have lo:∀m,m<=i->(accAt ws L l0 m).look k=(accAt ws (λ_=>true) l0 m).look k:=by
  intro m;induction m with
  | zero=>intro _;rfl
  | succ m ih =>
    intro hm;rw[Zb3,Zb3,ih Zo];by_cases hw:wrote ws m k
    ·rw[if_pos ⟨hlo m Zo hw,hw⟩,if_pos ⟨rfl,hw⟩]
    ·rw[if_neg (λh=>hw h.2),if_neg (λh=>hw h.2)]
 intro N;induction N with
 | zero => intro hN; obtain rfl : i = 0 := by omega
           exact lo 0 Zo
 | succ N ih =>
   intro hN;by_cases he:i=N+1
   ·subst he;exact lo _ (Yab _)
   ·rw[Zb3,if_neg,ih Zo]
    rintro⟨h1,h2⟩;by_cases h3:i=N
    ·subst h3;rw[hi]at h1;cases h1
    ·rw[hhi N Zo h2]at h1;cases h1
theorem Zp9 {L:Nat->Bool} {i k:Nat} (hi:L i=false) (hhi:∀j,i<j->wrote ws i k->wrote ws j k->L j=false) :
  ∀N,i<N->(accAt ws (λj=>j==i || L j) l0 N).look k=((ws.getD i []).look k).or ((accAt ws L l0 N).look k):=by
 have lo:∀m,m<=i->(accAt ws (λj=>j==i || L j) l0 m).look k=(accAt ws L l0 m).look k:=by
  intro m;induction m with
  | zero=>intro _;rfl
  | succ m ih =>
    intro hm;have e:(m==i)=false:=by simp;omega
    rw[Zb3,Zb3,ih Zo];simp only[e,Yeo]
 intro N;induction N with
 | zero=>intro h;omega
 | succ N ih =>
   intro hN;by_cases he:i=N
   ·subst he
    rw[Zb3,Zb3,lo i (Yab _),if_neg (show ¬(L i=true∧wrote ws i k) from λh=>by rw[hi]at h;cases h.1)];by_cases hw:wrote ws i k
    ·rw[if_pos ⟨Zs,hw⟩]
     obtain⟨b,hb⟩:=Yct.1 hw;rw[hb];rfl
    ·rw[if_neg (λh=>hw h.2)]
     have:(ws.getD i []).look k=none:=by
      unfold wrote at hw;cases h:(ws.getD i []).look k with
      | none=>rfl
      | some b=>rw[h]at hw;simp at hw
     rw[this];rfl
   ·have e:(N==i)=false:=by simp;omega
    rw[Zb3,Zb3,ih Zo];simp only[e,Yeo];by_cases hw:L N=true∧wrote ws N k
    ·rw[if_pos hw,if_pos hw]
     have:(ws.getD i []).look k=none:=by
      cases h:(ws.getD i []).look k with
      | none=>rfl
      | some b =>
        have:=hhi N Zo (by unfold wrote;rw[h];rfl) hw.2;rw[this]at hw;cases hw.1
     rw[this,Ydd]
    ·rw[if_neg hw,if_neg hw]
end
end
inductive Kd where
 | go
 | pan (p:Value) (pw:List (Nat×Blk))
 | never
structure Rec where
 dst:Option Tmp
 v:SV
 wr:List (Nat×Blk)
 tR:List Nat
 bR:List Nat
 c0:Nat
 c1:Nat
 kd:Kd
def idsU0:U->List Nat
 | .ptr k _=>[k]
 | .slc k _ _ _=>[k]
 | .sli k _ _=>[k]
 | .slx k _ _ _=>[k]
 | .own k _ _=>[k]
 | .clo _ caps=>caps.map (·.1)
 | _=>[]
def idsU:U->List Nat
 | .bnd _ _ l=>l.flatMap idsU0
 | .ptr k _=>[k]
 | .slc k _ _ _=>[k]
 | .sli k _ _=>[k]
 | .slx k _ _ _=>[k]
 | .own k _ _=>[k]
 | .clo _ caps=>caps.map (·.1)
 | _=>[]
def idsA (x:SA):List Nat:=(unitsA x).flatMap idsU
def idsV (x:Option SV):List Nat:=
 match x with
 | some (.a s)=>idsA s
 | _=>[]
def mem (l:List Nat) (k:Nat):Bool:=l.any (Nat.beq k)
theorem mem_iff {l:List Nat} {k:Nat}:mem l k=true↔k∈l:=by
 unfold mem;rw[Yft];constructor
 ·rintro⟨x,hx,he⟩
  rw[Ybe he];exact hx
 ·intro h
  exact⟨k,h,Zs⟩
def reach (bk:List (Nat×Blk)):Nat->List Nat->List Nat->List Nat
 | 0,_,seen=>seen
 | _+1,[],seen=>seen
 | n + 1, k :: r, seen => if mem seen k then reach bk n r seen else
   match bk.look k with
   | some b=>reach bk n (b.cells.flatMap idsU++r) (k::seen)
   | none=>reach bk n r seen
def blocksOf (P:Program) (ys:YEnv) (o:Oper) (get:Operand->Option SV) (bk:List (Nat×Blk)):List Nat:=
 match o.op with
 | .load _ x => match get x with
   | some (.a (.one (.ptr k _)))=>[k]
   | _=>[]
 | .store _ x _ => match get x with
   | some (.a (.one (.ptr k _)))=>[k]
   | _=>[]
 | .call c => match callOf P o get with
   | some (_,args)=>if ys.isEmpty then reach bk 1000 (args.flatMap idsA) [] else bk.map (·.1)
   | none => match yldOf o get with
     | some _=>bk.map (·.1)
     | none=>c.args.toList.flatMap λx=>idsV (get x)
 | _=>[]
def tmpsOf (ops:Array Oper) (o:Oper):List Nat:=
 (o.op.operands.toList.filterMap λ| .tmp t=>some t|_=>none)++(match o.guard with
  | some (j,_)=>((ops[j]?).bind (·.dst)).toList
  | none=>[])
def predsOf (o:Oper):List Nat:=(o.after.toList.filter (Region.binds .any)).map (·.on)
def wT (r:Rec):List (Nat×SV):=
 match r.dst with
 | some d=>[(d,r.v)]
 | none=>[]
def some_ {α:Type} (ks:List Nat) (l:List (Nat×α)):List (Nat×α):=l.filter λp=>mem ks p.1
theorem Zdf {α:Type} (ks:List Nat) (k:Nat):∀l:List (Nat×α),(some_ ks l).look k=if mem ks k then l.look k else none
 | []=>by simp[some_]
 | (k', x) :: r => by
   have ih:=Zdf ks k r;unfold some_ at ih ⊢;rw[List.filter_cons];dsimp only;by_cases h:mem ks k'
   ·rw[if_pos h,Zaz,Zaz,ih]
    by_cases e:k=k'
    ·subst e;rw[if_pos rfl,if_pos rfl,if_pos h]
    ·rw[if_neg e,if_neg e]
   ·rw[if_neg h,ih,Zaz]
    by_cases e:k=k'
    ·subst e;rw[if_neg h,if_neg h]
    ·rw[if_neg e]
def recS (P:Program) (cs:CallS) (ys:YEnv) (ops:Array Oper) (n:Nat):List Oper->Nat->List Nat->Stt->Option (List Rec×Stt×List Prop×Option Value)
 | [],_,_,s=>some ([],s,[],none)
 | o :: rest, i, dead, s =>
   if(predsOf o).any (mem dead) then(match recS P cs ys ops n rest (i+1) (i::dead) s with
    | some (rs,s',q,p)=>some (⟨none,.no,[],[],[],s.c,s.c,.never⟩::rs,s',q,p)
    | none=>none)
   else
   let tR:=tmpsOf ops o
   let tmr:=some_ tR s.tm
   let bR:=blocksOf P ys o (getS tmr) s.bk
   match wantS ops o tmr s.orc with
   | some (true, ps, orc) => if dstOk n o.dst then (match opS P cs ys o (getS tmr) (some_ bR s.bk) s.th s.c orc with
     | some (r, _) => (match r.pan with
       | some p => (match dead with
         | [] => (match recS P cs ys ops n rest (i + 1) [i] ⟨s.tm, s.bk, r.c, s.th, r.orc, s.df⟩ with
           | some (rs,s',q,none)=>some (⟨none,.no,[],tR,bR,s.c,r.c,.pan p r.wr⟩::rs,s',ps++(r.obl++q),some p)
           | _=>none)
         | _::_=>none)
       | none => (match recS P cs ys ops n rest (i + 1) dead ⟨putT s.tm o.dst r.v, r.wr ++ s.bk, r.c, s.th, r.orc, s.df⟩ with
         | some (rs,s',q,p)=>some (⟨o.dst,r.v,r.wr,tR,bR,s.c,r.c,.go⟩::rs,s',ps++(r.obl++q),p)
         | none=>none))
     | none=>none) else none
   | some (false, ps, orc) => if dstOk n o.dst then (match recS P cs ys ops n rest (i + 1) dead ⟨putT s.tm o.dst (.tup []), s.bk, s.c, s.th, orc, s.df⟩ with
     | some (rs,s',q,p)=>some (⟨o.dst,.tup [],[],tR,[],s.c,s.c,.go⟩::rs,s',ps++q,p)
     | none=>none) else none
   | none=>none
def StepR (P:Program) (cs:CallS) (ys:YEnv) (ops:Array Oper) (n th:Nat) (obl:List Prop) (tm:List (Nat×SV)) (bk:List (Nat×Blk)) (o:Oper) (r:Rec):Prop:=
 dstOk n o.dst=true∧∃orc orc' ps b,wantS ops o (some_ r.tR tm) orc=some (b,ps,orc')∧(∀p∈ps,p∈obl)∧
  ((r.kd=.go∧r.dst=o.dst∧b=true∧∃(x:OpR) (cl:Bool),opS P cs ys o (getS (some_ r.tR tm)) (some_ r.bR bk) th r.c0 orc'=some (x,cl)∧x.pan=none∧x.v=r.v∧x.wr=r.wr∧x.c=r.c1∧∀p∈x.obl,p∈obl)∨
   (r.kd=.go∧r.dst=o.dst∧b=false∧r.v=.tup []∧r.wr=[]∧r.c1=r.c0)∨
   (∃pv pw,r.kd=.pan pv pw∧r.dst=none∧r.wr=[]∧b=true∧∃(x:OpR) (cl:Bool),opS P cs ys o (getS (some_ r.tR tm)) (some_ r.bR bk) th r.c0 orc'=some (x,cl)∧x.pan=some pv∧x.wr=pw∧x.c=r.c1∧∀p∈x.obl,p∈obl))
theorem StepR.more {P:Program} {cs:CallS} {ys:YEnv} {ops:Array Oper} {n th:Nat} {obl obl':List Prop} {tm:List (Nat×SV)} {bk:List (Nat×Blk)} {o:Oper} {r:Rec} (h:StepR P cs ys ops n th obl tm bk o r) (hs:∀p∈obl,p∈obl') :
  StepR P cs ys ops n th obl' tm bk o r:=by
 obtain⟨h1,orc,orc',ps,b,h3,h4,h5⟩:=h;refine⟨h1,orc,orc',ps,b,h3,λp hp=>hs p (h4 p hp),?_⟩;rcases h5 with ⟨e,e2,e3,x,cl,k1,k2,k3,k4,k5,k6⟩|h5|⟨pv,pw,e,e2,e3,e4,x,cl,k1,k2,k3,k4,k6⟩
 ·exact .inl ⟨e,e2,e3,x,cl,k1,k2,k3,k4,k5,λp hp=>hs p (k6 p hp)⟩
 ·exact .inr (.inl h5)
 ·exact .inr (.inr ⟨pv,pw,e,e2,e3,e4,x,cl,k1,k2,k3,k4,λp hp=>hs p (k6 p hp)⟩)
def panRec:List Rec->Option (Value×List (Nat×Blk)×List Nat)
 | []=>none
 | r :: l => match r.kd with
   | .pan p pw=>some (p,pw,r.bR)
   | _=>panRec l
theorem Zlj (tm:List (Nat×SV)) (r:Rec):putT tm r.dst r.v=wT r++tm:=by
 unfold putT wT;cases r.dst<;>rfl
def tt:Nat->Bool:=λ_=>true
theorem Zdz {α:Type} (x:List (Nat×α)) (ws:List (List (Nat×α))) (l0:List (Nat×α)) (m:Nat):accAt (x::ws) tt l0 (m+1)=accAt ws tt (x++l0) m:=Zh1 x tt m
structure RecOk (P:Program) (cs:CallS) (ys:YEnv) (ops:Array Oper) (n:Nat) (l:List Oper) (i0:Nat) (dead:List Nat) (s:Stt) (rs:List Rec) (s':Stt) (q:List Prop) (pn:Option Value):Prop where
 len:rs.length=l.length
 tm:s'.tm=accAt (rs.map wT) tt s.tm l.length
 bk:s'.bk=accAt (rs.map (·.wr)) tt s.bk l.length
 df:s'.df=s.df
 step:∀(i:Nat) (r:Rec),rs[i]? = some r->r.kd≠.never->∃o,l[i]? = some o∧StepR P cs ys ops n s.th q (accAt (rs.map wT) tt s.tm i) (accAt (rs.map (·.wr)) tt s.bk i) o r
 nev:∀(i:Nat) (r:Rec),rs[i]? = some r->r.kd=.never->r.dst=none∧r.wr=[]∧∃o p,l[i]? = some o∧p∈predsOf o∧(p∈dead∨∃j rj,p=i0+j∧rs[j]? = some rj∧rj.kd≠.go)
 rng:∀(i:Nat) (r:Rec),rs[i]? = some r->s.c<=r.c0∧r.c0<=r.c1∧r.c1<=s'.c
 ord:∀(i j:Nat) (ri rj:Rec),i<j->rs[i]? = some ri->rs[j]? = some rj->ri.c1<=rj.c0
 cc:s.c<=s'.c
 pn1:∀v,pn=some v->∃pw bR,panRec rs=some (v,pw,bR)
 pn0:pn=none->panRec rs=none
 uniq:∀(i:Nat) (r:Rec) p pw,rs[i]? = some r->r.kd=.pan p pw->panRec rs=some (p,pw,r.bR)
theorem Zff {P:Program} {cs:CallS} {ys:YEnv} {ops:Array Oper} {n:Nat}:∀{l:List Oper} {i0:Nat} {dead:List Nat} {s s':Stt} {rs:List Rec} {q:List Prop} {pn:Option Value},recS P cs ys ops n l i0 dead s=some (rs,s',q,pn)->RecOk P cs ys ops n l i0 dead s rs s' q pn
 | [], i0, dead, s, s', rs, q, pn, h => by
   cases h;exact⟨rfl,rfl,rfl,rfl,(λi r hr=>by simp at hr),(λi r hr=>by simp at hr),(λi r hr=>by simp at hr),(λi j ri rj _ hr=>by simp at hr),Yab _,(λv hv=>by cases hv),λ_=>rfl,λi r p pw hr=>by simp at hr⟩
 | o :: rest, i0, dead, s, s', rs, q, pn, h => by
   have cons:∀(r:Rec) (rs2:List Rec) (q2 q:List Prop) (s1:Stt) (dead2:List Nat) (pn2 pn:Option Value),RecOk P cs ys ops n rest (i0+1) dead2 s1 rs2 s' q2 pn2->s1.tm=putT s.tm r.dst r.v->s1.bk=r.wr++s.bk->s1.df=s.df->s1.c=r.c1->s1.th=s.th->r.c0=s.c->r.c0<=r.c1->
     (r.kd≠.never->StepR P cs ys ops n s.th q s.tm s.bk o r)->(r.kd=.never->r.dst=none∧r.wr=[]∧∃p,p∈predsOf o∧p∈dead)->(∀p∈q2,p∈q)->(∀x∈dead2,x∈dead∨(x=i0∧r.kd≠.go))->
     ((∃p pw,r.kd=.pan p pw∧pn=some p∧pn2=none)∨((∀p pw,r.kd≠.pan p pw)∧pn=pn2))->RecOk P cs ys ops n (o::rest) i0 dead s (r::rs2) s' q pn:=by
    intro r rs2 q2 q s1 dead2 pn2 pn ih e1 e2 edf e3 e4 e5 e6 hst hnv hq hdd hpn;have hc1:=ih.cc;refine⟨by simp[ih.len],?_,?_,ih.df.trans edf,?_,?_,?_,?_,Zo,?_,?_,?_⟩
    ·rw[ih.tm,e1,Zlj,Ybz,Ybm,Zdz]
    ·rw[ih.bk,e2,Ybz,Ybm,Zdz]
    ·intro i r' hr' hk
     cases i with
     | zero =>
       simp at hr';subst hr';exact⟨o,Zs,hst hk⟩
     | succ i =>
       simp at hr';obtain⟨o',ho',hs'⟩:=ih.step i r' hr' hk;refine⟨o',by simpa using ho',?_⟩;rw[Ybz,Ybz,Zdz,Zdz,<-Zlj,<-e1,<-e2,<-e4];exact hs'.more hq
    ·intro i r' hr' hk
     cases i with
     | zero =>
       simp at hr';subst hr';obtain⟨h1,h2,p,h3,h4⟩:=hnv hk;exact⟨h1,h2,o,p,Zs,h3,.inl h4⟩
     | succ i =>
       simp at hr';obtain⟨h1,h2,o',p,h3,h4,h5⟩:=ih.nev i r' hr' hk;refine⟨h1,h2,o',p,by simpa using h3,h4,?_⟩;rcases h5 with h5|⟨j,rj,h6,h7,h8⟩
       ·rcases hdd p h5 with h5|⟨h5,h6⟩
        ·exact .inl h5
        ·exact .inr ⟨0,r,Zo,Zs,h6⟩
       ·exact .inr ⟨j+1,rj,Zo,by simpa using h7,h8⟩
    ·intro i r' hr'
     cases i with
     | zero =>
       simp at hr';subst hr';omega
     | succ i =>
       simp at hr';have:=ih.rng i r' hr';omega
    ·intro i j ri rj hij hi hj
     cases j with
     | zero=>omega
     | succ j =>
       simp at hj;cases i with
       | zero =>
         simp at hi;subst hi;have:=ih.rng j rj hj;omega
       | succ i =>
         simp at hi;exact ih.ord i j ri rj Zo hi hj
    ·intro v hv
     rcases hpn with ⟨p,pw,h1,h2,h3⟩|⟨h1,h2⟩
     ·rw[h2]at hv
      cases hv;exact⟨pw,r.bR,by unfold panRec;rw[h1]⟩
     ·obtain⟨pw,bR,hp⟩:=ih.pn1 v (h2▸hv)
      refine⟨pw,bR,?_⟩;unfold panRec;split
      ·rename_i hk;exact absurd hk (h1 _ _)
      ·exact hp
    ·intro hv
     rcases hpn with ⟨p,pw,h1,h2,h3⟩|⟨h1,h2⟩
     ·rw[h2]at hv;cases hv
     ·unfold panRec
      split
      ·rename_i hk;exact absurd hk (h1 _ _)
      ·exact ih.pn0 (h2▸hv)
    ·intro i r' p' pw' hr' hk
     cases i with
     | zero =>
       simp at hr';subst hr';unfold panRec;rw[hk]
     | succ i =>
       simp at hr';have hu:=ih.uniq i r' p' pw' hr' hk;rcases hpn with ⟨p,pw,h1,h2,h3⟩|⟨h1,h2⟩
       ·rw[ih.pn0 h3]at hu;cases hu
       ·unfold panRec
        split
        ·rename_i hk;exact absurd hk (h1 _ _)
        ·exact hu
   unfold recS at h;split at h
   ·rename_i hdead
    split at h
    ·rename_i rs2 s2 q2 p2 h2
     cases h;have ih:=Zff h2;refine cons ⟨none,.no,[],[],[],s.c,s.c,.never⟩ rs2 q _ _ _ _ _ ih rfl rfl rfl rfl rfl rfl (Yab _) (λhk=>absurd rfl hk) (λ_=>⟨rfl,rfl,?_⟩) (λp hp=>hp) (λx hx=>?_) (.inr ⟨(λp pw hk=>by cases hk),rfl⟩)
     ·obtain⟨p,h1,h2⟩:=Yft.1 hdead
      exact⟨p,h1,mem_iff.1 h2⟩
     ·rcases Ycp.1 hx with rfl|hx
      ·exact .inr ⟨rfl,λhk=>by cases hk⟩
      ·exact .inl hx
    ·cases h
   ·dsimp only at h
    split at h
    ·rename_i ps orc hw
     split at h
     ·rename_i hd
      split at h
      ·rename_i r cl hr
       split at h
       ·rename_i p hp
        split at h
        ·split at h
         ·rename_i rs2 s2 q2 h2
          cases h;have ih:=Zff h2;refine cons ⟨none,.no,[],_,_,s.c,r.c,.pan p r.wr⟩ rs2 q2 _ _ _ _ _ ih rfl rfl rfl rfl rfl rfl (Zjy hr) (λ_=>?_) (λhk=>by cases hk) (λp hp=>by simp[hp]) (λx hx=>?_) (.inl ⟨p,r.wr,rfl,rfl,rfl⟩)
          ·exact⟨hd,_,_,_,_,hw,λp hp=>by simp[hp],.inr (.inr ⟨p,r.wr,rfl,rfl,rfl,rfl,r,cl,hr,hp,rfl,rfl,λp hp=>by simp[hp]⟩)⟩
          ·obtain rfl:x=i0:=by simpa using hx
           exact .inr ⟨rfl,λhk=>by cases hk⟩
         ·cases h
        ·cases h
       ·rename_i hp
        split at h
        ·rename_i rs2 s2 q2 p2 h2
         cases h;have ih:=Zff h2;refine cons ⟨o.dst,r.v,r.wr,_,_,s.c,r.c,.go⟩ rs2 q2 _ _ _ _ _ ih rfl rfl rfl rfl rfl rfl (Zjy hr) (λ_=>?_) (λhk=>by cases hk) (λp hp=>by simp[hp]) (λx hx=>.inl hx) (.inr ⟨(λp pw hk=>by cases hk),rfl⟩);exact⟨hd,_,_,_,_,hw,λp hp=>by simp[hp],.inl ⟨rfl,rfl,rfl,r,cl,hr,hp,rfl,rfl,rfl,λp hp=>by simp[hp]⟩⟩
        ·cases h
      ·cases h
     ·cases h
    ·rename_i ps orc hw
     split at h
     ·rename_i hd
      split at h
      ·rename_i rs2 s2 q2 p2 h2
       cases h;have ih:=Zff h2;refine cons ⟨o.dst,.tup [],[],_,[],s.c,s.c,.go⟩ rs2 q2 _ _ _ _ _ ih rfl rfl rfl rfl rfl rfl (Yab _) (λ_=>?_) (λhk=>by cases hk) (λp hp=>by simp[hp]) (λx hx=>.inl hx) (.inr ⟨(λp pw hk=>by cases hk),rfl⟩);exact⟨hd,_,_,_,_,hw,λp hp=>by simp[hp],.inr (.inl ⟨rfl,rfl,rfl,rfl,rfl,rfl⟩)⟩
      ·cases h
     ·cases h
    ·cases h
/-! ### who must come before whom -/
def prOf (ops:Array Oper) (j:Nat):List Nat:=
 match ops[j]? with
 | some o=>predsOf o
 | none=>[]
def bfs (pr:Nat->List Nat):Nat->List Nat->List Nat->List Nat
 | 0,_,seen=>seen
 | _+1,[],seen=>seen
 | n+1,q::r,seen=>if mem seen q then bfs pr n r seen else bfs pr n (pr q++r) (q::seen)
theorem Zqa {pr:Nat->List Nat} {L:Nat->Prop} (hc:∀j,L j->∀q∈pr j,L q):∀(n:Nat) (t s:List Nat),(∀q∈t,L q)->(∀q∈s,L q)->∀q∈bfs pr n t s,L q
 | 0,t,s,ht,hs=>hs
 | n+1,[],s,ht,hs=>hs
 | n + 1, x :: r, s, ht, hs => by
   unfold bfs;split
   ·exact Zqa hc n r s (λq hq=>ht q (by simp[hq])) hs
   ·refine Zqa hc n _ _ (λq hq=>?_) (λq hq=>?_)
    ·rcases Ycn.1 hq with h|h
     ·exact hc x (ht x Zs) q h
     ·exact ht q (by simp[h])
    ·rcases Ycp.1 hq with h|h
     ·rw[h];exact ht x Zs
     ·exact hs q h
def inD (d:Option Tmp) (l:List Nat):Bool:=
 match d with
 | some t=>mem l t
 | none=>false
def keys {α:Type} (l:List (Nat×α)):List Nat:=l.map (·.1)
def conf (r s:Rec):Bool:=
 inD r.dst s.tR || inD s.dst r.tR || inD r.dst s.dst.toList || (keys r.wr).any (λk=>mem s.bR k || mem (keys s.wr) k) || (keys s.wr).any (λk=>mem r.bR k)
def raceB (pr:Nat->List Nat) (rs:List Rec):Bool:=
 (List.range rs.length).all λj=>(List.range j).all λi=>
  match rs[i]?,rs[j]? with
  | some r,some s=>!conf r s || mem (pr j) i || mem (bfs pr 2000 (pr j) []) i
  | _,_=>true
theorem Zm1 {pr:Nat->List Nat} {rs:List Rec} (h:raceB pr rs=true) {i j:Nat} (hij:i<j) {r s:Rec} (hi:rs[i]? = some r) (hj:rs[j]? = some s) (hc:conf r s=true)
  {L:Nat->Prop} (hcl:∀j,L j->∀q∈pr j,L q) (hp:∀q∈pr j,L q):L i:=by
 have hjl:j<rs.length:=(Yan.1 hj).1;have h1:=Ybn.1 h j (Yeu.2 hjl);have h2:=Ybn.1 h1 i (Yeu.2 hij);rw[hi,hj]at h2;dsimp only at h2;rw[hc]at h2;simp only[Bool.not_true,Yeo,Ybo,mem_iff]at h2;rcases h2 with h2|h2
 ·exact hp i h2
 ·exact Zqa hcl 2000 _ _ hp Zs i h2
theorem Zm2 {α:Type} {k:Nat} {b:α}:∀{l:List (Nat×α)},l.look k=some b->k∈keys l
 | [],h=>by simp at h
 | (k', x) :: r, h => by
   rw[Zaz]at h;split at h
   ·rename_i e;subst e;simp[keys]
   ·have:=Zm2 h
    simp only[keys,Ybz,Ycp];exact .inr this
end Go.Ex
