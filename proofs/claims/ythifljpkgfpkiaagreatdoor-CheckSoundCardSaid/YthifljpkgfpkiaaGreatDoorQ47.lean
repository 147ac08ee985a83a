/-
  Plain: what has a type cannot go wrong: a value of that type, or a number of ..
-/
import Derived.Test.YthifljpkgfpkiaaGreatDoorQ46
set_option maxRecDepth 100000
set_option maxHeartbeats 4000000
namespace Go.Proofs.YthifljpkgfpkiaaGreatDoor
open Go.RowKit Go.Wk
def bF(V:List Nd)(k:Kd):Prop:=zO (jJ V) k=true
def nX:Res->Kd->Prop
 | .ok V,k=>bF V k
 | .error u,_=>u=4\/u=5\/u=8
theorem Hv{V:List Nd}(hV:IsV V):kOp (jJ V)=40+zg V/\1<=zg V/\zg V<=6:=by
 rcases vx hV with h|h|h|h|h|h
 ·rw [ol h,h];exact⟨rfl,by decide,by decide⟩
 ·rw [qQ h,h];exact⟨rfl,by decide,by decide⟩
 ·rw [uP h,h];exact⟨rfl,by decide,by decide⟩
 ·rw [oC h,h];exact⟨rfl,by decide,by decide⟩
 ·rw [vK hV h,h];exact⟨rfl,by decide,by decide⟩
 ·rw [vP hV h,h];exact⟨rfl,by decide,by decide⟩
theorem QS{a k:Kd}(h:zO a k=true)(wi:kOp a≠49):k = .base 48\/kOp k=kOp a:=by
 cases a with
 | base x =>
  rcases jm.1 h with e|e|e
  ·exact absurd e wi
  ·exact .inl e
  ·rw [e];exact .inr rfl
 | ent s =>
  rcases ao.1 h with e|e
  ·exact .inl e
  ·rw [e];exact .inr rfl
 | set p =>
  rcases Go.Wk.jB.1 h with e|⟨q,e,-⟩
  ·exact .inl e
  ·rw [e];exact .inr rfl
 | fs f =>
  rcases jW.1 h with e|⟨q,e,-⟩
  ·exact .inl e
  ·rw [e];exact .inr rfl
theorem uN{V:List Nd}{k:Kd}(hV:IsV V)(h:bF V k):k = .base 48\/kOp k=40+zg V:=by
 obtain⟨h1,h2,h3⟩:=Hv hV;rw [<-h1];exact QS h (by omega)
theorem Ei{V:List Nd}{k:Kd}{l:List Int}(hV:IsV V)(h:bF V k)(hm:zQ l k=true)(hl:∀o∈l,41<=o/\o<=46):∃o∈l,zg V=o-40/\kOp k=o:=by
 obtain⟨-,h2,h3⟩:=Hv hV;unfold zQ at hm;rw [Bool.or_eq_true] at hm;rcases uN hV h with e|e
 ·rw [e] at hm;exfalso;rcases hm with hm|hm
  ·simp [kOp] at hm
  ·have:=hl 48 (by simpa [kOp] using hm);omega
 ·rcases hm with hm|hm
  ·have:kOp k=49:=by simpa using hm
   omega
  ·have MS:kOp k∈l:=by simpa using hm
   exact⟨kOp k,MS,by omega,rfl⟩
theorem al{V:List Nd}{k:Kd}{o:Int}(hV:IsV V)(h:bF V k)(hm:zQ [o] k=true)(ho:41<=o/\o<=46):zg V=o-40:=by
 obtain⟨o',h1,h2,-⟩:=Ei hV h hm (λx hx=>by rw [List.mem_singleton.1 hx];exact ho);rw [List.mem_singleton.1 h1] at h2;exact h2
theorem JP(b:Bool):bF (zS b) (.base 41):=by
 unfold bF;rw [ol (by rfl)];exact jD _ _ (Nat.le_refl _) trivial
theorem SA(k:Int):bF (pA k) (.base 42):=by
 unfold bF;rw [qQ (by rfl)];exact jD _ _ (Nat.le_refl _) trivial
theorem tt{V:List Nd}(h:zg V=1):bF V (.base 41):=by
 unfold bF;rw [ol h];exact jD _ _ (Nat.le_refl _) trivial
theorem yS(u:Ud):bF (ib u) (.ent u.1):=by
 unfold bF;rw [oC (by rfl)];exact jD _ _ (Nat.le_refl _) trivial
theorem pC{k:Kd}(h:KOk k):k.ok:=h.1.ok
theorem Oo{V:List Nd}{a b:Kd}(hV:IsV V)(ha:KOk a)(hb:KOk b)(h:bF V a\/bF V b):bF V (zI a b):=by
 have hj:=eE _ a b (Nat.le_refl _) (pC ha) (pC hb);have hu:=gI _ a b (Nat.le_refl _) (pC ha) (pC hb);rcases h with h|h
 ·exact cz _ _ _ _ (Nat.le_refl _) (oc hV) (pC ha) hj h hu.1
 ·exact cz _ _ _ _ (Nat.le_refl _) (oc hV) (pC hb) hj h hu.2
theorem NI{k j:Kd}(h:ix k = .ok j):j=k:=by
 unfold ix at h;split at h
 ·cases h
 ·injection h with h;exact h.symm
structure iO(τ:Stg)(σ:Env):Prop where
 env:gQ σ
 stg:gW τ
 who:σ.who.1=τ.who
 act:σ.act.1=eG
 what:σ.what.1=τ.what
 ctx:bF σ.ctx (.fs (lu τ.a.P))
 ents:∀x∈σ.E,∃d,cN τ.K x.u.1=some d/\bF x.P (.fs (lu d.P))
def GP(σ:Env)(y:Ex)(s:ByteArray):Prop:=∃V r,evX σ y = .ok V/\cf σ.E V = .ok (some r)/\cY r s=0
def qy(σ:Env)(F:jl):Prop:=∀x∈F,∀y:Ex,y.valid false->y.flat=x.1->GP σ y x.2
theorem OE{x y:Ex}(hx:x.valid false)(hy:y.valid false)(e:x.flat=y.flat):x=y:=by
 have h1:=fC.2 ⟨hx,rfl⟩;have h2:=fC.2 ⟨hy,rfl⟩;rw [e,h2] at h1;injection h1 with h1;exact h1.symm
theorem KY{σ:Env}{F:jl}{y:Ex}{s:ByteArray}(h:qy σ F)(hy:y.valid false)(hk:dL F y.flat s=true):GP σ y s:=by
 unfold dL at hk;obtain⟨x,hx,he⟩:=List.any_eq_true.1 hk;rw [Bool.and_eq_true,decide_eq_true_eq,decide_eq_true_eq] at he;have:=h x hx y hy ((jg.zero _ _).1 he.2).symm;rwa [he.1] at this
theorem Ou{r:List Nd}{s:ByteArray}(hr:zh r=0)(h6:zg r=6):(cY r s=0↔∃x∈zo r,x.1=s)/\(cY r s=0\/cY r s=3)/\(cY r s=0->∃x∈zo r,x.1=s/\l9 r s=x.2):=by
 obtain⟨o,ho⟩:∃o,(zo r).find? (λx=>decide (js x.1 s=0))=o:=⟨_,rfl⟩
 have hg:wX r s=o.map (·.2):=congrArg (Option.map (λx:ByteArray × List Nd=>x.2)) ho;have hE:cY r s=if(o.map (·.2)).isSome then 0 else 3:=by unfold cY;rw [if_pos hr,if_pos h6,hg]
 cases o with
 | none =>
  have hn:=List.find?_eq_none.1 ho
  have Wg:cY r s=3:=by rw [hE];rfl
  refine⟨⟨λh=>(by rw [Wg] at h;cases h),λ⟨x,hx,e⟩=>?_⟩,.inr Wg,λh=>(by rw [Wg] at h;cases h)⟩
  have h1:=hn x hx
  rw [e,zw.self s] at h1
  exact absurd (decide_eq_true rfl) h1
 | some x =>
  have hm:=List.mem_of_find?_eq_some ho
  have he:x.1=s:=(zw.zero _ _).1 (by simpa using List.find?_some ho)
  have Wg:cY r s=0:=by rw [hE];rfl
  exact⟨⟨λ_=>⟨x,hm,he⟩,λ_=>Wg⟩,.inl Wg,λ_=>⟨x,hm,he,by unfold l9;rw [if_pos Wg,hg];rfl⟩⟩
theorem SC{r:List Nd}{g:Fl}{s:ByteArray}{b:Bool}{k:Kd}(hr:zh r=0)(hg:KOk (.fs g))(h6:zg r=6)(h:bF r (.fs g))(ht:gm g s b = .ok k)(hb:b=true->cY r s=0):cY r s=0/\bF (l9 r s) k:=by
 obtain⟨h1,h2,h3⟩:=Ou (s:=s) hr h6;have IQ:=(zy.1 hr).2;have VV:g.asc:=(bw.1 hg.1).1;obtain⟨p1,p2⟩:=(nD IQ h6 VV).1 h;unfold gm at ht;rcases hf:g.find s with _|⟨m,k1⟩
 ·rw [hf] at ht;cases ht
 ·rw [hf] at ht;simp only at ht;split at ht
  ·rename_i hmb;injection ht with ht;subst ht;have h0:cY r s=0:=by
    rw [Bool.or_eq_true] at hmb;rcases hmb with hm|hm
    ·subst hm;obtain⟨x,hx,e⟩:=p2 s k1 hf;exact h1.2 ⟨x,hx,e⟩
    ·exact hb hm
   obtain⟨x,hx,e,ev⟩:=h3 h0;obtain⟨m',k',e1,e2⟩:=p1 x hx;rw [e,hf] at e1;injection e1 with e1;injection e1 with e0 e1;refine⟨h0,?_⟩;rw [ev];rw [show k1=k' from e1];exact e2
  ·cases ht
theorem Sf{V:List Nd}(hV:IsV V)(h:bF V (.base 49)):False:=by
 obtain⟨-,h2,h3⟩:=Hv hV;rcases uN hV h with e|e
 ·injection e with e;exact absurd e (by decide)
 ·simp only [kOp] at e;omega
theorem Sw{τ:Stg}{σ:Env}(hS:iO τ σ){n:Nd}{a:Ex}{V:List Nd}{j k:Kd}{b:Bool}(h22:n.op=22)(hj:KOk j)(hV:zh V=0)(he:evX σ a = .ok V)(h:bF V j)(hb:b=true->GP σ a n.s)(ht:mS τ j n.s b = .ok k):nX (bq σ.E n V) k:=by
 have IQ:=(zy.1 hV).2;have hknown:∀r,cf σ.E V = .ok (some r)->b=true->cY r n.s=0:=λr hr hbt=>by
  obtain⟨V',r',e1,e2,e3⟩:=hb hbt;rw [he] at e1;injection e1 with e1;subst e1;rw [hr] at e2;injection e2 with e2;injection e2 with e2;rw [e2];exact e3
 have h1:bq σ.E n V=(match cf σ.E V with
  | .error e => .error e
  | .ok none => .error 8
  | .ok (some r)=>jx (cY r n.s) (l9 r n.s)):=by
  unfold bq
  rw [if_neg (by omega),if_neg (by omega),if_neg (by omega),if_neg (by omega)]
  rcases cf σ.E V with e|(_|r)
  ·rfl
  ·simp only;rw [if_neg (by omega)]
  ·simp only;rw [if_neg (by omega)]
 have done:∀(r:List Nd) (g:Fl),cf σ.E V = .ok (some r)->zh r=0->zg r=6->KOk (.fs g)->bF r (.fs g)->gm g n.s b = .ok k->nX (bq σ.E n V) k:=λr g hr hv h6 hg hh hf=>by
  obtain⟨e1,e2⟩:=SC hv hg h6 hh hf (hknown r hr);rw [h1,hr];simp only;unfold jx;rw [if_pos e1];exact e2
 cases j with
 | base x =>
  simp only [mS] at ht
  split at ht
  ·rename_i hx
   subst hx;exact(Sf IQ h).elim
  ·cases ht
 | set p=>cases ht
 | ent u =>
  simp only [mS] at ht
  rcases hk:cN τ.K u with _|d
  ·rw [hk] at ht;cases ht
  ·rw [hk] at ht
   simp only at ht;have h4:zg V=4:=by
    rcases uN IQ h with e|e
    ·cases e
    ·simp only [kOp] at e;omega
   have hu:Cy V=u:=by
    have hq:zO (jJ V) (.ent u)=true:=h;rw [oC h4] at hq;rcases ao.1 hq with e|e
    ·cases e
    ·injection e with e;exact e.symm
   have X':(hdN V).s=u:=by rw [<-hu];cases V <;> rfl
   rcases hf:σ.E.find? (λx=>decide (x.u=aF V)) with _|x
   ·rw [h1];have:cf σ.E V = .ok none:=by unfold cf;rw [if_neg (by omega),if_pos h4,hf];rfl
    rw [this];exact .inr (.inr rfl)
   ·have hm:=List.mem_of_find?_eq_some hf;have hxu:x.u=aF V:=by simpa using List.find?_some hf
    have hr:cf σ.E V = .ok (some x.P):=by unfold cf;rw [if_neg (by omega),if_pos h4,hf];rfl
    obtain⟨d',e1,e2⟩:=hS.ents x hm;have e3:x.u.1=u:=by rw [hxu];exact X'
    rw [e3,hk] at e1;injection e1 with e1;subst e1;obtain⟨r1,r2⟩:=I0 hS.env.e hV hr;obtain⟨g,hg⟩:=hS.stg.kds d (vh hk);rw [fB hg] at e2 ht;exact done x.P g hr r1 r2 (Bt hg) e2 ht
 | fs g =>
  have h6:zg V=6:=by
   rcases uN IQ h with e|e
   ·cases e
   ·simp only [kOp] at e;omega
  exact done V g (by unfold cf;rw [if_pos h6]) hV h6 hj h ht
theorem Nv{V:List Nd}(h:zh V=0)(h3:zg V=3):zx (hdN V).s=0:=by
 obtain⟨hl,hv⟩:=zy.1 h;have cg:=hv.pos
 match V,cg with
 | x :: r,_ =>
  have hx:x.op=3:=h3
  unfold IsV at hv
  simp only [zq,List.getElem?_cons_zero] at hv
  by_cases hs:zC x=true
  ·unfold zC at hs
   rw [if_neg (by omega),if_neg (by omega),if_pos hx] at hs;simp only [Bool.and_eq_true,decide_eq_true_eq] at hs;exact hs.2
  ·rw [if_neg hs] at hv;cases hv
theorem vE{op:Int}{L:List Kd}{k:Kd}(h:jp op L = .ok k):bR op L=true/\k = .base (if op=10\/17<=op/\op<=19 then 42 else 41):=by
 unfold jp at h;split at h
 ·rename_i hb;injection h with h;exact⟨hb,h.symm⟩
 ·cases h
theorem JB(op a b:Int)(h:17<=op/\op<=19):ee op a b=0\/ee op a b=5:=by
 unfold ee;rw [if_pos (by omega)];split
 ·exact .inl rfl
 ·exact .inr rfl
theorem Dm{e v:Int}(h:e=0\/e=5):nX (jx e (pA v)) (.base 42):=by
 unfold jx;rcases h with h|h
 ·rw [if_pos h];exact SA v
 ·rw [if_neg (by omega)];exact .inr (.inl h)
theorem bS(b:Bool):nX (.ok (zS b)) (.base 41):=JP b
theorem SE{E:List En}{n:Nd}{V:List Nd}{j k:Kd}(hx:bP false n=true)(hV:zh V=0)(h:bF V j)(ht:jp n.op [j] = .ok k)(hop:n.op=9\/n.op=10\/n.op=21\/n.op=23\/n.op=24):nX (bq E n V) k:=by
 have IQ:=(zy.1 hV).2;obtain⟨hb,rfl⟩:=vE ht;rcases hop with e|e|e|e|e
 ·rw [e] at hb ⊢;have hm:zQ [41] j=true:=by simpa [bR] using hb
  have h1:=al IQ h hm (by decide);unfold bq;rw [if_pos e,if_pos (by omega)];exact bS _
 ·rw [e] at hb ⊢;have hm:zQ [42] j=true:=by simpa [bR] using hb
  have h1:=al IQ h hm (by decide);unfold bq;rw [if_neg (by omega),if_pos e,if_pos (by omega)];exact Dm (JB 18 _ _ (by decide))
 ·rw [e] at hb ⊢;have hm:zQ [46,44] j=true:=by simpa [bR] using hb
  obtain⟨o,ho,h1,-⟩:=Ei IQ h hm (λx hx=>by simp at hx;omega);unfold bq;rw [if_neg (by omega),if_neg (by omega),if_neg (by omega),if_neg (by omega)];have h64:zg V=6\/zg V=4:=by simp at ho;omega
  obtain⟨o,ho⟩:∃o,cf E V = .ok o:=by
   unfold cf;rcases h64 with h6|h4
   ·rw [if_pos h6];exact⟨_,rfl⟩
   ·rw [if_neg (by omega),if_pos h4];exact⟨_,rfl⟩
  rw [ho]
  cases o with
  | none=>simp only;rw [if_pos e];exact bS _
  | some r=>simp only;rw [if_pos e];exact bS _
 ·rw [e] at hb ⊢;have hm:zQ [43] j=true:=by simpa [bR] using hb
  have h1:=al IQ h hm (by decide);have hp:zx n.s=0:=by
   unfold bP at hx;rw [Bool.and_eq_true] at hx;have h2:=hx.1;unfold aA at h2;rw [if_neg (by omega)] at h2;by_cases c:zG n<0\/n.n≠0\/n.t≠emp
   ·rw [if_pos c] at h2;cases h2
   ·rw [if_neg c,if_neg (by omega),if_neg (by omega),if_pos e] at h2;simpa using h2
  have hl:fZ n.s (hdN V).s=0:=by
   unfold fZ;rw [if_pos hp];exact Nv hV (by omega)
  unfold bq;rw [if_neg (by omega),if_neg (by omega),if_pos e,if_pos (by omega)];unfold aJ;rw [if_pos hl];exact bS _
 ·rw [e] at hb ⊢;have hm:zQ [44] j=true:=by simpa [bR] using hb
  have h1:=al IQ h hm (by decide);unfold bq;rw [if_neg (by omega),if_neg (by omega),if_neg (by omega),if_pos e,if_pos (by omega)];exact bS _
theorem Tv{V:List Nd}{p:Kd}(hV:IsV V)(h:bF V (.set p))(hp:KOk (.set p)):zg V=5/\∀Q∈zn V,bF Q p:=by
 have h5:zg V=5:=by
  rcases uN hV h with e|e
  ·cases e
  ·simp only [kOp] at e;omega
 exact⟨h5,(nf hV h5 (show p.ok from(show p.valid from hp.1).ok)).1 h⟩
theorem SI{V:List Nd}{k:Kd}(hV:zh V=0)(h:bF V k)(hk:KOk k)(hi:dP k=true):(aE V).all (λt=>decide (zg t=4))=true:=by
 have IQ:=(zy.1 hV).2;unfold aE;have one:∀(hm:zQ [44] k=true),(if zg V=5 then zn V else [V]).all (λt=>decide (zg t=4))=true:=λhm=>by
  have h1:=al IQ h hm (by decide);rw [if_neg (by omega)];simp only [List.all_cons,List.all_nil,Bool.and_true,decide_eq_true_eq];omega
 cases k with
 | base x=>exact one hi
 | ent u=>exact one hi
 | fs g=>exact one hi
 | set p =>
  obtain⟨h5,hq⟩:=Tv IQ h hk
  rw [if_pos h5,List.all_eq_true]
  intro Q hQ
  have hQV:=(dc IQ h5).2.2.1 Q hQ
  have h1:=al hQV (hq Q hQ) hi (by decide)
  exact decide_eq_true (by omega)
theorem Tp{E:List En}{op:Int}{A B:List Nd}{j1 j2 k:Kd}(hA:zh A=0)(hB:zh B=0)(h1:bF A j1)(h2:bF B j2)(k2:KOk j2)(ht:jp op [j1,j2] = .ok k)(hop:14<=op/\op<=20\/25<=op/\op<=27):nX (aS E op A B) k:=by
 have WL:=(zy.1 hA).2;have Yh:=(zy.1 hB).2;obtain⟨hb,rfl⟩:=vE ht;have hc:op=14\/op=15\/op=16\/(17<=op/\op<=19)\/op=20\/op=25\/op=26\/op=27:=by omega
 rcases hc with e|e|e|e|e|e|e|e
 ·subst e;unfold aS;rw [if_pos rfl];exact bS _
 ·subst e;have hm:zQ [42] j1=true/\zQ [42] j2=true:=by simpa [bR] using hb
  have q1:=al WL h1 hm.1 (by decide);have q2:=al Yh h2 hm.2 (by decide);unfold aS;rw [if_neg (by decide),if_neg (by decide),if_neg (by decide),if_neg (by decide),if_neg (by decide),if_pos ⟨by omega,by omega⟩,if_pos rfl];exact bS _
 ·subst e;have hm:zQ [42] j1=true/\zQ [42] j2=true:=by simpa [bR] using hb
  have q1:=al WL h1 hm.1 (by decide);have q2:=al Yh h2 hm.2 (by decide);unfold aS;rw [if_neg (by decide),if_neg (by decide),if_neg (by decide),if_neg (by decide),if_neg (by decide),if_pos ⟨by omega,by omega⟩,if_neg (by decide),if_pos rfl];exact bS _
 ·have hm:zQ [42] j1=true/\zQ [42] j2=true:=by
   unfold bR at hb;rw [if_neg (by omega),if_pos (by omega)] at hb;simpa using hb
  have q1:=al WL h1 hm.1 (by decide);have q2:=al Yh h2 hm.2 (by decide);unfold aS;rw [if_neg (by omega),if_neg (by omega),if_neg (by omega),if_neg (by omega),if_neg (by omega),if_pos ⟨by omega,by omega⟩,if_neg (by omega),if_neg (by omega),if_pos (by omega)];exact Dm (JB op _ _ e)
 ·subst e;have hm:zQ [44] j1=true/\dP j2=true:=by simpa [bR] using hb
  have q1:=al WL h1 hm.1 (by decide);have q2:=SI hB h2 k2 hm.2;unfold aS;rw [if_neg (by decide),if_pos rfl];unfold inX;rw [if_pos ⟨by omega,q2⟩];exact bS _
 ·subst e;have hm:zQ [45] j1=true:=by simpa [bR] using hb
  have q1:=al WL h1 hm (by decide);unfold aS;rw [if_neg (by decide),if_neg (by decide),if_pos rfl];unfold aJ pw;rw [hA,hB,zu,zu,if_pos (show zg A=5 by omega),if_pos rfl];exact bS _
 ·subst e;have hm:zQ [45] j1=true/\zQ [45] j2=true:=by simpa [bR] using hb
  have q1:=al WL h1 hm.1 (by decide);have q2:=al Yh h2 hm.2 (by decide);unfold aS;rw [if_neg (by decide),if_neg (by decide),if_neg (by decide),if_pos rfl];unfold aJ;rw [if_pos (gh.2 ⟨hA,hB,by omega,by omega⟩)];exact bS _
 ·subst e;have hm:zQ [45] j1=true/\zQ [45] j2=true:=by simpa [bR] using hb
  have q1:=al WL h1 hm.1 (by decide);have q2:=al Yh h2 hm.2 (by decide);unfold aS;rw [if_neg (by decide),if_neg (by decide),if_neg (by decide),if_neg (by decide),if_pos rfl];unfold aJ;rw [if_pos (gh.2 ⟨hA,hB,by omega,by omega⟩)];exact bS _
def R9:List (List Nd)->List Kd->Prop
 | [],[]=>True
 | V :: L,k :: K=>bF V k/\R9 L K
 | _,_=>False
def Od:List (ByteArray × List Nd)->Fl->Prop
 | [],.nil=>True
 | x :: L,.cons s m k r=>x.1=s/\m=true/\bF x.2 k/\Od L r
 | _,_=>False
theorem JE{q:Kd}(hq:q.ok):∀ {L:List (List Nd)} {K:List Kd},R9 L K->(∀V∈L,IsV V)->(∀k∈K,k.ok/\zO k q=true)->∀V∈L,bF V q
 | [],_,_,_,_,V,h=>by cases h
 | V0 :: L,[],h,_,_,_,_=>by cases h
 | V0 :: L,k :: K,h,hv,hk,V,hV=>by
  rcases List.mem_cons.1 hV with rfl|hV
  ·exact cz _ _ _ _ (Nat.le_refl _) (oc (hv V (by simp))) (hk k (by simp)).1 hq h.1 (hk k (by simp)).2
  ·exact JE hq h.2 (λW hW=>hv W (by simp [hW])) (λj hj=>hk j (by simp [hj])) V hV
theorem IV:∀(K:List Kd) (a:Kd),a.ok->(∀k∈K,k.ok)->(K.foldl zI a).ok
 | [],_,h,_=>h
 | k :: K,a,h,hk=>IV K (zI a k) (eE _ a k (Nat.le_refl _) h (hk k (by simp))) (λj hj=>hk j (by simp [hj]))
theorem Tc{L:List (List Nd)}{K:List Kd}{k:Kd}(hL:∀V∈L,zh V=0)(h:R9 L K)(hK:∀j∈K,KOk j)(ht:dH (.base 49) K = .ok k):nX (jx (setE L) (kr L)) k:=by
 have h1:=Dg K (.base 49);rw [ht] at h1;have hk:k = .set (K.foldl zI (.base 49)):=h1;have hf:fS L=0:=gY.2 hL;unfold jx;by_cases h0:setE L=0
 ·rw [if_pos h0];obtain⟨e1,e2,e3⟩:=tM h0;have hq:(K.foldl zI (.base 49)).ok:=IV K _ trivial (λj hj=>pC (hK j hj));have hb:=(eI hq K (.base 49) trivial (λj hj=>pC (hK j hj))).1 (jD _ _ (Nat.le_refl _) hq);show bF _ k;rw [hk];refine(nf (zy.1 e1).2 e2 hq).2 λQ hQ=>?_;rw [e3] at hQ;exact JE hq h (λV hV=>(zy.1 (hL V hV)).2) (λj hj=>⟨pC (hK j hj),hb.2 j hj⟩) Q (dC.1 hQ)
 ·rw [if_neg h0];left;unfold setE at h0 ⊢;rw [hf,zu] at h0 ⊢;split
  ·rfl
  ·rename_i h2;rw [if_neg h2] at h0;exact absurd rfl h0
theorem oe:∀ {L:List (ByteArray × List Nd)} {g:Fl} {x:ByteArray},Od L g->g.validFrom x->(∀y∈L,js x y.1<0/\zk y.1=0)/\(L.map (·.1)).Nodup
 | [],_,_,_,_=>⟨λ_ h=>(by cases h),List.nodup_nil⟩
 | y :: L,.nil,_,h,_=>by cases h
 | y :: L,.cons s m k r,x,h,hv=>by
  obtain⟨e,-,-,h4⟩:=h;obtain⟨v1,v2,v3,v4⟩:=hv;obtain⟨p1,p2⟩:=oe h4 v4;have hlt:∀z∈L,js x z.1<0:=λz hz=>zw.lt_le v1 (Int.le_of_lt (p1 z hz).1);refine⟨λz hz=>?_,?_⟩
  ·rcases List.mem_cons.1 hz with rfl|hz
   ·rw [e];exact⟨v1,v2⟩
   ·exact⟨hlt z hz,(p1 z hz).2⟩
  ·rw [List.map_cons,List.nodup_cons];refine⟨λhm=>?_,p2⟩;obtain⟨z,hz,ez⟩:=List.mem_map.1 hm;have:=(p1 z hz).1;rw [ez,e,zw.self s] at this;exact absurd this (by decide)
theorem xZ:∀ {L:List (ByteArray × List Nd)} {g:Fl} {x:ByteArray},Od L g->g.validFrom x->(∀y∈L,∃k,g.find y.1=some (true,k)/\bF y.2 k)/\∀s m k,g.find s=some (m,k)->∃y∈L,y.1=s
 | [],.nil,_,_,_=>⟨λ_ h=>(by cases h),λs m k h=>(by simp [Fl.find] at h)⟩
 | [],.cons _ _ _ _,_,h,_=>by cases h
 | y :: L,.nil,_,h,_=>by cases h
 | y :: L,.cons s m k r,x,h,hv=>by
  have hn:=(oe (L:=y :: L) h hv).2;obtain⟨e,em,e2,h4⟩:=h;obtain⟨v1,v2,v3,v4⟩:=hv;obtain⟨p1,p2⟩:=xZ h4 v4;refine⟨λz hz=>?_,λt m' k' ht=>?_⟩
  ·rcases List.mem_cons.1 hz with rfl|hz
   ·exact⟨k,by unfold Fl.find;rw [if_pos e.symm,em],e2⟩
   ·obtain⟨j,q1,q2⟩:=p1 z hz;refine⟨j,?_,q2⟩;unfold Fl.find;rw [if_neg ?_]
    ·exact q1
    ·intro q;rw [List.map_cons,List.nodup_cons] at hn;exact hn.1 (List.mem_map.2 ⟨z,hz,by rw [e,q]⟩)
  ·unfold Fl.find at ht;split at ht
   ·rename_i q;exact⟨y,by simp,by rw [e,q]⟩
   ·obtain⟨z,hz,ez⟩:=p2 t m' k' ht;exact⟨z,by simp [hz],ez⟩
theorem uL:∀L:List (ByteArray × List Nd),(L.map Prod.fst).zip (L.map Prod.snd)=L
 | []=>rfl
 | x :: L=>by simp [uL L]
theorem Tj{L:List (ByteArray × List Nd)}{g:Fl}(hg:KOk (.fs g))(h:Od L g)(hL:∀x∈L,zh x.2=0):nX (jx (cO (L.map Prod.fst) (L.map Prod.snd)) (mf (L.map Prod.fst) (L.map Prod.snd))) (.fs g):=by
 have hv:g.validFrom emp:=hg.1;obtain⟨p1,p2⟩:=oe h hv;obtain⟨q1,q2⟩:=xZ h hv;have VV:g.asc:=(bw.1 hg.1).1;have hc:bZ [] L=0:=lF.2 ⟨λx hx=>⟨(p1 x hx).2,hL x hx⟩,p2,λx _=>by simp⟩;unfold jx;by_cases h0:cO (L.map Prod.fst) (L.map Prod.snd)=0
 ·rw [if_pos h0];obtain⟨e1,e2,e3⟩:=C7 h0;rw [uL] at e3;refine(nD (zy.1 e1).2 e2 VV).2 ⟨λx hx=>?_,λs k hs=>?_⟩
  ·rw [e3] at hx;obtain⟨k,w1,w2⟩:=q1 x ((bo L).mem_iff.1 hx);exact⟨true,k,w1,w2⟩
  ·obtain⟨y,hy,ey⟩:=q2 s true k hs;exact⟨y,by rw [e3];exact(bo L).mem_iff.2 hy,ey⟩
 ·rw [if_neg h0];left;unfold cO at h0 ⊢;rw [if_pos (by simp),uL,hc,zu] at h0 ⊢;split
  ·rfl
  ·rename_i h2;rw [if_neg h2] at h0;exact absurd rfl h0
theorem xE{b:Bool}(h:(hdN (zS b)).n=1):b=true:=by
 cases b
 ·exact absurd h (by decide)
 ·rfl
theorem Kx{n:Nd}{ps:Exs}(hl:(ps.len:Int)=zG n)(h:n.op=11\/n.op=12):∃a b,ps = .cons a (.cons b .nil):=by
 have h2:ps.len=2:=by
  unfold zG at hl
  repeat' split at hl
  all_goals omega
 match ps,h2 with
 | .cons a (.cons b .nil),_=>exact⟨a,b,rfl⟩
theorem xH{n:Nd}{ps:Exs}(hl:(ps.len:Int)=zG n)(h:n.op=21\/n.op=22):∃a,ps = .cons a .nil:=by
 have h2:ps.len=1:=by
  unfold zG at hl
  repeat' split at hl
  all_goals omega
 match ps,h2 with
 | .cons a .nil,_=>exact⟨a,rfl⟩
theorem sw{σ:Env}:∀(N:Nat) (x:Ex) (F:jl),x.flat.length<=N->x.valid false->qy σ F->∀V,evX σ x = .ok V->(hdN V).n=1->qy σ (cR x F)
 | 0,x,_,hN,_,_,_,_,_=>absurd (jq x) (by omega)
 | N+1,.node n ps,F,hN,hv,hF,V,he,h1=>by
  have hl:=hv.2.1;by_cases Cb:n.op=21
  ·obtain⟨a,rfl⟩:=xH hl (.inl Cb);have XQ:cR (.node n (.cons a .nil)) F=(a.flat,n.s):: F:=by rw [cR,if_pos Cb];rfl
   rw [XQ];intro z hz y hy ey;rcases List.mem_cons.1 hz with rfl|hz
   ·have hva:a.valid false:=by
     have h2:=hv.2.2;rw [show jG n=false by unfold jG;exact decide_eq_false (by omega)] at h2;exact h2.2.1
    obtain rfl:=OE hy hva ey;rw [evX,if_neg (by omega),if_neg (by omega),if_neg (by omega),if_neg (by omega),if_neg (by omega)] at he;rcases hq:evX σ y with e|Va
    ·simp only [evS,hq] at he;cases he
    ·simp only [evS,hq] at he;rw [if_neg (by omega)] at he;have FM:bq σ.E n Va = .ok V:=he;unfold bq at FM;rw [if_neg (by omega),if_neg (by omega),if_neg (by omega),if_neg (by omega)] at FM;rcases hr:cf σ.E Va with e|(_|r)
     ·rw [hr] at FM;cases FM
     ·rw [hr] at FM;simp only at FM;rw [if_pos Cb] at FM;injection FM with FM;subst FM;exact absurd (xE h1) (by decide)
     ·rw [hr] at FM;simp only at FM;rw [if_pos Cb] at FM;injection FM with FM;subst FM;exact⟨Va,r,hq,hr,of_decide_eq_true (xE h1)⟩
   ·exact hF z hz y hy ey
  by_cases h11:n.op=11
  ·obtain⟨a,b,rfl⟩:=Kx hl (.inl h11);have XQ:cR (.node n (.cons a (.cons b .nil))) F=cR b (cR a F):=by rw [cR,if_neg Cb,if_pos h11,xI,xI,xI]
   rw [XQ];have h2:=hv.2.2;rw [show jG n=false by unfold jG;exact decide_eq_false (by omega)] at h2;simp only [Ex.flat,Exs.flat,List.length_cons,List.length_append,List.length_nil] at hN;rw [evX,if_neg (by omega),if_neg (by omega),if_pos (.inl h11)] at he;rw [show decide (n.op=12)=false from decide_eq_false (by omega)] at he;unfold zZ at he;rcases ha:evX σ a with e|Va
   ·rw [ha] at he;cases he
   ·rw [ha] at he;simp only at he;by_cases hb1:zg Va=1
    ·rw [if_pos hb1] at he;by_cases hn:(hdN Va).n=1
     ·rw [if_neg (by rw [decide_eq_true hn];decide)] at he;have f1:=sw N a F (by omega) h2.2.1 hF Va ha hn;unfold aY at he;rcases hb:evX σ b with e|Vb
      ·rw [hb] at he;cases he
      ·rw [hb] at he;simp only at he;split at he
       ·injection he with he;subst he;exact sw N b _ (by omega) h2.2.2.2.1 f1 _ hb h1
       ·cases he
     ·rw [if_pos (decide_eq_false hn)] at he;injection he with he;subst he;exact absurd h1 hn
    ·rw [if_neg hb1] at he;cases he
  ·have XQ:cR (.node n ps) F=F:=by rw [cR,if_neg Cb,if_neg h11]
   rw [XQ];exact hF
def Db{α β:Type}(R:α->β->Prop):Except Int α->β->Prop
 | .ok L,K=>R L K
 | .error u,_=>u=4\/u=5\/u=8
def OkL(L:List (List Nd))(K:List Kd):Prop:=R9 L K/\∀V∈L,zh V=0
def OkF(L:List (ByteArray × List Nd))(g:Fl):Prop:=Od L g/\∀x∈L,zh x.2=0
theorem LX{τ:Stg}{σ:Env}(hS:iO τ σ){s:ByteArray}{k:Kd}(h:bH τ s = .ok k):nX (bp σ s) k:=by
 unfold bH at h;unfold bp;rw [show eD=eo from rfl,show kh=kd from rfl,show dr=dq from rfl,show dF=dK from rfl];split at h
 ·rename_i e;injection h with h;subst h;rw [if_pos e,<-hS.who];exact yS _
 ·rename_i e;rw [if_neg e];split at h
  ·rename_i e;injection h with h;subst h;rw [if_pos e,<-hS.act];exact yS _
  ·rename_i e;rw [if_neg e];split at h
   ·rename_i e;injection h with h;subst h;rw [if_pos e,<-hS.what];exact yS _
   ·rename_i e;rw [if_neg e];split at h
    ·rename_i e;injection h with h;subst h;rw [if_pos e];exact hS.ctx
    ·cases h
theorem Ph{n:Nd}{k:Kd}(h14:1<=n.op/\n.op<=4)(h:(if n.op=1 then Except.ok (.base 41) else if n.op=2 then .ok (.base 42) else if n.op=3 then .ok (.base 43) else if n.op=4 then .ok (.ent n.s) else .error 0:eR)= .ok k):bF [n] k:=by
 unfold bF;have hc:n.op=1\/n.op=2\/n.op=3\/n.op=4:=by omega
 rcases hc with e|e|e|e
 ·rw [if_pos e] at h;injection h with h;subst h;rw [ol (by exact e)];exact jD _ _ (Nat.le_refl _) trivial
 ·rw [if_neg (by omega),if_pos e] at h;injection h with h;subst h;rw [qQ (by exact e)];exact jD _ _ (Nat.le_refl _) trivial
 ·rw [if_neg (by omega),if_neg (by omega),if_pos e] at h;injection h with h;subst h;rw [uP (by exact e)];exact jD _ _ (Nat.le_refl _) trivial
 ·rw [if_neg (by omega),if_neg (by omega),if_neg (by omega),if_pos e] at h;injection h with h;subst h;rw [oC (by exact e)];exact jD _ _ (Nat.le_refl _) trivial
mutual
theorem tP{τ:Stg}{σ:Env}(hS:iO τ σ):∀(x:Ex) (F:jl) (k:Kd),x.valid false->qy σ F->tyX τ x F = .ok k->nX (evX σ x) k
 | .node n ps,F,k,hv,hF,ht=>by
  obtain⟨h1,hl,h3⟩:=hv;have Wq:∀h:n.op≠6,jG n=false:=λh=>by unfold jG;exact decide_eq_false h
  unfold tyX at ht;by_cases h11:n.op=11
  ·rw [if_pos h11] at ht;rw [evX,if_neg (by omega),if_neg (by omega),if_pos (.inl h11),show decide (n.op=12)=false from decide_eq_false (by omega)];rw [Wq (by omega)] at h3;have h2:ps.len=2:=by
    unfold zG at hl
    repeat' split at hl
    all_goals omega
   exact Ta hS ps _ F k h3 h2 hF ht
  rw [if_neg h11] at ht;by_cases yw:n.op=13
  ·rw [if_pos yw] at ht;rw [evX,if_neg (by omega),if_neg (by omega),if_neg (by omega),if_pos yw];rw [Wq (by omega)] at h3;exact VG hS ps _ F k h3 hF ht
  rw [if_neg yw] at ht;by_cases h6:n.op=6
  ·rw [if_pos h6] at ht;rw [show jG n=true by unfold jG;exact decide_eq_true h6] at h3;have hO:=Am hS.stg ps emp F 1 (by omega) h3;rcases hg:tyF τ ps F 1 with e|g
   ·rw [hg] at ht;cases ht
   ·rw [hg] at ht hO;simp only at ht;injection ht with ht;subst ht;have hkg:KOk (.fs g):=⟨hO.1,by simp only [Kd.sz];have:=hO.2;omega⟩
    rw [evX,if_neg (by omega),if_neg (by omega),if_neg (by omega),if_neg (by omega),if_pos h6];have hR:=UD hS ps _ F 1 g h3 hF hg;rcases hq:evF σ ps with e|L
    ·rw [hq] at hR;exact hR
    ·rw [hq] at hR;exact Tj hkg hR.1 hR.2
  rw [if_neg h6] at ht;rw [Wq h6] at h3;by_cases h14:1<=n.op/\n.op<=4
  ·rw [evX,if_pos h14];rcases hK:tyS τ ps F with e|K
   ·rw [hK] at ht;cases ht
   ·rw [hK] at ht;simp only at ht;refine Ph h14 ?_;rw [<-ht];have hc:n.op=1\/n.op=2\/n.op=3\/n.op=4:=by omega
    rcases hc with e|e|e|e <;> simp [e]
  by_cases h8:n.op=8
  ·rw [evX,if_neg h14,if_pos h8];rcases hK:tyS τ ps F with e|K
   ·rw [hK] at ht;cases ht
   ·rw [hK] at ht;simp only at ht;rw [if_neg (by omega),if_neg (by omega),if_neg (by omega),if_neg (by omega),if_pos h8] at ht;exact LX hS ht
  rcases hK:tyS τ ps F with e|K
  ·rw [hK] at ht;cases ht
  rw [hK] at ht;simp only at ht;have UO:=G8 hS.stg ps _ _ F h3;rw [hK] at UO;by_cases Rv:n.op=12
  ·rw [if_neg (by omega),if_neg (by omega),if_neg (by omega),if_neg (by omega),if_neg (by omega),if_neg (by omega),if_neg (by omega)] at ht;obtain⟨hb,rfl⟩:=vE ht;rw [evX,if_neg h14,if_neg h8,if_pos (.inr Rv),show decide (n.op=12)=true from decide_eq_true Rv];rw [Rv] at hb ⊢;have h2:ps.len=2:=by
    unfold zG at hl
    repeat' split at hl
    all_goals omega
   exact Vx hS ps _ F K h3 h2 hF hK (by simpa [bR] using hb)
  rw [evX,if_neg h14,if_neg h8,if_neg (by omega),if_neg yw,if_neg h6];have hR:=UB hS ps _ F K h3 hF hK;rcases hq:evS σ ps with e|L
  ·rw [hq] at hR;exact hR
  rw [hq] at hR;simp only;obtain⟨hL,QZ⟩:=hR;by_cases h5:n.op=5
  ·rw [if_neg (by omega),if_neg (by omega),if_neg (by omega),if_neg (by omega),if_neg (by omega),if_pos h5] at ht;rw [if_pos h5];exact Tc QZ hL UO ht
  rw [if_neg h5];have hlen:=AG hK;by_cases h22:n.op=22
  ·rw [if_neg (by omega),if_neg (by omega),if_neg (by omega),if_neg (by omega),if_neg (by omega),if_neg (by omega),if_pos h22] at ht;obtain⟨a,rfl⟩:=xH hl (.inr h22)
   match K,hlen,hL,UO,ht with
   | [j],_,hL,UO,ht =>
    match L,hL,QZ,hq with
    | [V],hL,QZ,hq =>
     have he:evX σ a = .ok V:=by
      simp only [evS] at hq;rcases hqa:evX σ a with e|W
      ·rw [hqa] at hq;cases hq
      ·rw [hqa] at hq;simp only at hq;injection hq with hq;injection hq with hq;rw [hq]
     have Yu:mS τ j n.s (dL F a.flat n.s)= .ok k:=ht
     exact Sw hS h22 (UO j (by simp)) (QZ V (by simp)) he hL.1 (λhb=>KY hF h3.2.1 hb) Yu
  ·rw [if_neg (by omega),if_neg (by omega),if_neg (by omega),if_neg (by omega),if_neg (by omega),if_neg (by omega),if_neg h22] at ht;rcases CQ h1 hl (by omega) (by omega) (by omega) (by omega) h5 h6 h8 h11 yw with ⟨ho,h2⟩|⟨ho,h2⟩
   ·rw [h2] at hlen
    match K,hlen,hL,ht with
    | [j],_,hL,ht =>
     match L,hL,QZ with
     | [V],hL,QZ=>exact SE h1 (QZ V (by simp)) hL.1 ht (by omega)
   ·rw [h2] at hlen
    match K,hlen,hL,UO,ht with
    | [j1,j2],_,hL,UO,ht =>
     match L,hL,QZ with
     | [A,B],hL,QZ=>exact Tp (QZ A (by simp)) (QZ B (by simp)) hL.1 hL.2.1 (UO j2 (by simp)) ht (by omega)
theorem UB{τ:Stg}{σ:Env}(hS:iO τ σ):∀(ps:Exs) (l:ByteArray) (F:jl) (K:List Kd),ps.valid false l->qy σ F->tyS τ ps F = .ok K->Db OkL (evS σ ps) K
 | .nil,_,_,K,_,_,h=>by
  rw [tyS] at h;injection h with h;subst h;rw [evS];exact⟨trivial,λ_ h=>(by cases h)⟩
 | .cons a r,l,F,K,hv,hF,h=>by
  rw [tyS] at h;rcases ha:tyX τ a F with e|k
  ·rw [ha] at h;cases h
  rw [ha] at h;simp only at h;rcases hr:tyS τ r F with e|K'
  ·rw [hr] at h;cases h
  rw [hr] at h;simp only at h;injection h with h;subst h;have h1:=tP hS a F k hv.2.1 hF ha;have h2:=UB hS r _ F K' hv.2.2 hF hr;have h3:=eh hS.env a _ hv.2.1;rw [evS];rcases qa:evX σ a with e|V
  ·rw [qa] at h1;exact h1
  rw [qa] at h1;simp only;rcases qr:evS σ r with e|L
  ·rw [qr] at h2;exact h2
  rw [qr] at h2;exact⟨⟨h1,h2.1⟩,λW hW=>(List.mem_cons.1 hW).elim (λe=>by rw [e];exact h3 V qa) (h2.2 W)⟩
theorem UD{τ:Stg}{σ:Env}(hS:iO τ σ):∀(ps:Exs) (l:ByteArray) (F:jl) (c:Nat) (g:Fl),ps.valid true l->qy σ F->tyF τ ps F c = .ok g->Db OkF (evF σ ps) g
 | .nil,_,_,_,g,_,_,h=>by
  rw [tyF] at h;injection h with h;subst h;rw [evF];exact⟨trivial,λ_ h=>(by cases h)⟩
 | .cons a r,l,F,c,g,hv,hF,h=>by
  rw [tyF] at h;rcases ha:pF τ a F with e|k
  ·rw [ha] at h;cases h
  rw [ha] at h;simp only at h;split at h
  ·cases h
  rcases hr:tyF τ r F (c+1+k.sz) with e|g'
  ·rw [hr] at h;cases h
  rw [hr] at h;simp only at h;injection h with h;subst h;have h1:=Tf hS a F k hv.2.1 hF ha;have h2:=UD hS r _ F _ g' hv.2.2 hF hr;rw [evF];rcases qa:ni σ a with e|V
  ·rw [qa] at h1;exact h1
  rw [qa] at h1;simp only;rcases qr:evF σ r with e|L
  ·rw [qr] at h2;exact h2
  rw [qr] at h2;exact⟨⟨rfl,rfl,h1.1,h2.1⟩,λx hx=>(List.mem_cons.1 hx).elim (λe=>by rw [e];exact h1.2) (h2.2 x)⟩
theorem Tf{τ:Stg}{σ:Env}(hS:iO τ σ):∀(x:Ex) (F:jl) (k:Kd),x.valid true->qy σ F->pF τ x F = .ok k->Db (λV k=>bF V k/\zh V=0) (ni σ x) k
 | .node n ps,F,k,hv,hF,h=>by
  have hr:jG n=false:=by
   have h1:=hv.1;unfold bP at h1;rw [Bool.and_eq_true] at h1;have h7:n.op=7:=by simpa using h1.2
   unfold jG;exact decide_eq_false (by omega)
  have h3:=hv.2.2;rw [hr] at h3;exact Ae hS ps _ F k h3 hF h
theorem Ae{τ:Stg}{σ:Env}(hS:iO τ σ):∀(ps:Exs) (l:ByteArray) (F:jl) (k:Kd),ps.valid false l->qy σ F->dU τ ps F = .ok k->Db (λV k=>bF V k/\zh V=0) (k9 σ ps) k
 | .nil,_,_,_,_,_,h=>by cases h
 | .cons a _,_,F,k,hv,hF,h=>by
  have h1:=tP hS a F k hv.2.1 hF h;have h3:=eh hS.env a _ hv.2.1;rw [k9];rcases qa:evX σ a with e|V
  ·rw [qa] at h1;exact h1
  ·rw [qa] at h1;exact⟨h1,h3 V qa⟩
theorem Tz{τ:Stg}{σ:Env}(hS:iO τ σ):∀(ps:Exs) (l:ByteArray) (F:jl) (k:Kd),ps.valid false l->qy σ F->yb τ ps F = .ok k->Db (λV k=>bF V k/\zh V=0) (rk σ ps) k
 | .nil,_,_,_,_,_,h=>by cases h
 | .cons _ r,_,F,k,hv,hF,h=>by
  rw [rk];exact Ae hS r _ F k hv.2.2 hF h
theorem EC{τ:Stg}{σ:Env}(hS:iO τ σ):∀(ps:Exs) (l:ByteArray) (F:jl) (k:Kd),ps.valid false l->qy σ F->dU τ ps F = .ok k->zQ [41] k=true->nX (aY σ ps) (.base 41)
 | .nil,_,_,_,_,_,h,_=>by cases h
 | .cons a _,_,F,k,hv,hF,h,hm=>by
  have h1:=tP hS a F k hv.2.1 hF h;have h3:=eh hS.env a _ hv.2.1;rw [aY];rcases qa:evX σ a with e|V
  ·rw [qa] at h1;exact h1
  ·rw [qa] at h1;have hb:=al (zy.1 (h3 V qa)).2 h1 hm (by decide);simp only;rw [if_pos (by omega)];exact tt (by omega)
theorem Ta{τ:Stg}{σ:Env}(hS:iO τ σ):∀(ps:Exs) (l:ByteArray) (F:jl) (k:Kd),ps.valid false l->ps.len=2->qy σ F->lA τ ps F = .ok k->nX (zZ σ false ps) k
 | .nil,_,_,_,_,h2,_,_=>by simp [Exs.len] at h2
 | .cons a r,l,F,k,hv,h2,hF,h=>by
  rw [lA] at h;rcases ha:tyX τ a F with e|ka
  ·rw [ha] at h;cases h
  rw [ha] at h;simp only at h;rcases hb:dU τ r (cR a F) with e|kb
  ·rw [hb] at h;cases h
  rw [hb] at h;simp only at h;split at h
  ·rename_i hm;rw [Bool.and_eq_true] at hm;injection h with h;subst h;have h1:=tP hS a F ka hv.2.1 hF ha;have h3:=eh hS.env a _ hv.2.1;rw [zZ];rcases qa:evX σ a with e|V
   ·rw [qa] at h1;exact h1
   rw [qa] at h1;have hbo:=al (zy.1 (h3 V qa)).2 h1 hm.1 (by decide);simp only;rw [if_pos (by omega)];split
   ·exact tt (by omega)
   ·rename_i hn;have hn1:(hdN V).n=1:=by simpa using hn
    exact EC hS r _ _ kb hv.2.2 (sw _ a F (Nat.le_refl _) hv.2.1 hF V qa hn1) hb hm.2
  ·cases h
theorem Vx{τ:Stg}{σ:Env}(hS:iO τ σ):∀(ps:Exs) (l:ByteArray) (F:jl) (K:List Kd),ps.valid false l->ps.len=2->qy σ F->tyS τ ps F = .ok K->(∀k∈K,zQ [41] k=true)->nX (zZ σ true ps) (.base 41)
 | .nil,_,_,_,_,h2,_,_,_=>by simp [Exs.len] at h2
 | .cons a .nil,_,_,_,_,h2,_,_,_=>by simp [Exs.len] at h2
 | .cons a (.cons b r),l,F,K,hv,h2,hF,h,hm=>by
  rw [tyS] at h;rcases ha:tyX τ a F with e|ka
  ·rw [ha] at h;cases h
  rw [ha] at h;simp only at h;rw [tyS] at h;rcases hb:tyX τ b F with e|kb
  ·rw [hb] at h;cases h
  rw [hb] at h;simp only at h;rcases hr:tyS τ r F with e|K'
  ·rw [hr] at h;cases h
  rw [hr] at h;simp only at h;injection h with h;subst h;have h1:=tP hS a F ka hv.2.1 hF ha;have h3:=eh hS.env a _ hv.2.1;rw [zZ];rcases qa:evX σ a with e|V
  ·rw [qa] at h1;exact h1
  rw [qa] at h1;have hbo:=al (zy.1 (h3 V qa)).2 h1 (hm ka (by simp)) (by decide);simp only;rw [if_pos (by omega)];split
  ·exact tt (by omega)
  ·exact EC hS (.cons b r) _ F kb hv.2.2 hF (by rw [dU];exact hb) (hm kb (by simp))
theorem VG{τ:Stg}{σ:Env}(hS:iO τ σ):∀(ps:Exs) (l:ByteArray) (F:jl) (k:Kd),ps.valid false l->qy σ F->rY τ ps F = .ok k->nX (lj σ ps) k
 | .nil,_,_,_,_,_,h=>by cases h
 | .cons c r,l,F,k,hv,hF,h=>by
  rw [rY] at h;rcases hc:tyX τ c F with e|kc
  ·rw [hc] at h;cases h
  rw [hc] at h;simp only at h;rcases ha:dU τ r (cR c F) with e|ka
  ·rw [ha] at h;cases h
  rw [ha] at h;simp only at h;rcases hb:yb τ r F with e|kb
  ·rw [hb] at h;cases h
  rw [hb] at h;simp only at h;split at h
  ·rename_i hm;have hk:=NI h;have oa:=pT hS.stg r _ _ (cR c F) hv.2.2;have ob:=Er hS.stg r _ _ F hv.2.2;rw [ha] at oa;rw [hb] at ob;have h1:=tP hS c F kc hv.2.1 hF hc;have h3:=eh hS.env c _ hv.2.1;rw [lj];rcases qc:evX σ c with e|V
   ·rw [qc] at h1;exact h1
   rw [qc] at h1;have hbo:=al (zy.1 (h3 V qc)).2 h1 hm (by decide);simp only;rw [if_pos (by omega)];split
   ·rename_i hn1;have h4:=Ae hS r _ _ ka hv.2.2 (sw _ c F (Nat.le_refl _) hv.2.1 hF V qc hn1) ha;rcases qa:k9 σ r with e|W
    ·rw [qa] at h4;exact h4
    ·rw [qa] at h4;rw [hk];exact Oo (zy.1 h4.2).2 oa ob (.inl h4.1)
   ·have h4:=Tz hS r _ F kb hv.2.2 hF hb;rcases qa:rk σ r with e|W
    ·rw [qa] at h4;exact h4
    ·rw [qa] at h4;rw [hk];exact Oo (zy.1 h4.2).2 oa ob (.inr h4.1)
  ·cases h
end
end Go.Proofs.YthifljpkgfpkiaaGreatDoor
namespace Go.Proofs.YthifljpkgfpkiaaGreatDoor
open Go.RowKit Go.Wk Go.Maps
theorem Dd{P V:List Nd}{f:Fl}(h:Kin P (.fs f))(hv:zh V=0)(hb:gV P V=true):bF V (.fs (lu P)):=by
 rw [fB h];rw [h.has hv] at hb;exact hb
theorem Dz{K:List KD}{L:List AD}{E:List En}{a b c:Ud}{P X:List Nd}{k:Kd}(hs:wQ K L E=0)(ha:pH eG K L a b c P=0)(ht:eM K L a.1 b.2 c.1 X = .ok k):
 nX (dl ⟨E,a,b,c,P⟩ X) k/\∀V,dl ⟨E,a,b,c,P⟩ X = .ok V->zh V=0:=by
 obtain⟨s1,s2,s3⟩:=Ly.1 hs;unfold pH at ha;obtain⟨-,ha⟩:=zB.1 ha;obtain⟨a2,a3⟩:=zB.1 ha;by_cases h:or2 (bn K L) (jz X)=0
 ·obtain⟨-,hX⟩:=zB.1 h;unfold L9 at a3;rcases hact:fj L b.2 with _|x
  ·rw [hact] at a3;cases a3
  rw [hact] at a3;simp only at a3;by_cases hb1:b.1=eG
  ·rw [if_pos hb1] at a3;unfold takes at a3;split at a3
   ·rename_i WF;rw [Bool.and_eq_true] at WF;obtain⟨hh,hk⟩:=WF;obtain⟨hl,y,hy,hXy⟩:=cB.1 hX;rw [oU h hact hh hy hXy] at ht;have ZM:upF ⟨E,a,b,c,P⟩ X=0:=by
     unfold upF;exact zB.2 ⟨s2,zB.2 ⟨a2,hX⟩⟩
    rw [xi ZM hy hXy];have hE:gQ ⟨E,a,b,c,P⟩:=Qm s2 a2;have hS:gW ⟨K,x,a.1,c.1⟩:=GO s1 (List.mem_of_find?_eq_some hact) hh;have hctx:bF P (.fs (lu x.P)):=by
     obtain⟨f,hf⟩:=hS.ctx;exact Dd hf hE.ctx.1 hk
    have hSnd:iO ⟨K,x,a.1,c.1⟩ ⟨E,a,b,c,P⟩:=by
     refine⟨hE,hS,rfl,hb1,rfl,hctx,λz hz=>?_⟩;have hz0:=s3 z hz;unfold Gr at hz0;rcases hd:cN K z.u.1 with _|d
     ·rw [hd] at hz0;cases hz0
     ·rw [hd] at hz0;simp only at hz0;split at hz0
      ·rename_i hq;rw [Bool.and_eq_true] at hq;obtain⟨f,hf⟩:=hS.kds d (List.mem_of_find?_eq_some hd);exact⟨d,rfl,Dd hf (sy (gJ.1 s2).2.1 hz).1 hq.2⟩
      ·cases hz0
    exact⟨tP hSnd y [] k hy (λ_ h=>(by cases h)) ht,λV hV=>eh hE y false hy V hV⟩
   ·cases a3
  ·rw [if_neg hb1] at a3;cases a3
 ·rw [mH h] at ht;cases ht
theorem Mt{K:List KD}{L:List AD}{E:List En}{a b c:Ud}{P X:List Nd}{k:Kd}{V:List Nd}(hs:wQ K L E=0)(ha:pH eG K L a b c P=0)(ht:eM K L a.1 b.2 c.1 X = .ok k)(hV:dl ⟨E,a,b,c,P⟩ X = .ok V):gz k.flat V=0/\gV k.flat V=true:=by
 obtain⟨h1,h2⟩:=Dz hs ha ht;rw [hV] at h1;have h3:=h2 V hV;have hk:KOk k:=by
  have:=QI (K:=K) (L:=L) (who:=a.1) (act:=b.2) (what:=c.1) (P:=X);rw [ht] at this;exact this
 have hkin:Kin k.flat k:=⟨hk.1,rfl,by rw [bW];exact hk.2⟩
 refine⟨?_,?_⟩
 ·unfold gz;rw [if_pos hkin.zero];exact h3
 ·rw [hkin.has h3];exact h1
theorem Kr{K:List KD}{L:List AD}{E:List En}{a b c:Ud}{P X:List Nd}{k:Kd}{u:Int}(hs:wQ K L E=0)(ha:pH eG K L a b c P=0)(ht:eM K L a.1 b.2 c.1 X = .ok k)(hu:dl ⟨E,a,b,c,P⟩ X = .error u):u=4\/u=5\/u=8:=by
 have h1:=(Dz hs ha ht).1;rw [hu] at h1;exact h1
end Go.Proofs.YthifljpkgfpkiaaGreatDoor
namespace Go.Wk
def lH:ByteArray:=⟨#[65]⟩
def yR:ByteArray:=⟨#[115,101,101]⟩
def uA:AD:=⟨yR,[lH],[lH],[⟨46,0,emp,emp⟩]⟩
def SO:Ex := .node ⟨17,0,emp,emp⟩ (.cons (.node ⟨2,2,emp,emp⟩ .nil) (.cons (.node ⟨2,3,emp,emp⟩ .nil) .nil))
theorem QJ:eM [] [uA] lH yR lH [⟨17,0,emp,emp⟩,⟨2,2,emp,emp⟩,⟨2,3,emp,emp⟩] = .ok (.base 42):=by
 have v:SO.valid false:=⟨by decide,by decide,λe=>Bool.noConfusion e,⟨by decide,by decide,trivial⟩,λe=>Bool.noConfusion e,⟨by decide,by decide,trivial⟩,trivial⟩
 have e : [⟨17,0,emp,emp⟩,⟨2,2,emp,emp⟩,⟨2,3,emp,emp⟩]=SO.flat:=rfl;have h1:bn [] [uA]=0:=by decide +kernel
 rw [oU (a:=uA) (zB.2 ⟨h1,cB.2 ⟨by decide,SO,v,e⟩⟩) (by rfl) (by decide) v e];unfold SO;have h2:∀k:Int,tyX ⟨[],uA,lH,lH⟩ (.node ⟨2,k,emp,emp⟩ .nil) [] = .ok (.base 42):=λk=>by
  rw [tyX];rfl
 rw [tyX];simp only [tyS,h2];rfl
end Go.Wk
namespace Go.Proofs.YthifljpkgfpkiaaGreatDoor
open Go.RowKit Go.Wk Go.Sort
theorem Cp(n:Int)(w:World):Calls Tryz.prog 11 #[.int .i64 n] w λe w'=>e = .returned (.agg #[.int .i64 2,.int .i64 n,.string ⟨#[]⟩,.string ⟨#[]⟩])/\Below w.heap.size w w':=by
 go_enter Tryz.func11,Tryz.ntmps11;go_wp2_with fail;exact⟨rfl,.agg #[.int .i64 2,.int .i64 n,.string ⟨#[]⟩,.string ⟨#[]⟩],by simp [results,Tryz.results11,go_sem],rfl,za w _⟩
theorem Cf(w:World)(s:ByteArray)(t:TypeId)(h:s.size<=maxLen):Txs (w.alloc (.cells #[.string s] t)) (some ⟨w.heap.size,0,none⟩) 1 1 [s] :=
 ⟨rfl,Nat.le_refl _,by unfold maxLen;omega,λk x hx=>by
  match k,hx with
  | 0,hx=>injection hx with hx;subst hx;exact⟨_,rfl,zt (heap_alloc_last w _) rfl⟩,λx hx=>by simp only [List.mem_cons,List.not_mem_nil,or_false] at hx;subst hx;exact h⟩
def tO1:Obj := .cells #[.string lH] 9
def tO3:Obj := .cells #[.int .i64 46,.int .i64 0,.string emp,.string emp] 47
def tO4(b:Nat):Obj := .cells #[.string yR,.slice (some ⟨b,0,none⟩) 1 1,.slice (some ⟨b+1,0,none⟩) 1 1,.slice (some ⟨b+1+1,0,none⟩) 1 1] 49
def tO5(b:Nat):Obj := .cells #[.slice none 0 0,.slice (some ⟨b+1+1+1,0,none⟩) 1 1] 25
def tW(w:World):World:=((((w.alloc tO1).alloc tO1).alloc tO3).alloc (tO4 w.heap.size)).alloc (tO5 w.heap.size)
def tS(b:Nat):Sc:=⟨none,0,0,[],some ⟨b+1+1+1,0,none⟩,1,1,[⟨uA,some ⟨b,0,none⟩,1,1,some ⟨b+1,0,none⟩,1,1,some ⟨b+1+1,0,none⟩,1,1⟩]⟩
theorem XB(w:World):Below w.heap.size w (tW w)/\lK (tW w) (tS w.heap.size):=by
 have z1:(w.alloc tO1).heap.size=w.heap.size+1:=by simp
 have z2:((w.alloc tO1).alloc tO1).heap.size=w.heap.size+1+1:=by simp
 have z3:(((w.alloc tO1).alloc tO1).alloc tO3).heap.size=w.heap.size+1+1+1:=by simp
 have b1:=za w tO1;have b2:=za (w.alloc tO1) tO1;have b3:=za ((w.alloc tO1).alloc tO1) tO3;have b4:=za (((w.alloc tO1).alloc tO1).alloc tO3) (tO4 w.heap.size);have b5:=za ((((w.alloc tO1).alloc tO1).alloc tO3).alloc (tO4 w.heap.size)) (tO5 w.heap.size);have t1:Txs (w.alloc tO1) (some ⟨w.heap.size,0,none⟩) 1 1 [lH]:=Cf w lH _ (by decide);have t2:Txs ((w.alloc tO1).alloc tO1) (some ⟨w.heap.size+1,0,none⟩) 1 1 [lH]:=by
  have h:=Cf (w.alloc tO1) lH 9 (by decide);rw [z1] at h;exact h
 have t3:Ns (((w.alloc tO1).alloc tO1).alloc tO3) (some ⟨w.heap.size+1+1,0,none⟩) 1 1 [⟨46,0,emp,emp⟩]:=by
  have h:=nT ((w.alloc tO1).alloc tO1) ⟨46,0,emp,emp⟩ ⟨by decide,by decide,by decide,by decide⟩;rw [z2] at h;exact h
 have a0:((((w.alloc tO1).alloc tO1).alloc tO3).alloc (tO4 w.heap.size)).cell? ⟨w.heap.size+1+1+1,0,none⟩=some (.string yR):=by rw [<-z3];exact zt (heap_alloc_last _ _) rfl
 have a1:((((w.alloc tO1).alloc tO1).alloc tO3).alloc (tO4 w.heap.size)).cell? ⟨w.heap.size+1+1+1,1,none⟩=some (.slice (some ⟨w.heap.size,0,none⟩) 1 1):=by rw [<-z3];exact zt (heap_alloc_last _ _) rfl
 have a2:((((w.alloc tO1).alloc tO1).alloc tO3).alloc (tO4 w.heap.size)).cell? ⟨w.heap.size+1+1+1,2,none⟩=some (.slice (some ⟨w.heap.size+1,0,none⟩) 1 1):=by rw [<-z3];exact zt (heap_alloc_last _ _) rfl
 have a3:((((w.alloc tO1).alloc tO1).alloc tO3).alloc (tO4 w.heap.size)).cell? ⟨w.heap.size+1+1+1,3,none⟩=some (.slice (some ⟨w.heap.size+1+1,0,none⟩) 1 1):=by rw [<-z3];exact zt (heap_alloc_last _ _) rfl
 refine⟨?_,⟨⟨rfl,Nat.le_refl _,Nat.zero_le _,λk x hx=>by cases hx⟩,⟨rfl,Nat.le_refl _,by unfold maxLen;show 1<=_;omega,λk x hx=>?_⟩⟩⟩
 ·exact b1.trans (((b2.mono b1.size)).trans ((b3.mono (by omega)).trans ((b4.mono (by omega)).trans (b5.mono (by simp;omega)))))
 ·match k,hx with
  | 0,hx =>
   injection hx with hx
   subst hx
   exact⟨_,rfl,zb b5 a0,zb b5 a1,zb b5 a2,zb b5 a3,(by show yR.size<=maxLen;decide),(((t1.keep b2).keep b3).keep b4).keep b5,((t2.keep b3).keep b4).keep b5,(t3.keep b4).keep b5⟩
theorem Xt(w:World):Vs (tW w) (w.heap.size+1+1+1+1) (tS w.heap.size):=by
 have h:=lL ((((w.alloc tO1).alloc tO1).alloc tO3).alloc (tO4 w.heap.size)) (tS w.heap.size) 25;rw [show((((w.alloc tO1).alloc tO1).alloc tO3).alloc (tO4 w.heap.size)).heap.size=w.heap.size+1+1+1+1 by simp] at h;exact h
theorem VF(w:World):Ns (w.alloc (.cells #[.int .i64 17,.int .i64 0,.string ⟨#[]⟩,.string ⟨#[]⟩,.int .i64 2,.int .i64 2,.string ⟨#[]⟩,.string ⟨#[]⟩,.int .i64 2,.int .i64 3,.string ⟨#[]⟩,.string ⟨#[]⟩] 47)) (some ⟨w.heap.size,0,none⟩) 3 3 [⟨17,0,emp,emp⟩,⟨2,2,emp,emp⟩,⟨2,3,emp,emp⟩] :=
 ⟨rfl,Nat.le_refl _,by unfold maxLen;omega,Jm w [⟨17,0,emp,emp⟩,⟨2,2,emp,emp⟩,⟨2,3,emp,emp⟩] _,by intro x hx;simp only [List.mem_cons,List.not_mem_nil,or_false] at hx;rcases hx with rfl|rfl|rfl <;> exact⟨by decide,by decide,by decide,by decide⟩⟩
theorem Hj(b:Nat)(w:World)(h:lK w (tS b)):
 Calls Tryz.prog 7 #[.agg #[.slice none 0 0,.slice (some ⟨b+1+1+1,0,none⟩) 1 1],.string ⟨#[65]⟩,.string ⟨#[115,101,101]⟩,.string ⟨#[65]⟩,.slice (some ⟨w.heap.size,0,none⟩) 3 3] (w.alloc (.cells #[.int .i64 17,.int .i64 0,.string ⟨#[]⟩,.string ⟨#[]⟩,.int .i64 2,.int .i64 2,.string ⟨#[]⟩,.string ⟨#[]⟩,.int .i64 2,.int .i64 3,.string ⟨#[]⟩,.string ⟨#[]⟩] 47)) λe w' =>
  ∃A n c,e = .returned (.tuple #[.slice A n c,.nilIface])/\Ns w' A n c [⟨42,0,emp,emp⟩]/\Below w.heap.size w w':=by
 have bb:=za w (.cells #[.int .i64 17,.int .i64 0,.string ⟨#[]⟩,.string ⟨#[]⟩,.int .i64 2,.int .i64 2,.string ⟨#[]⟩,.string ⟨#[]⟩,.int .i64 2,.int .i64 3,.string ⟨#[]⟩,.string ⟨#[]⟩] 47);have K:=tu (tS b) lH yR lH _ 3 3 _ _ (h.keep bb) (by decide) (by decide) (VF w);rw [show eM (tS b).k (tS b).a lH yR lH [⟨17,0,emp,emp⟩,⟨2,2,emp,emp⟩,⟨2,3,emp,emp⟩] = .ok (.base 42) from QJ] at K;exact K.mono λe w' ⟨A,n,c,h1,h2,h3⟩=>⟨A,n,c,h1,h2,bb.trans (h3.mono bb.size)⟩
theorem Kh(w:World):Calls Tryz.prog 4 #[] w λe w'=>e = .returned (.bool true)/\Below w.heap.size w w':=by
 have h0:=XB w;have B0:=O h0.1;have S0:=O h0.2;unfold tW tO1 tO3 tO4 tO5 lH yR emp at B0 S0;clear h0;go_enter Tryz.func4,Tryz.ntmps4;go_wp2_with fail;have VS:=O (show Vs _ (w.heap.size+1+1+1+1) (tS w.heap.size) from Xt w);unfold tW tO1 tO3 tO4 tO5 lH yR emp tS at VS;obtain⟨W,hW⟩:∃W,W=(((((w.alloc (.cells #[.string ⟨#[65]⟩] 9)).alloc (.cells #[.string ⟨#[65]⟩] 9)).alloc (.cells #[.int .i64 46,.int .i64 0,.string ⟨#[]⟩,.string ⟨#[]⟩] 47)).alloc (.cells #[.string ⟨#[115,101,101]⟩,.slice (some ⟨w.heap.size,0,none⟩) 1 1,.slice (some ⟨w.heap.size+1,0,none⟩) 1 1,.slice (some ⟨w.heap.size+1+1,0,none⟩) 1 1] 49)).alloc (.cells #[.slice none 0 0,.slice (some ⟨w.heap.size+1+1+1,0,none⟩) 1 1] 25)):=⟨_,rfl⟩
 rw [<-hW] at B0 S0 VS ⊢;have TY:=O (λw' (hb:Below W.heap.size W w')=>Hj w.heap.size w' (S0.o.keep hb));clear hW S0;obtain⟨c0,c1⟩:=VS.o;have x0:=zb (cn W) c0;have x1:=zb (cn W) c1;have BD:=O (cn W);clear VS;go_region_held3 (λw':World=>w'.cell? ⟨w.heap.size+1+1+1+1,0,none⟩=some (.slice none 0 0)/\w'.cell? ⟨w.heap.size+1+1+1+1,1,none⟩=some (.slice (some ⟨w.heap.size+1+1+1,0,none⟩) 1 1)) (first|(with_reducible exact⟨u0,u1⟩)|(with_reducible exact⟨v0,v1⟩)|(with_reducible exact⟨z0,z1⟩)|(with_reducible exact⟨y0,y1⟩)|(with_reducible exact⟨x0,x1⟩)) (first
  |(go_at_call 7;(with_reducible refine(TY.o _ B2.o).mono ?_);rintro e w6 ⟨A6,n6,c6,rfl,Wd,b6⟩;have N6:=O Wd;have B6:=O (bh B0 (bh B2 b6).o).o;have u0:=zb b6 z0;have u1:=zb b6 z1)
  |(go_at_call 11;(with_reducible refine(Cp _ _).mono ?_);rintro e w2 ⟨rfl,b2⟩;have B2:=bh B1 b2;have z0:=zb b2 y0;have z1:=zb b2 y1;have v0:=zb (za w2 (.cells #[.int .i64 17,.int .i64 0,.string ⟨#[]⟩,.string ⟨#[]⟩,.int .i64 2,.int .i64 2,.string ⟨#[]⟩,.string ⟨#[]⟩,.int .i64 2,.int .i64 3,.string ⟨#[]⟩,.string ⟨#[]⟩] 47)) z0;have v1:=zb (za w2 (.cells #[.int .i64 17,.int .i64 0,.string ⟨#[]⟩,.string ⟨#[]⟩,.int .i64 2,.int .i64 2,.string ⟨#[]⟩,.string ⟨#[]⟩,.int .i64 2,.int .i64 3,.string ⟨#[]⟩,.string ⟨#[]⟩] 47)) z1)
  |(go_at_call 11;(with_reducible refine(Cp _ _).mono ?_);rintro e w1 ⟨rfl,b1⟩;have B1:=bh BD b1;have y0:=zb b1 x0;have y1:=zb b1 x1))
 all_goals
  clear u0 u1 v0 v1 z0 z1 y0 y1 x0 x1 c0 c1 B2 B1 BD TY;have bN:=za w6 (.cells #[.int .i64 42,.int .i64 0,.string ⟨#[]⟩,.string ⟨#[]⟩] 47);have B7:=bh B6 bN;have K2:=O ((N6.o.keep bN).same (nT w6 ⟨42,0,emp,emp⟩ ⟨by decide,by decide,by decide,by decide⟩));rw [decide_eq_true (show zJ [⟨42,0,emp,emp⟩] [⟨42,0,emp,emp⟩]=0 from jg.self _)] at K2;clear bN;go_wp2_with fail;refine K2.o.mono ?_;rintro e w8 ⟨rfl,b8⟩;have B8:=bh B7 b8;clear b8 B7 B6 K2 N6;go_wp2_with fail;go_ret;exact⟨rfl,B8.o⟩
end Go.Proofs.YthifljpkgfpkiaaGreatDoor
