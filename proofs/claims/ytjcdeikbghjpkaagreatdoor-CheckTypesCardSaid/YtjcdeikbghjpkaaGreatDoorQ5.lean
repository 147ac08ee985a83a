/-
  Plain: where the fields of a type stand; below, and the least above two, as the reference has them. No program in sight. What an expression's type is, or what ..
-/
import Derived.Test.YtjcdeikbghjpkaaGreatDoorQ1
import Derived.Test.YtjcdeikbghjpkaaGreatDoorQ2
import Derived.Test.YtjcdeikbghjpkaaGreatDoorQ3
import Derived.Test.YtjcdeikbghjpkaaGreatDoorQ4
set_option maxRecDepth 100000
namespace Go.Wk
def zbM(s:ByteArray)(m:Bool):Nd:=⟨47,if m=true then 1 else 0,s,emp⟩
structure zff(t:List Nd)(q:Nat)(s:ByteArray)(m:Bool)(k:Kd):Prop where
 nd:t[q]?=some (zbM s m)
 valid:k.valid
 drop:∃r,t.drop (q+1)=k.flat ++ r
theorem zff.end_{t:List Nd}{q:Nat}{s:ByteArray}{m:Bool}{k:Kd}(h:zff t q s m k):zae t (q+1)=((q+1+k.flat.length:Nat):Int):=by
 obtain⟨r,e⟩:=h.drop;exact zo2 h.valid e
theorem jL(k:Kd):1≤k.flat.length:=by cases k <;> simp [Kd.flat]
theorem zff.le{t:List Nd}{q:Nat}{s:ByteArray}{m:Bool}{k:Kd}(h:zff t q s m k):q+1+k.flat.length≤t.length:=by
 obtain⟨r,e⟩:=h.drop;have h1:=congrArg List.length e;rw [List.length_drop,List.length_append] at h1;have:=jL k;omega
theorem zff.seg{t:List Nd}{q:Nat}{s:ByteArray}{m:Bool}{k:Kd}(h:zff t q s m k):seg t (q+1) (q+1+k.flat.length)=k.flat:=by
 obtain⟨r,e⟩:=h.drop;unfold Wk.seg;rw [e,show q+1+k.flat.length-(q+1)=k.flat.length by omega,List.take_left]
theorem zeC:∀f:Fl,f.list.length=f.len
 | .nil=>rfl
 | .cons _ _ _ r=>by simp [Fl.list,Fl.len,zeC r]
theorem zh7:∀(f:Fl) (p:Nat),(zc6 p f).length=f.len
 | .nil,_=>rfl
 | .cons _ _ _ r,p=>by simp [zc6,Fl.len,zh7 r]
structure za9(t:List Nd)(p:Nat)(g:Fl):Prop where
 valid:∃x,g.validFrom x
 drop:∃r,t.drop p=g.flat ++ r
theorem za9.head{t:List Nd}{p:Nat}{s:ByteArray}{m:Bool}{k:Kd}{r:Fl}(h:za9 t p (.cons s m k r)):zff t p s m k∧za9 t (p+1+k.flat.length) r:=by
 obtain⟨⟨x,v1,v2,v3,v4⟩,⟨u,e⟩⟩:=h;simp only [Fl.flat,List.cons_append,List.append_assoc] at e;have h0:t[p]?=some (zbM s m):=by
  have:=congrArg (fun l=>l[0]?) e;simpa [zbM] using this
 have h1:t.drop (p+1)=k.flat ++(r.flat ++ u):=by
  have:=congrArg (List.drop 1) e;rw [List.drop_drop] at this;simpa using this
 refine⟨⟨h0,v3,_,h1⟩,⟨s,v4⟩,u,?_⟩;have:=congrArg (List.drop k.flat.length) h1;rw [List.drop_drop,List.drop_left] at this;exact this
theorem za9.start{f:Fl}(h:f.validFrom emp):za9 (Kd.fs f).flat 1 f:=⟨⟨_,h⟩,[],by simp [Kd.flat]⟩
theorem za9.at{t:List Nd}:∀ {f:Fl} {p:Nat},za9 t p f→∀(i:Nat) (y:Kfd),f.list[i]?=some y→∃q:Nat,(zc6 p f)[i]?=some q∧zff t q y.1 y.2.1 y.2.2
 | .nil,_,_,i,y,h=>by simp [Fl.list] at h
 | .cons s m k r,p,hL,i,y,h=>by
  obtain⟨h1,h2⟩:=hL.head
  cases i with
  | zero =>
   simp only [Fl.list,List.getElem?_cons_zero,Option.some.injEq] at h
   subst h
   exact⟨p,by simp [zc6],h1⟩
  | succ i =>
   simp only [Fl.list,List.getElem?_cons_succ] at h
   obtain⟨q,e1,e2⟩:=h2.at i y h
   exact⟨q,by simpa [zc6] using e1,e2⟩
def zcu:Nat→Fl→ByteArray→Int
 | _,.nil,_ => -1
 | p,.cons t _ k r,s=>if t=s then(p:Int) else zcu (p+1+k.flat.length) r s
theorem zcv{s:ByteArray}:∀ {f:Fl} {p:Nat},f.find s=none→zcu p f s = -1
 | .nil,_,_=>rfl
 | .cons t m k r,p,h=>by
  simp only [Fl.find] at h;split at h
  ·cases h
  ·rename_i hn;simp only [zcu,if_neg hn];exact zcv h
theorem zbo{t:List Nd}{s:ByteArray}{m:Bool}{k:Kd}:∀ {f:Fl} {p:Nat},za9 t p f→f.find s=some (m,k)→∃q:Nat,zcu p f s=(q:Int)∧zff t q s m k
 | .nil,_,_,h=>by cases h
 | .cons u m' k' r,p,hL,h=>by
  obtain⟨h1,h2⟩:=hL.head;simp only [Fl.find] at h;split at h
  ·rename_i e;subst e;simp only [Option.some.injEq,Prod.mk.injEq] at h;obtain⟨rfl,rfl⟩:=h;exact⟨p,by simp [zcu],h1⟩
  ·rename_i hn;obtain⟨q,e1,e2⟩:=zbo h2 h;exact⟨q,by simp only [zcu,if_neg hn];exact e1,e2⟩
def zcz(last nx s:ByteArray):ByteArray:=if 0<zO s last∧(nx=emp∨zO s nx<0) then s else nx
theorem zoi{s:ByteArray}(h:s≠emp):zO emp s<0:=by
 rcases Int.lt_trichotomy (zO emp s) 0 with q|q|q
 ·exact q
 ·exact absurd ((zt.zero _ _).1 q).symm h
 ·exfalso;have h1:zO s emp<0:=by have:=zt.anti emp s;omega
  revert h1;unfold zO;show Lib.compareBytes s.data.toList []<0→False;cases s.data.toList <;> simp [Lib.compareBytes]
structure zbi(L:List ByteArray)(last nx:ByteArray):Prop where
 in_:nx≠emp→nx∈L∧0<zO nx last
 low:∀s∈L,0<zO s last→nx≠emp∧¬zO s nx<0
theorem zbi.nil(last:ByteArray):zbi [] last emp:=⟨fun h=>absurd rfl h,fun _ h=>nomatch h⟩
theorem zbi.step{L:List ByteArray}{last nx s:ByteArray}(h:zbi L last nx)(hs:s≠emp):zbi (L ++ [s]) last (zcz last nx s):=by
 unfold zcz;split
 ·rename_i hc;refine⟨fun _=>⟨by simp,hc.1⟩,fun u hu hul=>⟨hs,?_⟩⟩;rcases List.mem_append.1 hu with h1|h1
  ·obtain⟨h2,h3⟩:=h.low u h1 hul;have h4:=hc.2.resolve_left h2;intro h5;exact h3 (zt.lt_le h5 (by omega))
  ·simp only [List.mem_cons,List.not_mem_nil,or_false] at h1;subst h1;rw [zt.self];omega
 ·rename_i hc;refine⟨fun hn=>⟨by simp [(h.in_ hn).1],(h.in_ hn).2⟩,fun u hu hul=>?_⟩;rcases List.mem_append.1 hu with h1|h1
  ·exact h.low u h1 hul
  ·simp only [List.mem_cons,List.not_mem_nil,or_false] at h1;subst h1;exact⟨fun e=>hc ⟨hul,.inl e⟩,fun e=>hc ⟨hul,.inr e⟩⟩
theorem ziy{f:Fl}{s:ByteArray}:s∈f.list.map (·.1)↔(f.find s).isSome=true:=by
 rcases h:f.find s with _|v
 ·rw [zeu] at h;simp only [List.mem_map,Option.isSome_none,Bool.false_eq_true,iff_false];rintro ⟨y,hy,e⟩;exact h y hy e
 ·simp only [Option.isSome_some,iff_true];apply Classical.byContradiction;intro hn;have:f.find s=none:=zeu.2 fun y hy e=>hn (List.mem_map.2 ⟨y,hy,e⟩);rw [this] at h;cases h
def zav(f g:Fl):List Kfd:=(jC f g (jK g f)).list
def zcK(J:List Kfd)(i:Nat):ByteArray:=match i with|0=>emp|i+1=>(J[i]?.map (·.1)).getD emp
theorem zfT{x:ByteArray}:∀ {f:Fl},f.validFrom x→∀y∈f.list,y.1≠emp
 | .nil,_,y,hy=>by cases hy
 | .cons s m k r,h,y,hy=>by
  rcases List.mem_cons.1 hy with rfl|hy
  ·intro e;have h1:=h.2.1;simp only at e;rw [e] at h1;revert h1;decide
  ·exact zfT h.2.2.2 y hy
theorem zlK{f g:Fl}(hf:f.asc)(s:ByteArray):s∈(zav f g).map (·.1)↔s∈f.list.map (·.1)++ g.list.map (·.1):=by
 unfold zav;rw [ziy,zaV hf,List.mem_append,ziy,ziy];rcases f.find s with _|⟨m,k⟩<;> rcases g.find s with _|⟨m',k'⟩<;> simp [jn]
theorem zrM{f g:Fl}(hf:f.validFrom emp)(hg:g.validFrom emp)(af:f.asc)(ag:g.asc){i:Nat}(hi:i≤(zav f g).length){nx:ByteArray}(h:zbi (f.list.map (·.1)++ g.list.map (·.1)) (zcK (zav f g) i) nx):
 (∀hl:i<(zav f g).length,nx=(zav f g)[i].1∧nx≠emp)∧(i=(zav f g).length→nx=emp):=by
 have hp:=zfu (zcG af ag);have hnm:=zlK (g:=g) af;have hne:∀y∈zav f g,y.1≠emp:=fun y hy e=>by
  have:=(hnm y.1).1 (List.mem_map.2 ⟨y,hy,rfl⟩);rw [List.mem_append,List.mem_map,List.mem_map] at this;rcases this with ⟨z,hz,e2⟩|⟨z,hz,e2⟩
  ·exact zfT hf z hz (e2.trans e)
  ·exact zfT hg z hz (e2.trans e)
 have hp':(zav f g).Pairwise fun a b=>zO a.1 b.1<0:=hp;generalize zav f g=J at *;have up:∀j (hj:j<J.length),i≤j→0<zO J[j].1 (zcK J i):=fun j hj hij=>by
  have h1:zO (zcK J i) J[j].1<0:=by
   cases i with
   | zero=>exact zoi (hne _ (List.getElem_mem hj))
   | succ i =>
    have:zcK J (i+1)=J[i].1:=by simp [zcK,List.getElem?_eq_getElem (show i<J.length by omega)]
    rw [this]
    exact List.pairwise_iff_getElem.1 hp' i j (by omega) hj (by omega)
  have:=zt.anti (zcK J i) J[j].1;omega
 have down:∀j (hj:j<J.length),j<i→¬0<zO J[j].1 (zcK J i):=fun j hj hij=>by
  cases i with
  | zero=>omega
  | succ i =>
   have:zcK J (i+1)=J[i].1:=by simp [zcK,List.getElem?_eq_getElem (show i<J.length by omega)]
   rw [this]
   rcases Nat.lt_or_ge j i with q|q
   ·have:=List.pairwise_iff_getElem.1 hp' j i hj (by omega) q
    omega
   ·have:j=i:=by omega
    subst this;rw [zt.self];omega
 constructor
 ·intro hl;have h1:=h.low J[i].1 ((hnm _).1 (List.mem_map.2 ⟨_,List.getElem_mem hl,rfl⟩)) (up i hl (Nat.le_refl _));obtain⟨h2,h3⟩:=h.in_ h1.1;obtain⟨y,hy,e⟩:=List.mem_map.1 ((hnm _).2 h2);obtain⟨j,hj,rfl⟩:=List.getElem_of_mem hy;refine⟨?_,h1.1⟩;rcases Nat.lt_trichotomy j i with q|q|q
  ·exact absurd (e ▸ h3) (down j hj q)
  ·subst q;exact e.symm
  ·have:=List.pairwise_iff_getElem.1 hp' i j hl hj q;rw [e] at this;exact absurd this h1.2
 ·intro he;apply Decidable.byContradiction;intro hn;obtain⟨h2,h3⟩:=h.in_ hn;obtain⟨y,hy,e⟩:=List.mem_map.1 ((hnm _).2 h2);obtain⟨j,hj,rfl⟩:=List.getElem_of_mem hy;exact down j hj (by omega) (e ▸ h3)
theorem zsa{f g:Fl}(af:f.asc)(ag:g.asc){i:Nat}(hi:i<(zav f g).length):jn (f.find (zav f g)[i].1) (g.find (zav f g)[i].1)=some ((zav f g)[i].2.1,(zav f g)[i].2.2):=by
 rw [←zaV af];exact(zaX (zcG af ag)).2 (List.getElem_mem hi)
theorem zkA:∀n:Nat,(∀k:Kd,k.sz≤n→k.flat.length=k.sz)∧(∀f:Fl,f.sz≤n→f.flat.length=f.sz)
 | 0=>by
  refine⟨fun k h=>by cases k <;> simp [Kd.sz] at h,fun f h=>?_⟩
  cases f with
  | nil=>rfl
  | cons s m k r=>simp [Fl.sz] at h
 | n+1=>by
  obtain⟨ihK,ihF⟩:=zkA n;refine⟨fun k h=>?_,fun f h=>?_⟩
  ·cases k with
   | base x=>rfl
   | ent s=>rfl
   | set p=>simp only [Kd.sz] at h;simp only [Kd.flat,Kd.sz,List.length_cons];rw [ihK p (by omega)]
   | fs f=>simp only [Kd.sz] at h;simp only [Kd.flat,Kd.sz,List.length_cons];rw [ihF f (by omega)]
  ·cases f with
   | nil=>rfl
   | cons s m k r =>
    simp only [Fl.sz] at h
    simp only [Fl.flat,Fl.sz,List.length_cons,List.length_append]
    rw [ihK k (by omega),ihF r (by omega)]
theorem jd(k:Kd):k.flat.length=k.sz:=(zkA _).1 k (Nat.le_refl _)
theorem zjK(f:Fl):f.flat.length=f.sz:=(zkA _).2 f (Nat.le_refl _)
theorem zje(L:List Kfd)(y:Kfd):(ofL (L ++ [y])).flat=(ofL L).flat ++(zbM y.1 y.2.1 :: y.2.2.flat):=by
 induction L with
 | nil=>simp [ofL,Fl.flat,zbM]
 | cons z r ih=>simp only [List.cons_append,ofL,Fl.flat,ih,List.append_assoc]
def zP(n:Int)(J:List Kfd)(i:Nat):List Nd:=⟨46,n,emp,emp⟩::(ofL (J.take i)).flat
theorem zjF{J:List Kfd}{i:Nat}(h:i<J.length)(n:Int):zP n J (i+1)=⟨46,n,emp,emp⟩::((ofL (J.take i)).flat ++ [zbM J[i].1 J[i].2.1] ++ J[i].2.2.flat):=by
 unfold zP;rw [List.take_succ_eq_append_getElem h,zje,List.append_assoc];rfl
theorem zqz{f g:Fl}:zP ((zav f g).length:Int) (zav f g) (zav f g).length=(Kd.fs (jC f g (jK g f))).flat:=by
 unfold zP zav;rw [List.take_length,zef,zeC,Kd.flat]
theorem zgM:∀(J:List Kfd) (i:Nat),(ofL (J.take i)).sz≤(ofL J).sz
 | [],_=>by simp
 | y :: r,0=>by simp [ofL,Fl.sz]
 | y :: r,i+1=>by
  have:=zgM r i;simp only [List.take_succ_cons,ofL,Fl.sz];omega
theorem zqY(n:Int)(J:List Kfd)(i:Nat):(zP n J i).length≤(ofL J).sz+1:=by
 unfold zP;rw [List.length_cons,zjK];have:=zgM J i;omega
theorem zic{s:ByteArray}(h:zd s=0):s.size≤20:=by
 unfold zd at h;split at h
 ·split at h
  ·cases h
  ·omega
 ·cases h
theorem zjG:∀ {f:Fl} {x:ByteArray},f.validFrom x→∀y∈f.list,zd y.1=0∧y.2.2.valid
 | .nil,_,_,y,hy=>by cases hy
 | .cons s m k r,_,h,y,hy=>by
  rcases List.mem_cons.1 hy with rfl|hy
  ·exact⟨h.2.1,h.2.2.1⟩
  ·exact zjG h.2.2.2 y hy
structure Stg where
 K:List KD
 a:AD
 who:ByteArray
 what:ByteArray
abbrev zy:=List (List Nd × ByteArray)
abbrev zb1:=Except Int Kd
def jp(F:zy)(P:List Nd)(s:ByteArray):Bool:=F.any fun x=>decide (x.2=s)&& decide (zW x.1 P=0)
def kOp:Kd→Int
 | .base x=>x
 | .ent _=>44
 | .set _=>45
 | .fs _=>46
def zj(l:List Int)(k:Kd):Bool:=decide (kOp k=49)|| l.contains (kOp k)
def za6(k:Kd):zb1:=if 200<k.sz then .error 4 else .ok k
def zek(P:List Nd):Fl:=match zcY P with
 | some (.fs f)=>f
 | _ => .nil
def zaQ:ByteArray:=⟨#[112,114,105,110,99,105,112,97,108]⟩
def zbU:ByteArray:=⟨#[97,99,116,105,111,110]⟩
def zah:ByteArray:=⟨#[114,101,115,111,117,114,99,101]⟩
def zal:ByteArray:=⟨#[99,111,110,116,101,120,116]⟩
def zcQ:ByteArray:=⟨#[65,99,116,105,111,110]⟩
def jF(τ:Stg)(s:ByteArray):zb1 :=
 if s=zaQ then .ok (.ent τ.who) else if s=zbU then .ok (.ent zcQ) else if s=zah then .ok (.ent τ.what) else if s=zal then .ok (.fs (zek τ.a.P)) else .error 3
def zaM(g:Fl)(s:ByteArray)(known:Bool):zb1:=match g.find s with
 | some (m,k)=>if m || known then .ok k else .error 3
 | none => .error 3
def zca(τ:Stg)(k:Kd)(s:ByteArray)(known:Bool):zb1:=match k with
 | .base x=>if x=49 then .ok (.base x) else .error 2
 | .set _ => .error 2
 | .ent u=>match zaE τ.K u with
  | none => .error 3
  | some d=>zaM (zek d.P) s known
 | .fs g=>zaM g s known
def zaF:Kd→List Kd→zb1
 | k,[]=>za6 (.set k)
 | k,p :: r=>if 200<(zm k p).sz then .error 4 else zaF (zm k p) r
def zbd:Kd→Bool
 | .set p=>zj [44] p
 | k=>zj [44] k
def j9(op:Int)(L:List Kd):Bool :=
 if op=9∨op=12 then L.all (zj [41])
 else if op=10∨15≤op∧op≤19 then L.all (zj [42])
 else if op=23 then(L.take 1).all (zj [43])
 else if op=24 then(L.take 1).all (zj [44])
 else if op=21 then(L.take 1).all (zj [46,44])
 else if op=25 then(L.take 1).all (zj [45])
 else if op=26∨op=27 then L.all (zj [45])
 else if op=20 then(L.take 1).all (zj [44])&&(L.drop 1).all zbd
 else true
def zG(op:Int)(L:List Kd):zb1:=if j9 op L=true then .ok (.base (if op=10∨17≤op∧op≤19 then 42 else 41)) else .error 2
def zng:Exs→List Nd
 | .nil => []
 | .cons x _=>x.flat
mutual
def zbw:Ex→zy→zy
 | .node n ps,F=>if n.op=21 then(zng ps,n.s):: F else if n.op=11 then zeR ps F else F
def zeR:Exs→zy→zy
 | .nil,F=>F
 | .cons x r,F=>zeR r (zbw x F)
end
mutual
def tyX(τ:Stg):Ex→zy→zb1
 | .node n ps,F =>
  if n.op=11 then zbL τ ps F
  else if n.op=13 then zdQ τ ps F
  else if n.op=6 then(match tyF τ ps F 1 with
   | .error e => .error e
   | .ok f => .ok (.fs f))
  else match tyS τ ps F with
   | .error e => .error e
   | .ok L =>
    if n.op=1 then .ok (.base 41) else if n.op=2 then .ok (.base 42) else if n.op=3 then .ok (.base 43) else if n.op=4 then .ok (.ent n.s)
    else if n.op=8 then jF τ n.s
    else if n.op=5 then zaF (.base 49) L
    else if n.op=22 then(match L with
     | k :: _=>zca τ k n.s (jp F (zng ps) n.s)
     | [] => .error 0)
    else zG n.op L
def zbL(τ:Stg):Exs→zy→zb1
 | .nil,_ => .error 0
 | .cons a r,F=>match tyX τ a F with
  | .error e => .error e
  | .ok k=>match za2 τ r (zbw a F) with
   | .error e => .error e
   | .ok j=>if zj [41] k && zj [41] j then .ok (.base 41) else .error 2
def zdQ(τ:Stg):Exs→zy→zb1
 | .nil,_ => .error 0
 | .cons c r,F=>match tyX τ c F with
  | .error e => .error e
  | .ok k=>match za2 τ r (zbw c F) with
   | .error e => .error e
   | .ok a=>match zd2 τ r F with
    | .error e => .error e
    | .ok b=>if zj [41] k then za6 (zm a b) else .error 2
def za2(τ:Stg):Exs→zy→zb1
 | .nil,_ => .error 0
 | .cons a _,F=>tyX τ a F
def zd2(τ:Stg):Exs→zy→zb1
 | .nil,_ => .error 0
 | .cons _ r,F=>za2 τ r F
def tyS(τ:Stg):Exs→zy→Except Int (List Kd)
 | .nil,_ => .ok []
 | .cons x r,F=>match tyX τ x F with
  | .error e => .error e
  | .ok k=>match tyS τ r F with
   | .error e => .error e
   | .ok L => .ok (k :: L)
def tyF(τ:Stg):Exs→zy→Nat→Except Int Fl
 | .nil,_,_ => .ok .nil
 | .cons x r,F,c=>match zbN τ x F with
  | .error e => .error e
  | .ok k=>if 200<c+1+k.sz then .error 4 else match tyF τ r F (c+1+k.sz) with
   | .error e => .error e
   | .ok f => .ok (.cons x.head.s true k f)
def zbN(τ:Stg):Ex→zy→zb1
 | .node _ ps,F=>za2 τ ps F
end
structure zcF(τ:Stg):Prop where
 kds:∀d∈τ.K,∃f,Kin d.P (.fs f)
 ctx:∃f,Kin τ.a.P (.fs f)
 who:zd τ.who=0
 what:zd τ.what=0
def KOk(k:Kd):Prop:=k.valid∧k.sz≤200
def TOk:zb1→Prop
 | .error _=>True
 | .ok k=>KOk k
theorem zcc{x:Int}(h:jq x):KOk (.base x):=⟨h,by simp [Kd.sz]⟩
theorem zkq{s:ByteArray}(h:zd s=0):KOk (.ent s):=⟨h,by simp [Kd.sz]⟩
theorem zkp{P:List Nd}{k:Kd}(h:Kin P k):KOk k:=⟨h.v,by have:=h.l;rw [h.e,jd] at this;exact this⟩
theorem KOk.kin{k:Kd}(h:KOk k):Kin k.flat k:=⟨h.1,rfl,by rw [jd];exact h.2⟩
theorem zck{P:List Nd}{f:Fl}(h:Kin P (.fs f)):zek P=f:=by unfold zek;rw [h.read]
theorem zme{k:Kd}(h:k.valid):TOk (za6 k):=by
 unfold za6;split
 ·trivial
 ·rename_i h1;exact⟨h,by omega⟩
theorem zp6{g:Fl}(h:KOk (.fs g))(s:ByteArray)(b:Bool):TOk (zaM g s b):=by
 unfold zaM;rcases hf:g.find s with _|⟨m,k⟩
 ·trivial
 ·simp only;split
  ·have h1:=zbG hf;have h2:=h.2;simp only [Kd.sz] at h2;exact⟨zdY (zb5.1 h.1).2 hf,by omega⟩
  ·trivial
theorem ziR{K:List KD}{s:ByteArray}{d:KD}(h:zaE K s=some d):d∈K:=List.mem_of_find?_eq_some h
theorem zsV{τ:Stg}(hτ:zcF τ){k:Kd}(h:KOk k)(s:ByteArray)(b:Bool):TOk (zca τ k s b):=by
 unfold zca
 cases k with
 | base x => simp only; split
             ·exact h
             ·trivial
 | set p=>trivial
 | ent u =>
  simp only
  rcases hk:zaE τ.K u with _|d
  ·trivial
  ·obtain⟨f,hf⟩:=hτ.kds d (ziR hk)
   simp only;rw [zck hf];exact zp6 (zkp hf) s b
 | fs g=>exact zp6 h s b
theorem zqh{τ:Stg}(hτ:zcF τ)(s:ByteArray):TOk (jF τ s):=by
 unfold jF;split
 ·exact zkq hτ.who
 ·split
  ·exact zkq (by decide)
  ·split
   ·exact zkq hτ.what
   ·split
    ·obtain⟨f,hf⟩:=hτ.ctx;rw [zck hf];exact zkp hf
    ·trivial
theorem zlf:∀(L:List Kd) {k:Kd},KOk k→(∀p∈L,KOk p)→TOk (zaF k L)
 | [],k,h,_=>zme (show(Kd.set k).valid from h.1)
 | p :: r,k,h,hL=>by
  unfold zaF;split
  ·trivial
  ·rename_i h1;exact zlf r ⟨zay _ k p (Nat.le_refl _) h.1 (hL p (by simp)).1,by omega⟩ fun q hq=>hL q (by simp [hq])
theorem zr0(op:Int)(L:List Kd):TOk (zG op L):=by
 unfold zG;split
 ·split
  ·exact zcc (by decide)
  ·exact zcc (by decide)
 ·trivial
def zto:Except Int (List Kd)→Prop
 | .error _=>True
 | .ok L=>∀k∈L,KOk k
def FOk(c:Nat)(x:ByteArray):Except Int Fl→Prop
 | .error _=>True
 | .ok f=>f.validFrom x∧c+f.sz≤200
theorem zrp{x:Ex}(h:x.valid true):zd x.head.s=0:=by
 obtain⟨n,ps⟩:=x;have h1:=h.1;unfold zad at h1;rw [Bool.and_eq_true] at h1;have h7:n.op=7:=by simpa using h1.2
 have h2:=h1.1;unfold jv at h2;rw [if_pos (by omega)] at h2;unfold ja at h2;simp only [Ex.head];simp [h7] at h2;exact h2.2
theorem zps(τ:Stg):∀(ps:Exs) (F:zy),TOk (zbL τ ps F)
 | .nil,_=>trivial
 | .cons _ _,_=>by
  unfold zbL;split
  ·trivial
  ·split
   ·trivial
   ·split
    ·exact zcc (by decide)
    ·trivial
mutual
theorem zc2{τ:Stg}(hτ:zcF τ):∀(x:Ex) (f:Bool) (F:zy),x.valid f→TOk (tyX τ x F)
 | .node n ps,f,F,h=>by
  unfold tyX;split
  ·exact zps τ ps F
  ·split
   ·exact zrH hτ ps _ _ F h.2.2
   ·split
    ·rename_i h6;have hv:=h.2.2;rw [show zA n=true by unfold zA;exact decide_eq_true h6] at hv;have:=zmK hτ ps emp F 1 (by omega) hv;rcases hr:tyF τ ps F 1 with e|g
     ·trivial
     ·rw [hr] at this;exact⟨this.1,by simp only [Kd.sz];have:=this.2;omega⟩
    ·have hS:=zqO hτ ps _ _ F h.2.2;rcases hr:tyS τ ps F with e|L
     ·trivial
     ·rw [hr] at hS;simp only;split
      ·exact zcc (by decide)
      ·split
       ·exact zcc (by decide)
       ·split
        ·exact zcc (by decide)
        ·split
         ·rename_i h4;have h1:=h.1;unfold zad at h1;rw [Bool.and_eq_true] at h1;have h2:=h1.1;unfold jv at h2;rw [if_pos (by omega)] at h2;unfold ja at h2;refine zkq ?_;simp [h4] at h2;exact h2.1.2
         ·split
          ·exact zqh hτ _
          ·split
           ·exact zlf L (zcc (by decide)) hS
           ·split
            ·cases L with
             | nil=>trivial
             | cons k r=>exact zsV hτ (hS k (by simp)) _ _
            ·exact zr0 _ _
theorem zrH{τ:Stg}(hτ:zcF τ):∀(ps:Exs) (c:Bool) (l:ByteArray) (F:zy),ps.valid c l→TOk (zdQ τ ps F)
 | .nil,_,_,_,_=>trivial
 | .cons a r,c,l,F,h=>by
  have h1:=zi0 hτ r _ _ (zbw a F) h.2.2;have h2:=zq1 hτ r _ _ F h.2.2;unfold zdQ;split
  ·trivial
  ·split
   ·trivial
   ·rename_i e1;rw [e1] at h1;split
    ·trivial
    ·rename_i e2;rw [e2] at h2;split
     ·exact zme (zay _ _ _ (Nat.le_refl _) h1.1 h2.1)
     ·trivial
theorem zi0{τ:Stg}(hτ:zcF τ):∀(ps:Exs) (c:Bool) (l:ByteArray) (F:zy),ps.valid c l→TOk (za2 τ ps F)
 | .nil,_,_,_,_=>trivial
 | .cons a _,_,_,F,h=>zc2 hτ a _ F h.2.1
theorem zq1{τ:Stg}(hτ:zcF τ):∀(ps:Exs) (c:Bool) (l:ByteArray) (F:zy),ps.valid c l→TOk (zd2 τ ps F)
 | .nil,_,_,_,_=>trivial
 | .cons _ r,_,_,F,h=>zi0 hτ r _ _ F h.2.2
theorem zqO{τ:Stg}(hτ:zcF τ):∀(ps:Exs) (c:Bool) (l:ByteArray) (F:zy),ps.valid c l→zto (tyS τ ps F)
 | .nil,_,_,_,_=>by unfold tyS;exact fun _ h=>nomatch h
 | .cons a r,c,l,F,h=>by
  have h1:=zc2 hτ a _ F h.2.1;have h2:=zqO hτ r _ _ F h.2.2;unfold tyS;split
  ·trivial
  ·rename_i e1;rw [e1] at h1;split
   ·trivial
   ·rename_i e2;rw [e2] at h2;intro k hk;rcases List.mem_cons.1 hk with rfl|hk
    ·exact h1
    ·exact h2 k hk
theorem zmK{τ:Stg}(hτ:zcF τ):∀(ps:Exs) (l:ByteArray) (F:zy) (c:Nat),c≤200→ps.valid true l→FOk c l (tyF τ ps F c)
 | .nil,_,_,c,hc,_=>by unfold tyF;exact⟨trivial,by simp only [Fl.sz];omega⟩
 | .cons a r,l,F,c,hc,h=>by
  have h1:=zpC hτ a _ F h.2.1;unfold tyF;split
  ·trivial
  ·rename_i k e1;rw [e1] at h1;split
   ·trivial
   ·rename_i hs;have h2:=zmK hτ r _ F (c+1+k.sz) (by omega) h.2.2;split
    ·trivial
    ·rename_i e2;rw [e2] at h2;refine⟨⟨h.1 rfl,zrp h.2.1,h1.1,h2.1⟩,?_⟩;have:=h2.2;simp only [Fl.sz];omega
theorem zpC{τ:Stg}(hτ:zcF τ):∀(x:Ex) (f:Bool) (F:zy),x.valid f→TOk (zbN τ x F)
 | .node _ ps,_,F,h=>zi0 hτ ps _ _ F h.2.2
end
def zcm:List (ByteArray × Kd)→Fl→Fl
 | [],f=>f
 | x :: L,f => .cons x.1 true x.2 (zcm L f)
def zdN(L:List (ByteArray × Kd)):Except Int Fl→Except Int Fl
 | .error e => .error e
 | .ok f => .ok (zcm L f)
def fsR:Except Int Fl→zb1
 | .error e => .error e
 | .ok f => .ok (.fs f)
theorem zk9(x:Except Int Fl):zdN [] x=x:=by cases x <;> rfl
theorem ziE:∀(L M:List (ByteArray × Kd)) (f:Fl),zcm (L ++ M) f=zcm L (zcm M f)
 | [],_,_=>rfl
 | x :: L,M,f=>by simp only [List.cons_append,zcm,ziE L M f]
theorem zrb{τ:Stg}{L:List (ByteArray × Kd)}{y:Ex}{r:Exs}{G:zy}{c:Nat}{e:Int}(h:zbN τ y G = .error e):zdN L (tyF τ (.cons y r) G c)= .error e:=by
 unfold tyF;rw [h];rfl
theorem zq6{τ:Stg}{L:List (ByteArray × Kd)}{y:Ex}{r:Exs}{G:zy}{c:Nat}{k:Kd}(h:zbN τ y G = .ok k)(hb:200<c+1+k.sz):zdN L (tyF τ (.cons y r) G c)= .error 4:=by
 unfold tyF;rw [h];simp only;rw [if_pos hb];rfl
theorem zr9{τ:Stg}{L:List (ByteArray × Kd)}{y:Ex}{r:Exs}{G:zy}{c:Nat}{k:Kd}(h:zbN τ y G = .ok k)(hb:¬200<c+1+k.sz):zdN L (tyF τ (.cons y r) G c)=zdN (L ++ [(y.head.s,k)]) (tyF τ r G (c+1+k.sz)):=by
 simp only [tyF,h,if_neg hb];rcases tyF τ r G (c+1+k.sz) with e|f
 ·rfl
 ·simp only [zdN,ziE,zcm]
def zb7(n:Int)(L:List (ByteArray × Kd)):List Nd:=⟨46,n,emp,emp⟩::(zcm L .nil).flat
theorem zj6:∀(L:List (ByteArray × Kd)) (s:ByteArray) (k:Kd),(zcm (L ++ [(s,k)]) .nil).flat=(zcm L .nil).flat ++(⟨47,1,s,emp⟩:: k.flat)
 | [],s,k=>by simp [zcm,Fl.flat]
 | x :: L,s,k=>by
  simp only [List.cons_append,zcm,Fl.flat,zj6 L s k,List.append_assoc]
theorem zgD(n:Int)(L:List (ByteArray × Kd))(s:ByteArray)(k:Kd):zb7 n (L ++ [(s,k)])=(zb7 n L ++ [⟨47,1,s,emp⟩])++ k.flat:=by
 unfold zb7;rw [zj6];simp
theorem zla:∀L:List (ByteArray × Kd),(zcm L .nil).len=L.length
 | []=>rfl
 | x :: L=>by simp [zcm,Fl.len,zla L]
theorem zlq{n:Int}{L:List (ByteArray × Kd)}(h:n=(L.length:Int)):zb7 n L=(Kd.fs (zcm L .nil)).flat:=by
 unfold zb7;rw [Kd.flat,zla,h]
theorem zl4(n:Int)(L:List (ByteArray × Kd))(s:ByteArray)(k:Kd):(zb7 n (L ++ [(s,k)])).length=(zb7 n L).length+1+k.sz:=by
 rw [zgD,List.length_append,List.length_append,jd];simp
def zb2(τ:Stg)(n:Nd)(ps:Exs)(F:zy)(L:List Kd):zb1 :=
 if n.op=1 then .ok (.base 41) else if n.op=2 then .ok (.base 42) else if n.op=3 then .ok (.base 43) else if n.op=4 then .ok (.ent n.s)
 else if n.op=8 then jF τ n.s
 else if n.op=5 then zaF (.base 49) L
 else if n.op=22 then(match L with
  | k :: _=>zca τ k n.s (jp F (zng ps) n.s)
  | [] => .error 0)
 else zG n.op L
def zs9(f:List Kd→zb1):Except Int (List Kd)→zb1
 | .error e => .error e
 | .ok L=>f L
theorem zmy{τ:Stg}{n:Nd}{ps:Exs}{F:zy}(h11:n.op≠11)(h13:n.op≠13)(h6:n.op≠6):tyX τ (.node n ps) F=zs9 (zb2 τ n ps F) (tyS τ ps F):=by
 rw [tyX,if_neg h11,if_neg h13,if_neg h6];cases tyS τ ps F <;> rfl
def zmX(L:List Kd):Except Int (List Kd)→Except Int (List Kd)
 | .error e => .error e
 | .ok M => .ok (L ++ M)
theorem zqX(x:Except Int (List Kd)):zmX [] x=x:=by cases x <;> rfl
theorem zqN{τ:Stg}{L:List Kd}{x:Ex}{r:Exs}{F:zy}{e:Int}(h:tyX τ x F = .error e):zmX L (tyS τ (.cons x r) F)= .error e:=by
 rw [tyS,h];rfl
theorem zrz{τ:Stg}{L:List Kd}{x:Ex}{r:Exs}{F:zy}{k:Kd}(h:tyX τ x F = .ok k):zmX L (tyS τ (.cons x r) F)=zmX (L ++ [k]) (tyS τ r F):=by
 rw [tyS,h];simp only
 cases tyS τ r F with
 | error e=>rfl
 | ok M=>simp [zmX]
theorem znO{τ:Stg}{n:Nd}{ps:Exs}{F:zy}(h6:n.op=6):tyX τ (.node n ps) F=fsR (tyF τ ps F 1):=by
 rw [tyX,if_neg (by omega),if_neg (by omega),if_pos h6];cases tyF τ ps F 1 <;> rfl
theorem zk6{τ:Stg}{F:zy}:∀ {ps:Exs} {L:List Kd},tyS τ ps F = .ok L→L.length=ps.len
 | .nil,L,h=>by
  rw [tyS] at h;injection h with h;subst h;rfl
 | .cons x r,L,h=>by
  rw [tyS] at h;rcases q:tyX τ x F with e|k
  ·rw [q] at h;cases h
  ·rw [q] at h;simp only at h;rcases q2:tyS τ r F with e|M
   ·rw [q2] at h;cases h
   ·rw [q2] at h;simp only at h;injection h with h;subst h;simp [Exs.len,zk6 q2]
theorem zl7{y:Nd}{l:Nat}(h:zad false y=true)(hl:(l:Int)=zp y)(h1:y.op≠1)(h2:y.op≠2)(h3:y.op≠3)(h4:y.op≠4)(h5:y.op≠5)(h6:y.op≠6)(h8:y.op≠8)(h11:y.op≠11)(h13:y.op≠13):
 ((y.op=9∨y.op=10∨21≤y.op∧y.op≤24)∧l=1)∨((y.op=12∨14≤y.op∧y.op≤20∨25≤y.op∧y.op≤27)∧l=2):=by
 have h7:y.op≠7:=by
  unfold zad at h;rw [Bool.and_eq_true] at h;simpa using h.2
 unfold zp at hl;rw [if_neg (by omega),if_neg (by omega)] at hl;by_cases g1:y.op=7∨y.op=9∨y.op=10∨21≤y.op∧y.op≤24
 ·rw [if_pos g1] at hl;exact .inl ⟨by omega,by omega⟩
 ·rw [if_neg g1,if_neg h13] at hl;by_cases g2:11≤y.op∧y.op≤20∨25≤y.op∧y.op≤27
  ·rw [if_pos g2] at hl;exact .inr ⟨by omega,by omega⟩
  ·rw [if_neg g2] at hl;omega
noncomputable def zcD(K:List KD)(L:List AD)(who act what:ByteArray)(P:List Nd):zb1 :=
 if or2 (zaa K L) (zT P)=0 then(match zbx L act with
  | none => .error 3
  | some a=>if(jS a.who who && jS a.what what)=true then(match zfL P with
   | some x=>tyX ⟨K,a,who,what⟩ x []
   | none => .error 1) else .error 2)
 else .error (or2 (zaa K L) (zT P))
def tyE:zb1→Int
 | .ok _=>0
 | .error e=>e
def tyV:zb1→List Nd
 | .ok k=>k.flat
 | .error _ => []
theorem zdd{K:List KD}{L:List AD}{who act what:ByteArray}{P:List Nd}(h:or2 (zaa K L) (zT P)≠0):zcD K L who act what P = .error (or2 (zaa K L) (zT P)):=if_neg h
theorem zeX{K:List KD}{L:List AD}{who act what:ByteArray}{P:List Nd}(h:or2 (zaa K L) (zT P)=0)(ha:zbx L act=none):zcD K L who act what P = .error 3:=by
 unfold zcD;rw [if_pos h,ha]
theorem zgn{K:List KD}{L:List AD}{who act what:ByteArray}{P:List Nd}{a:AD}(h:or2 (zaa K L) (zT P)=0)(ha:zbx L act=some a)(hb:¬(jS a.who who && jS a.what what)=true):zcD K L who act what P = .error 2:=by
 unfold zcD;rw [if_pos h,ha];exact if_neg hb
theorem zfK{K:List KD}{L:List AD}{who act what:ByteArray}{P:List Nd}{a:AD}{x:Ex}(h:or2 (zaa K L) (zT P)=0)(ha:zbx L act=some a)(hb:(jS a.who who && jS a.what what)=true)(hx:x.valid false)(e:P=x.flat):zcD K L who act what P=tyX ⟨K,a,who,what⟩ x []:=by
 unfold zcD;rw [if_pos h,ha];simp only;rw [if_pos hb,zgf.2 ⟨hx,e⟩]
theorem ze2:∀ {N:List ByteArray},zX N=0→∀s∈N,zd s=0
 | [],_,s,h=>by cases h
 | x :: r,h0,s,h=>by
  simp only [zX,jk] at h0;rcases List.mem_cons.1 h with rfl|h
  ·exact h0.1
  ·exact ze2 h0.2 s h
theorem zh0:∀(K:List AD) (N:List ByteArray),zdS N K=0→∀k∈K,zX k.who=0∧zX k.what=0
 | [],_,_,k,hk=>by cases hk
 | x :: r,N,h,k,hk=>by
  simp only [zdS,jk,adF] at h;rcases List.mem_cons.1 hk with rfl|hk
  ·exact⟨h.1.2.2.2.1,h.1.2.2.2.2.1⟩
  ·exact zh0 r _ h.2 k hk
theorem zpV{K:List KD}{L:List AD}{who what:ByteArray}{a:AD}(h:zaa K L=0)(ha:a∈L)(hb:(jS a.who who && jS a.what what)=true):zcF ⟨K,a,who,what⟩:=by
 obtain⟨-,-,h1,h2⟩:=zjW.1 h;rw [Bool.and_eq_true,zde,zde] at hb;obtain⟨n1,n2⟩:=zh0 _ _ h2 a ha;exact⟨fun d hd=>zew (zir _ _ h1 d hd).1,zew (ziI _ _ h2 a ha),ze2 n1 _ hb.1,ze2 n2 _ hb.2⟩
def Exs.app:Exs→Exs→Exs
 | .nil,q=>q
 | .cons x r,q => .cons x (r.app q)
theorem zhG:∀(a b:Exs),(a.app b).flat=a.flat ++ b.flat
 | .nil,b=>rfl
 | .cons x r,b=>by simp [Exs.app,Exs.flat,zhG r b]
theorem zn8:∀(a b:Exs),(a.app b).len=a.len+b.len
 | .nil,b=>by simp [Exs.app,Exs.len]
 | .cons x r,b=>by simp only [Exs.app,Exs.len,zn8 r b];omega
mutual
def Ex.cnt:Ex→Prop
 | .node n ps=>(ps.len:Int)=zp n∧ps.cnt
def Exs.cnt:Exs→Prop
 | .nil=>True
 | .cons x r=>x.cnt∧r.cnt
end
theorem znX:∀(a b:Exs),(a.app b).cnt↔a.cnt∧b.cnt
 | .nil,b=>by simp [Exs.app,Exs.cnt]
 | .cons x r,b=>by simp only [Exs.app,Exs.cnt,znX r b,and_assoc]
mutual
theorem Ex.valid.cnt:∀ {x:Ex} {f:Bool},x.valid f→x.cnt
 | .node _ _,_,h=>⟨h.2.1,h.2.2.cnts⟩
theorem Exs.valid.cnts:∀ {r:Exs} {c:Bool} {s:ByteArray},r.valid c s→r.cnt
 | .nil,_,_,_=>trivial
 | .cons _ _,_,_,h=>⟨h.2.1.cnt,h.2.2.cnts⟩
end
structure zhh(t:List Nd)(p:Nat)(L:Exs):Prop where
 cnt:L.cnt
 drop:∃r,t.drop p=L.flat ++ r
theorem zhh.start{t:List Nd}{p:Nat}{f:Bool}{x:Ex}{r:List Nd}(hx:x.valid f)(h:t.drop p=x.flat ++ r):zhh t p (.cons x .nil):=
 ⟨⟨hx.cnt,trivial⟩,r,by simp [Exs.flat,h]⟩
theorem zhh.step{t:List Nd}{p:Nat}{n:Nd}{ps q:Exs}(h:zhh t p (.cons (.node n ps) q)):t[p]?=some n∧zhh t (p+1) (ps.app q)∧((ps.app q).len:Int)=q.len+zp n∧p+1+(ps.app q).flat.length=p+(Exs.cons (.node n ps) q).flat.length:=by
 obtain⟨⟨⟨h1,h2⟩,h3⟩,r,e⟩:=h;simp only [Exs.flat,Ex.flat,List.cons_append,List.append_assoc] at e;refine⟨?_,⟨(znX _ _).2 ⟨h2,h3⟩,r,?_⟩,?_,?_⟩
 ·have:=congrArg (fun l=>l[0]?) e;simpa using this
 ·have:=congrArg (List.drop 1) e;rw [List.drop_drop] at this;rw [zhG,List.append_assoc];simpa using this
 ·rw [zn8,←h1];omega
 ·rw [zhG];simp only [Exs.flat,Ex.flat,List.length_cons,List.length_append];omega
theorem zhh.left{t:List Nd}{p:Nat}{L:Exs}(h:zhh t p L)(hl:0<L.len):∃n ps q,L = .cons (.node n ps) q:=by
 cases L with
 | nil=>simp [Exs.len] at hl
 | cons x q=>obtain⟨n,ps⟩:=x;exact⟨n,ps,q,rfl⟩
theorem zam:∀r:Exs,r.len≤r.flat.length
 | .nil=>Nat.le_refl _
 | .cons x r=>by have:=zZ x;have:=zam r;simp only [Exs.len,Exs.flat,List.length_append];omega
theorem zhh.le{t:List Nd}{p:Nat}{L:Exs}(h:zhh t p L)(hl:0<L.len):p+L.flat.length≤t.length:=by
 obtain⟨r,e⟩:=h.drop;have h1:=congrArg List.length e;rw [List.length_drop,List.length_append] at h1;have:=zam L;omega
structure XAt(t:List Nd)(p:Nat)(f:Bool)(x:Ex):Prop where
 valid:x.valid f
 drop:∃r,t.drop p=x.flat ++ r
structure zcB(t:List Nd)(p:Nat)(c:Bool)(r:Exs):Prop where
 valid:∃s,r.valid c s
 drop:∃u,t.drop p=r.flat ++ u
theorem XAt.all{x:Ex}{f:Bool}(h:x.valid f):XAt x.flat 0 f x:=⟨h,[],by simp⟩
theorem XAt.head{t:List Nd}{p:Nat}{f:Bool}{x:Ex}(h:XAt t p f x):t[p]?=some x.head:=by
 obtain⟨r,e⟩:=h.drop;obtain⟨u,hu⟩:=zfo x;rw [hu] at e;have:=congrArg (fun l=>l[0]?) e;simpa using this
theorem XAt.le{t:List Nd}{p:Nat}{f:Bool}{x:Ex}(h:XAt t p f x):p+x.flat.length≤t.length:=by
 obtain⟨r,e⟩:=h.drop;have h1:=congrArg List.length e;rw [List.length_drop,List.length_append] at h1;have:=zZ x;omega
theorem XAt.end_{t:List Nd}{p:Nat}{f:Bool}{x:Ex}(h:XAt t p f x):jA t p f=((p+x.flat.length:Nat):Int):=by
 obtain⟨r,e⟩:=h.drop;exact zo1 h.valid e
theorem XAt.seg{t:List Nd}{p:Nat}{f:Bool}{x:Ex}(h:XAt t p f x):Go.Wk.seg t p (p+x.flat.length)=x.flat:=by
 obtain⟨r,e⟩:=h.drop;unfold Go.Wk.seg;rw [e,show p+x.flat.length-p=x.flat.length by omega,List.take_left]
theorem XAt.parts{t:List Nd}{p:Nat}{f:Bool}{x:Ex}(h:XAt t p f x):zcB t (p+1) (zA x.head) x.parts:=by
 obtain⟨n,ps⟩:=x;obtain⟨r,e⟩:=h.drop;refine⟨⟨_,h.valid.2.2⟩,r,?_⟩;simp only [Ex.flat,List.cons_append] at e;have:=congrArg (List.drop 1) e;rw [List.drop_drop] at this;simpa [Ex.parts] using this
theorem zcB.head{t:List Nd}{p:Nat}{c:Bool}{x:Ex}{r:Exs}(h:zcB t p c (.cons x r)):XAt t p c x∧zcB t (p+x.flat.length) c r:=by
 obtain⟨⟨s,v⟩,u,e⟩:=h;simp only [Exs.flat,List.append_assoc] at e;refine⟨⟨v.2.1,_,e⟩,⟨_,v.2.2⟩,u,?_⟩;have:=congrArg (List.drop x.flat.length) e;rw [List.drop_drop,List.drop_left] at this;exact this
theorem XAt.field{t:List Nd}{p:Nat}{x:Ex}(h:XAt t p true x):∃n y,x = .node n (.cons y .nil)∧n.op=7∧zd n.s=0∧XAt t (p+1) false y∧x.flat.length=y.flat.length+1:=by
 obtain⟨n,ps⟩:=x;have hv:=h.valid;obtain⟨v1,v2,v3⟩:=hv;unfold zad at v1;rw [Bool.and_eq_true] at v1;have h7:n.op=7:=by simpa using v1.2
 have e1:zp n=1:=by unfold zp;rw [if_neg (by omega),if_neg (by omega),if_pos (by omega)]
 have e2:zA n=false:=by unfold zA;rw [decide_eq_false];omega
 have hnf:zd n.s=0:=by
  have h0:=v1.1;unfold jv at h0;rw [if_pos (by omega)] at h0;unfold ja at h0;rw [if_neg (by omega),if_neg (by omega),if_neg (by omega),if_neg (by omega),if_neg (by omega),if_pos h7] at h0;simp only [Bool.and_eq_true,decide_eq_true_eq] at h0;exact h0.2
 rw [e1] at v2
 cases ps with
 | nil=>simp [Exs.len] at v2
 | cons y q =>
  cases q with
  | cons z q=>simp only [Exs.len] at v2;omega
  | nil =>
   have hp:=h.parts
   rw [show(Ex.node n (Exs.cons y Exs.nil)).head=n from rfl,e2] at hp
   exact⟨n,y,rfl,h7,hnf,hp.head.1,by simp [Ex.flat,Exs.flat]⟩
def Exs.list:Exs→List Ex
 | .nil => []
 | .cons x r=>x :: r.list
theorem zch:∀r:Exs,r.list.length=r.len
 | .nil=>rfl
 | .cons x r=>by simp [Exs.list,Exs.len,zch r]
def zaK(c:Bool):Nat→Exs→List Nat
 | p,.nil => [p]
 | p,.cons x r=>(if c=true then p+1 else p):: zaK c (p+x.flat.length) r
def zba(c:Bool)(x:Ex):Ex:=match c,x with
 | true,.node _ (.cons y _)=>y
 | _,x=>x
theorem zcB.at{t:List Nd}{c:Bool}:∀ {r:Exs} {p:Nat},zcB t p c r→∀(i:Nat) (x:Ex),r.list[i]?=some x→∃q:Nat,(zaK c p r)[i]?=some q∧XAt t q false (zba c x)∧(c=true→0<q∧t[q-1]?=some x.head)∧((zaK c p r)[i+1]?=some (q+(zba c x).flat.length+(if c=true∧i+1<r.len then 1 else 0)))
 | .nil,_,_,i,x,h=>by simp [Exs.list] at h
 | .cons y r,p,hA,i,x,h=>by
  obtain⟨h1,h2⟩:=hA.head
  cases i with
  | zero =>
   simp only [Exs.list,List.getElem?_cons_zero,Option.some.injEq] at h
   subst h
   have hr:(zaK c (p+y.flat.length) r)[0]?=some (p+y.flat.length+if c=true∧0<r.len then 1 else 0):=by
    cases r with
    | nil=>simp [zaK,Exs.len]
    | cons z r=>simp only [zaK,List.getElem?_cons_zero,Exs.len];cases c <;> simp
   cases c with
   | false =>
    refine⟨p,by simp [zaK],h1,(fun e=>nomatch e),?_⟩
    simp only [zaK,List.getElem?_cons_succ]
    rw [hr]
    simp [zba]
   | true =>
    have hh:=h1.head
    obtain⟨n,z,rfl,h7,-,hz,hl⟩:=h1.field
    refine⟨p+1,by simp [zaK],hz,fun _=>⟨by omega,by simpa using hh⟩,?_⟩
    simp only [zaK,List.getElem?_cons_succ]
    rw [hr,hl]
    simp only [zba,Exs.len,true_and]
    congr 1
    by_cases hr0:0<r.len
    ·rw [if_pos hr0,if_pos (by omega)];omega
    ·rw [if_neg hr0,if_neg (by omega)];omega
  | succ i =>
   simp only [Exs.list,List.getElem?_cons_succ] at h
   obtain⟨q,e1,e2,e3,e4⟩:=h2.at i x h
   refine⟨q,by simpa [zaK] using e1,e2,e3,?_⟩
   simp only [zaK,List.getElem?_cons_succ]
   rw [e4]
   simp [Exs.len]
end Go.Wk
