/-
  Plain: schemas: what is wrong with one, with a store by one, with a request by one. No program in sight. Plain: expressions as trees, and as nodes; where one ..
-/
import Derived.Test.YtkfgabdnppmglaaGreatDoorQ4
import Derived.Test.YtkfgabdnppmglaaGreatDoorQ6
import Derived.Test.YtkfgabdnppmglaaGreatDoorQ7
set_option maxRecDepth 100000
namespace Go.Wk
structure KD where
 nm:ByteArray
 up:List ByteArray
 P:List Nd
structure AD where
 id:ByteArray
 who:List ByteArray
 what:List ByteArray
 P:List Nd
theorem zav{x y:Int}:or2 x y=0↔x=0∧y=0:=by
 unfold or2;split
 ·rename_i h;simp [h]
 ·rename_i h;simp [h]
mutual
inductive Ex
 | node (n:Nd) (ps:Exs)
inductive Exs
 | nil
 | cons (x:Ex) (r:Exs)
end
mutual
def Ex.flat:Ex→List Nd
 | .node n ps=>n :: ps.flat
def Exs.flat:Exs→List Nd
 | .nil => []
 | .cons x r=>x.flat ++ r.flat
end
def Exs.len:Exs→Nat
 | .nil=>0
 | .cons _ r=>r.len+1
def Ex.head:Ex→Nd
 | .node n _=>n
def Ex.parts:Ex→Exs
 | .node _ ps=>ps
def zH(x:Nd):Int :=
 if x.op=5∨x.op=6 then x.n
 else if 1≤x.op∧x.op≤4∨x.op=8 then 0
 else if x.op=7∨x.op=9∨x.op=10∨21≤x.op∧x.op≤24 then 1
 else if x.op=13 then 3
 else if 11≤x.op∧x.op≤20∨25≤x.op∧x.op≤27 then 2
 else -1
def zut:List (List UInt8):= [[105,102],[116,104,101,110],[101,108,115,101],[116,114,117,101],[102,97,108,115,101],[105,110],[104,97,115],[108,105,107,101],[105,115]]
def zL(s:ByteArray):Bool:=zut.contains s.data.toList
def zck(s:ByteArray):Bool :=
 if s.data.toList.head?=some 63 then decide (zg (s.extract 1 s.size)=0) else decide (zg s=0)&& !zL s
def jz(x:Nd):Bool :=
 if 1≤x.op∧x.op≤7 then zB x
 else if zH x<0∨x.n≠0∨x.t≠emp then false
 else if x.op=8 then zck x.s
 else if x.op=21∨x.op=22∨x.op=24 then decide (zg x.s=0)
 else if x.op=23 then decide (zr x.s=0)
 else decide (x.s=emp)
def zba(f:Bool)(x:Nd):Bool:=jz x &&(decide (x.op=7)==f)
def z6(x:Nd):Bool:=decide (x.op=6)
mutual
def Ex.valid:Ex→Bool→Prop
 | .node n ps,f=>zba f n=true∧(ps.len:Int)=zH n∧ps.valid (z6 n) emp
def Exs.valid:Exs→Bool→ByteArray→Prop
 | .nil,_,_=>True
 | .cons x r,c,s=>(c=true→jk s x.head.s<0)∧x.valid c∧r.valid c x.head.s
end
mutual
def zae:Nat→Bool→List Nd→Option (Ex × List Nd)
 | 0,_,_=>none
 | _+1,_,[]=>none
 | m+1,f,x :: r =>
  if zba f x=true then(match jK m (zH x).toNat (z6 x) emp r with
   | none=>none
   | some (ps,r')=>some (.node x ps,r')) else none
def jK:Nat→Nat→Bool→ByteArray→List Nd→Option (Exs × List Nd)
 | _,0,_,_,r=>some (.nil,r)
 | 0,_+1,_,_,_=>none
 | _+1,_+1,_,_,[]=>none
 | m+1,c+1,k,s,y :: r =>
  if k=true∧¬jk s y.s<0 then none
  else(match zae m k (y :: r) with
   | none=>none
   | some (x,r')=>match jK m c k y.s r' with
    | none=>none
    | some (ps,r'')=>some (.cons x ps,r''))
end
theorem zpA{x:Nd}(h:zB x=true)(h5:x.op=5∨x.op=6):0≤x.n:=by
 unfold zB at h;rw [if_neg (by omega),if_neg (by omega),if_neg (by omega),if_neg (by omega),if_pos h5] at h;simp only [Bool.and_eq_true,decide_eq_true_eq] at h;exact h.1.1
theorem zeF{x:Nd}(h:jz x=true):0≤zH x:=by
 unfold jz at h;by_cases h7:1≤x.op∧x.op≤7
 ·rw [if_pos h7] at h;unfold zH;by_cases h5:x.op=5∨x.op=6
  ·rw [if_pos h5];exact zpA h h5
  ·rw [if_neg h5];by_cases h14:1≤x.op∧x.op≤4∨x.op=8
   ·rw [if_pos h14];decide
   ·rw [if_neg h14,if_pos (by omega)];decide
 ·rw [if_neg h7] at h;split at h
  ·cases h
  ·omega
theorem zmj{f:Bool}{x:Nd}(h:zba f x=true):0≤zH x:=by
 unfold zba at h;rw [Bool.and_eq_true] at h;exact zeF h.1
theorem zaY(x:Ex):1≤x.flat.length:=by cases x;simp [Ex.flat]
theorem zeJ(x:Ex):∃r,x.flat=x.head :: r:=by cases x;exact⟨_,rfl⟩
theorem zaP:∀m:Nat,(∀f P x r,zae m f P=some (x,r)→x.valid f∧P=x.flat ++ r)∧(∀c k s P ps r,jK m c k s P=some (ps,r)→ps.valid k s∧ps.len=c∧P=ps.flat ++ r)
 | 0=>by
  refine⟨fun f P x r h=>by simp [zae] at h,fun c k s P ps r h=>?_⟩
  cases c with
  | zero =>
   simp only [jK,Option.some.injEq,Prod.mk.injEq] at h
   obtain⟨rfl,rfl⟩:=h
   exact⟨trivial,rfl,rfl⟩
  | succ c=>simp [jK] at h
 | m+1=>by
  obtain⟨ihX,ihS⟩:=zaP m;refine⟨fun f P x r h=>?_,fun c k s P ps r h=>?_⟩
  ·cases P with
   | nil=>simp [zae] at h
   | cons y P =>
    simp only [zae] at h
    split at h
    ·rename_i hh
     rcases hp:jK m (zH y).toNat (z6 y) emp P with _|⟨ps,r'⟩
     ·rw [hp] at h;cases h
     ·rw [hp] at h;simp only [Option.some.injEq,Prod.mk.injEq] at h;obtain⟨rfl,rfl⟩:=h;obtain⟨v,el,e⟩:=ihS _ _ _ _ _ _ hp;have:=zmj hh;exact⟨⟨hh,by rw [el];omega,v⟩,by rw [e];rfl⟩
    ·cases h
  ·cases c with
   | zero =>
    simp only [jK,Option.some.injEq,Prod.mk.injEq] at h
    obtain⟨rfl,rfl⟩:=h
    exact⟨trivial,rfl,rfl⟩
   | succ c =>
    cases P with
    | nil=>simp [jK] at h
    | cons y P =>
     simp only [jK] at h
     split at h
     ·cases h
     ·rename_i hc
      rcases hp:zae m k (y :: P) with _|⟨x,r'⟩
      ·rw [hp] at h;cases h
      ·rw [hp] at h;simp only at h;rcases hq:jK m c k y.s r' with _|⟨qs,r''⟩
       ·rw [hq] at h;cases h
       ·rw [hq] at h;simp only [Option.some.injEq,Prod.mk.injEq] at h;obtain⟨rfl,rfl⟩:=h;obtain⟨v1,e1⟩:=ihX _ _ _ _ hp;obtain⟨v2,el,e2⟩:=ihS _ _ _ _ _ _ hq;have hy:x.head=y:=by
         obtain⟨u,hu⟩:=zeJ x;rw [hu,List.cons_append] at e1;injection e1 with e1 _;exact e1.symm
        refine⟨⟨fun hk=>?_,v1,by rw [hy];exact v2⟩,by simp [Exs.len,el],by simp only [Exs.flat,List.append_assoc];rw [←e2,←e1]⟩;rw [hy];exact Decidable.byContradiction fun e=>hc ⟨hk,e⟩
theorem zbX:∀m:Nat,(∀f x r,x.valid f→2*x.flat.length≤m→zae m f (x.flat ++ r)=some (x,r))∧(∀k s ps r,ps.valid k s→2*ps.flat.length+1≤m→jK m ps.len k s (ps.flat ++ r)=some (ps,r))
 | 0=>by
  refine⟨fun f x r _ h=>by have:=zaY x;omega,fun k s ps r _ h=>by omega⟩
 | m+1=>by
  obtain⟨ihX,ihS⟩:=zbX m;refine⟨fun f x r hv hl=>?_,fun k s ps r hv hl=>?_⟩
  ·obtain⟨n,ps⟩:=x;obtain⟨v1,v2,v3⟩:=hv;simp only [Ex.flat,List.length_cons] at hl;have e:(zH n).toNat=ps.len:=by rw [←v2];rfl
   simp only [Ex.flat,List.cons_append,zae,if_pos v1,e,ihS _ _ ps r v3 (by omega)]
  ·cases ps with
   | nil=>cases m <;> simp [Exs.len,jK,Exs.flat]
   | cons x q =>
    obtain⟨v1,v2,v3⟩:=hv
    simp only [Exs.flat,List.length_append] at hl
    have hp:=zaY x
    obtain⟨u,hu⟩:=zeJ x
    have h1:=ihX k x (q.flat ++ r) v2 (by omega)
    have h2:=ihS k x.head.s q r v3 (by omega)
    simp only [Exs.flat,Exs.len,List.append_assoc]
    rw [hu,List.cons_append] at h1 ⊢
    simp only [jK]
    rw [if_neg (fun h=>h.2 (v1 h.1)),h1]
    simp only [h2]
theorem zgm{m m':Nat}{f:Bool}{P r:List Nd}{x:Ex}(h:zae m f P=some (x,r))(h':2*P.length≤m'):zae m' f P=some (x,r):=by
 obtain⟨v,e⟩:=(zaP m).1 f P x r h;have hl:x.flat.length≤P.length:=by rw [e,List.length_append];omega
 have:=(zbX m').1 f x r v (by omega);rwa [←e] at this
theorem zeP{m m' c:Nat}{k:Bool}{s:ByteArray}{P r:List Nd}{ps:Exs}(h:jK m c k s P=some (ps,r))(h':2*P.length+1≤m'):jK m' c k s P=some (ps,r):=by
 obtain⟨v,el,e⟩:=(zaP m).2 c k s P ps r h;have hl:ps.flat.length≤P.length:=by rw [e,List.length_append];omega
 have:=(zbX m').2 k s ps r v (by omega);rwa [←e,el] at this
theorem zmz{m m':Nat}{f:Bool}{P:List Nd}(h:2*P.length≤m)(h':2*P.length≤m'):zae m f P=zae m' f P:=by
 rcases e:zae m f P with _|⟨x,r⟩
 ·rcases e':zae m' f P with _|⟨x,r⟩
  ·rfl
  ·rw [zgm e' h] at e;cases e
 ·exact(zgm e h').symm
theorem zfj{m m' c:Nat}{k:Bool}{s:ByteArray}{P:List Nd}(h:2*P.length+1≤m)(h':2*P.length+1≤m'):jK m c k s P=jK m' c k s P:=by
 rcases e:jK m c k s P with _|⟨x,r⟩
 ·rcases e':jK m' c k s P with _|⟨x,r⟩
  ·rfl
  ·rw [zeP e' h] at e;cases e
 ·exact(zeP e h').symm
def zfc(P:List Nd):Option Ex:=match zae (2*P.length+2) false P with
 | some (x,[])=>some x
 | _=>none
theorem zgb{P:List Nd}{x:Ex}:zfc P=some x↔x.valid false∧P=x.flat:=by
 unfold zfc;constructor
 ·intro h;rcases hp:zae (2*P.length+2) false P with _|⟨y,r⟩
  ·rw [hp] at h;cases h
  ·rw [hp] at h
   cases r with
   | nil =>
    simp only [Option.some.injEq] at h
    subst h
    obtain⟨v,e⟩:=(zaP _).1 _ _ _ _ hp
    exact⟨v,by rw [e,List.append_nil]⟩
   | cons a r=>cases h
 ·rintro ⟨v,rfl⟩;have:=(zbX (2*x.flat.length+2)).1 false x [] v (by omega);rw [List.append_nil] at this;rw [this]
def jJ(t:List Nd)(p:Nat)(f:Bool):Int:=match zae (2*t.length+2) f (t.drop p) with
 | some (_,r)=>((t.length-r.length:Nat):Int)
 | none => -1
def zai(t:List Nd)(c:Nat)(k:Bool)(s:ByteArray)(p:Nat):Int:=match jK (2*t.length+2) c k s (t.drop p) with
 | some (_,r)=>((t.length-r.length:Nat):Int)
 | none => -1
theorem zic{t:List Nd}{p:Nat}{x:Nd}(h:t[p]?=some x):t.drop p=x :: t.drop (p+1):=by
 obtain⟨hp,e⟩:=List.getElem?_eq_some_iff.1 h;rw [←e];exact List.drop_eq_getElem_cons hp
theorem zfd{t:List Nd}{p:Nat}{f:Bool}(h:t.length≤p):jJ t p f = -1:=by
 unfold jJ;rw [List.drop_eq_nil_of_le h];rfl
theorem zdS{t:List Nd}{p:Nat}{f:Bool}{x:Nd}(h:t[p]?=some x)(hx:zba f x=false):jJ t p f = -1:=by
 unfold jJ;rw [zic h];simp [zae,hx]
theorem zfR{t:List Nd}{p:Nat}{f:Bool}{x:Nd}(h:t[p]?=some x)(hx:zba f x=true):jJ t p f=zai t (zH x).toNat (z6 x) emp (p+1):=by
 have hp:=(List.getElem?_eq_some_iff.1 h).1;unfold jJ zai;rw [zic h];simp only [zae,if_pos hx];rw [zfj (m:=2*t.length+1) (m':=2*t.length+2) (by simp;omega) (by simp;omega)];rcases jK (2*t.length+2) (zH x).toNat (z6 x) emp (t.drop (p+1)) with _|⟨ps,r⟩<;> rfl
theorem zez{t:List Nd}{p:Nat}{k:Bool}{s:ByteArray}(h:p≤t.length):zai t 0 k s p=(p:Int):=by
 unfold zai;simp only [jK,List.length_drop];congr 1;omega
theorem zcf{t:List Nd}{p c:Nat}{k:Bool}{s:ByteArray}(h:t.length≤p):zai t (c+1) k s p = -1:=by
 unfold zai;rw [List.drop_eq_nil_of_le h];rfl
theorem zeQ{t:List Nd}{p:Nat}{f:Bool}(h:0≤jJ t p f):∃e:Nat,jJ t p f=(e:Int)∧p<e∧e≤t.length:=by
 unfold jJ at *;rcases hp:zae (2*t.length+2) f (t.drop p) with _|⟨k,r⟩
 ·rw [hp] at h;simp at h
 ·rw [hp] at h;simp only at h ⊢;obtain⟨v,e⟩:=(zaP _).1 _ _ _ _ hp;have h1:(t.drop p).length=k.flat.length+r.length:=by rw [e,List.length_append]
  rw [List.length_drop] at h1;have h2:=zaY k;exact⟨_,rfl,by omega,by omega⟩
theorem zdW{t:List Nd}{p:Nat}{f:Bool}(h:¬0≤jJ t p f):jJ t p f = -1:=by
 unfold jJ at *;rcases hp:zae (2*t.length+2) f (t.drop p) with _|⟨k,r⟩
 ·rfl
 ·rw [hp] at h;simp only at h;omega
theorem zbP{t:List Nd}{p c:Nat}{k:Bool}{s:ByteArray}{y:Nd}(h:t[p]?=some y):zai t (c+1) k s p=if k=true∧¬jk s y.s<0 then -1 else if 0≤jJ t p k then zai t c k y.s (jJ t p k).toNat else -1:=by
 have hp:=(List.getElem?_eq_some_iff.1 h).1;unfold zai;have hd:=zic h;rw [hd];simp only [jK];by_cases hk:k=true∧¬jk s y.s<0
 ·rw [if_pos hk,if_pos hk]
 ·rw [if_neg hk,if_neg hk];rw [←hd];unfold jJ;rw [zmz (m:=2*t.length+1) (m':=2*t.length+2) (by simp;omega) (by simp;omega)];rcases hq:zae (2*t.length+2) k (t.drop p) with _|⟨x,r⟩
  ·simp
  ·simp only;obtain⟨v,e⟩:=(zaP _).1 _ _ _ _ hq;have h1:(t.drop p).length=x.flat.length+r.length:=by rw [e,List.length_append]
   rw [List.length_drop] at h1;have h0:=zaY x;rw [if_pos (by omega)];have h3:((t.length-r.length:Nat):Int).toNat=t.length-r.length:=rfl;rw [h3];have h2:t.drop (t.length-r.length)=r:=by
    have:t.drop (t.length-r.length)=(t.drop p).drop x.flat.length:=by rw [List.drop_drop];congr 1;omega
    rw [this,e,List.drop_left]
   rw [h2,zfj (m:=2*t.length+1) (m':=2*t.length+2) (by omega) (by omega)];rcases jK (2*t.length+2) c k y.s r with _|⟨f,r'⟩<;> rfl
theorem znT{t:List Nd}{p:Nat}{y:Nd}(h:t[p]?=some y):jJ t p true=if zba true y=true then jJ t (p+1) false else -1:=by
 have hp:=(List.getElem?_eq_some_iff.1 h).1;by_cases hy:zba true y=true
 ·rw [if_pos hy,zfR h hy];have h7:y.op=7:=by
   unfold zba at hy;rw [Bool.and_eq_true] at hy;simpa using hy.2
  have e1:(zH y).toNat=1:=by unfold zH;rw [if_neg (by omega),if_neg (by omega),if_pos (by omega)];rfl
  have e2:z6 y=false:=by unfold z6;rw [decide_eq_false];omega
  rw [e1,e2];rcases hz:t[p+1]? with _|z
  ·rw [List.getElem?_eq_none_iff] at hz;rw [zfd hz];exact zcf hz
  ·rw [zbP hz,if_neg (by simp)];by_cases h0:0≤jJ t (p+1) false
   ·rw [if_pos h0];obtain⟨e,he,-,hel⟩:=zeQ h0;rw [he];exact zez hel
   ·rw [if_neg h0,zdW h0]
 ·rw [if_neg hy,zdS h (by simpa using hy)]
theorem zpO{t:List Nd}{p:Nat}{f:Bool}{x:Ex}{r:List Nd}(hx:x.valid f)(h:t.drop p=x.flat ++ r):jJ t p f=((p+x.flat.length:Nat):Int):=by
 have h1:(t.drop p).length=x.flat.length+r.length:=by rw [h,List.length_append]
 rw [List.length_drop] at h1;have h2:=zaY x;have h3:=(zbX (2*t.length+2)).1 f x r hx (by omega);unfold jJ;rw [h,h3];simp only;congr 1;omega
def jL(t:List Nd):Int:=if 200<t.length then 4 else if(zfc t).isSome then 0 else 1
theorem zlE{t:List Nd}:jJ t 0 false=(t.length:Int)↔(zfc t).isSome=true:=by
 unfold jJ zfc;rw [List.drop_zero];rcases hp:zae (2*t.length+2) false t with _|⟨k,r⟩
 ·simp
 ·simp only;obtain⟨v,e⟩:=(zaP _).1 _ _ _ _ hp;have h1:t.length=k.flat.length+r.length:=by rw [←List.length_append,←e]
  have h2:=zaY k
  cases r with
  | nil=>simp
  | cons a r =>
   simp only [List.length_cons] at h1 ⊢
   simp
   omega
theorem zfm{t:List Nd}:jL t=0↔t.length≤200∧∃x:Ex,x.valid false∧t=x.flat:=by
 unfold jL;by_cases h:200<t.length
 ·rw [if_pos h];omega
 ·rw [if_neg h];rcases hr:zfc t with _|k
  ·simp only [Option.isSome_none,Bool.false_eq_true,if_false];constructor
   ·intro q;omega
   ·rintro ⟨-,k,v,e⟩;rw [zgb.2 ⟨v,e⟩] at hr;cases hr
  ·simp only [Option.isSome_some,if_true,true_iff];exact⟨by omega,k,zgb.1 hr⟩
def Exs.app:Exs→Exs→Exs
 | .nil,q=>q
 | .cons x r,q => .cons x (r.app q)
theorem zhz:∀(a b:Exs),(a.app b).flat=a.flat ++ b.flat
 | .nil,b=>rfl
 | .cons x r,b=>by simp [Exs.app,Exs.flat,zhz r b]
theorem zoZ:∀(a b:Exs),(a.app b).len=a.len+b.len
 | .nil,b=>by simp [Exs.app,Exs.len]
 | .cons x r,b=>by simp only [Exs.app,Exs.len,zoZ r b];omega
mutual
def Ex.cnt:Ex→Prop
 | .node n ps=>(ps.len:Int)=zH n∧ps.cnt
def Exs.cnt:Exs→Prop
 | .nil=>True
 | .cons x r=>x.cnt∧r.cnt
end
theorem zoN:∀(a b:Exs),(a.app b).cnt↔a.cnt∧b.cnt
 | .nil,b=>by simp [Exs.app,Exs.cnt]
 | .cons x r,b=>by simp only [Exs.app,Exs.cnt,zoN r b,and_assoc]
mutual
theorem Ex.valid.cnt:∀ {x:Ex} {f:Bool},x.valid f→x.cnt
 | .node _ _,_,h=>⟨h.2.1,h.2.2.cnts⟩
theorem Exs.valid.cnts:∀ {r:Exs} {c:Bool} {s:ByteArray},r.valid c s→r.cnt
 | .nil,_,_,_=>trivial
 | .cons _ _,_,_,h=>⟨h.2.1.cnt,h.2.2.cnts⟩
end
structure zg2(t:List Nd)(p:Nat)(L:Exs):Prop where
 cnt:L.cnt
 drop:∃r,t.drop p=L.flat ++ r
theorem zg2.start{t:List Nd}{p:Nat}{f:Bool}{x:Ex}{r:List Nd}(hx:x.valid f)(h:t.drop p=x.flat ++ r):zg2 t p (.cons x .nil):=
 ⟨⟨hx.cnt,trivial⟩,r,by simp [Exs.flat,h]⟩
theorem zg2.step{t:List Nd}{p:Nat}{n:Nd}{ps q:Exs}(h:zg2 t p (.cons (.node n ps) q)):t[p]?=some n∧zg2 t (p+1) (ps.app q)∧((ps.app q).len:Int)=q.len+zH n∧p+1+(ps.app q).flat.length=p+(Exs.cons (.node n ps) q).flat.length:=by
 obtain⟨⟨⟨h1,h2⟩,h3⟩,r,e⟩:=h;simp only [Exs.flat,Ex.flat,List.cons_append,List.append_assoc] at e;refine⟨?_,⟨(zoN _ _).2 ⟨h2,h3⟩,r,?_⟩,?_,?_⟩
 ·have:=congrArg (fun l=>l[0]?) e;simpa using this
 ·have:=congrArg (List.drop 1) e;rw [List.drop_drop] at this;rw [zhz,List.append_assoc];simpa using this
 ·rw [zoZ,←h1];omega
 ·rw [zhz];simp only [Exs.flat,Ex.flat,List.length_cons,List.length_append];omega
theorem zg2.left{t:List Nd}{p:Nat}{L:Exs}(h:zg2 t p L)(hl:0<L.len):∃n ps q,L = .cons (.node n ps) q:=by
 cases L with
 | nil=>simp [Exs.len] at hl
 | cons x q=>obtain⟨n,ps⟩:=x;exact⟨n,ps,q,rfl⟩
theorem za2:∀r:Exs,r.len≤r.flat.length
 | .nil=>Nat.le_refl _
 | .cons x r=>by have:=zaY x;have:=za2 r;simp only [Exs.len,Exs.flat,List.length_append];omega
theorem zg2.le{t:List Nd}{p:Nat}{L:Exs}(h:zg2 t p L)(hl:0<L.len):p+L.flat.length≤t.length:=by
 obtain⟨r,e⟩:=h.drop;have h1:=congrArg List.length e;rw [List.length_drop,List.length_append] at h1;have:=za2 L;omega
structure XAt(t:List Nd)(p:Nat)(f:Bool)(x:Ex):Prop where
 valid:x.valid f
 drop:∃r,t.drop p=x.flat ++ r
structure zcS(t:List Nd)(p:Nat)(c:Bool)(r:Exs):Prop where
 valid:∃s,r.valid c s
 drop:∃u,t.drop p=r.flat ++ u
theorem XAt.all{x:Ex}{f:Bool}(h:x.valid f):XAt x.flat 0 f x:=⟨h,[],by simp⟩
theorem XAt.head{t:List Nd}{p:Nat}{f:Bool}{x:Ex}(h:XAt t p f x):t[p]?=some x.head:=by
 obtain⟨r,e⟩:=h.drop;obtain⟨u,hu⟩:=zeJ x;rw [hu] at e;have:=congrArg (fun l=>l[0]?) e;simpa using this
theorem XAt.le{t:List Nd}{p:Nat}{f:Bool}{x:Ex}(h:XAt t p f x):p+x.flat.length≤t.length:=by
 obtain⟨r,e⟩:=h.drop;have h1:=congrArg List.length e;rw [List.length_drop,List.length_append] at h1;have:=zaY x;omega
theorem XAt.end_{t:List Nd}{p:Nat}{f:Bool}{x:Ex}(h:XAt t p f x):jJ t p f=((p+x.flat.length:Nat):Int):=by
 obtain⟨r,e⟩:=h.drop;exact zpO h.valid e
theorem XAt.seg{t:List Nd}{p:Nat}{f:Bool}{x:Ex}(h:XAt t p f x):Go.Wk.seg t p (p+x.flat.length)=x.flat:=by
 obtain⟨r,e⟩:=h.drop;unfold Go.Wk.seg;rw [e,show p+x.flat.length-p=x.flat.length by omega,List.take_left]
theorem XAt.parts{t:List Nd}{p:Nat}{f:Bool}{x:Ex}(h:XAt t p f x):zcS t (p+1) (z6 x.head) x.parts:=by
 obtain⟨n,ps⟩:=x;obtain⟨r,e⟩:=h.drop;refine⟨⟨_,h.valid.2.2⟩,r,?_⟩;simp only [Ex.flat,List.cons_append] at e;have:=congrArg (List.drop 1) e;rw [List.drop_drop] at this;simpa [Ex.parts] using this
theorem zcS.head{t:List Nd}{p:Nat}{c:Bool}{x:Ex}{r:Exs}(h:zcS t p c (.cons x r)):XAt t p c x∧zcS t (p+x.flat.length) c r:=by
 obtain⟨⟨s,v⟩,u,e⟩:=h;simp only [Exs.flat,List.append_assoc] at e;refine⟨⟨v.2.1,_,e⟩,⟨_,v.2.2⟩,u,?_⟩;have:=congrArg (List.drop x.flat.length) e;rw [List.drop_drop,List.drop_left] at this;exact this
theorem XAt.field{t:List Nd}{p:Nat}{x:Ex}(h:XAt t p true x):∃n y,x = .node n (.cons y .nil)∧n.op=7∧zg n.s=0∧XAt t (p+1) false y∧x.flat.length=y.flat.length+1:=by
 obtain⟨n,ps⟩:=x;have hv:=h.valid;obtain⟨v1,v2,v3⟩:=hv;unfold zba at v1;rw [Bool.and_eq_true] at v1;have h7:n.op=7:=by simpa using v1.2
 have e1:zH n=1:=by unfold zH;rw [if_neg (by omega),if_neg (by omega),if_pos (by omega)]
 have e2:z6 n=false:=by unfold z6;rw [decide_eq_false];omega
 have hnf:zg n.s=0:=by
  have h0:=v1.1;unfold jz at h0;rw [if_pos (by omega)] at h0;unfold zB at h0;rw [if_neg (by omega),if_neg (by omega),if_neg (by omega),if_neg (by omega),if_neg (by omega),if_pos h7] at h0;simp only [Bool.and_eq_true,decide_eq_true_eq] at h0;exact h0.2
 rw [e1] at v2
 cases ps with
 | nil=>simp [Exs.len] at v2
 | cons y q =>
  cases q with
  | cons z q=>simp only [Exs.len] at v2;omega
  | nil =>
   have hp:=h.parts
   rw [show(Ex.node n (Exs.cons y Exs.nil)).head=n from rfl,e2] at hp
   exact⟨n,y,rfl,h7,hnf,hp.head.1,by simp [Ex.flat,Exs.flat]⟩
def Exs.list:Exs→List Ex
 | .nil => []
 | .cons x r=>x :: r.list
theorem zcY:∀r:Exs,r.list.length=r.len
 | .nil=>rfl
 | .cons x r=>by simp [Exs.list,Exs.len,zcY r]
def za6(c:Bool):Nat→Exs→List Nat
 | p,.nil => [p]
 | p,.cons x r=>(if c=true then p+1 else p):: za6 c (p+x.flat.length) r
theorem zmc(c:Bool):∀(r:Exs) (p:Nat),(za6 c p r).length=r.len+1
 | .nil,_=>rfl
 | .cons x r,p=>by simp [za6,Exs.len,zmc c r]
def zbt(c:Bool)(x:Ex):Ex:=match c,x with
 | true,.node _ (.cons y _)=>y
 | _,x=>x
theorem zcS.at{t:List Nd}{c:Bool}:∀ {r:Exs} {p:Nat},zcS t p c r→∀(i:Nat) (x:Ex),r.list[i]?=some x→∃q:Nat,(za6 c p r)[i]?=some q∧XAt t q false (zbt c x)∧(c=true→0<q∧t[q-1]?=some x.head)∧((za6 c p r)[i+1]?=some (q+(zbt c x).flat.length+(if c=true∧i+1<r.len then 1 else 0)))
 | .nil,_,_,i,x,h=>by simp [Exs.list] at h
 | .cons y r,p,hA,i,x,h=>by
  obtain⟨h1,h2⟩:=hA.head
  cases i with
  | zero =>
   simp only [Exs.list,List.getElem?_cons_zero,Option.some.injEq] at h
   subst h
   have hr:(za6 c (p+y.flat.length) r)[0]?=some (p+y.flat.length+if c=true∧0<r.len then 1 else 0):=by
    cases r with
    | nil=>simp [za6,Exs.len]
    | cons z r=>simp only [za6,List.getElem?_cons_zero,Exs.len];cases c <;> simp
   cases c with
   | false =>
    refine⟨p,by simp [za6],h1,(fun e=>nomatch e),?_⟩
    simp only [za6,List.getElem?_cons_succ]
    rw [hr]
    simp [zbt]
   | true =>
    have hh:=h1.head
    obtain⟨n,z,rfl,h7,-,hz,hl⟩:=h1.field
    refine⟨p+1,by simp [za6],hz,fun _=>⟨by omega,by simpa using hh⟩,?_⟩
    simp only [za6,List.getElem?_cons_succ]
    rw [hr,hl]
    simp only [zbt,Exs.len,true_and]
    congr 1
    by_cases hr0:0<r.len
    ·rw [if_pos hr0,if_pos (by omega)];omega
    ·rw [if_neg hr0,if_neg (by omega)];omega
  | succ i =>
   simp only [Exs.list,List.getElem?_cons_succ] at h
   obtain⟨q,e1,e2,e3,e4⟩:=h2.at i x h
   refine⟨q,by simpa [za6] using e1,e2,e3,?_⟩
   simp only [za6,List.getElem?_cons_succ]
   rw [e4]
   simp [Exs.len]
end Go.Wk
