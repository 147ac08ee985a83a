/-
  Plain: the set of values: each of them once, in order; the least above one. No program in sight.
-/
import Derived.Test.YtkfgabdnppmglaaGreatDoorQ1
set_option maxRecDepth 100000
namespace Go.Wk
def zfx(p:List Nd):List (List Nd)→List (List Nd)
 | [] => [p]
 | q :: r=>if zu p q<0 then p :: q :: r else if zu p q=0 then q :: r else q :: zfx p r
def jU:List (List Nd)→List (List Nd)
 | [] => []
 | p :: r=>zfx p (jU r)
theorem zme{p x:List Nd}{l:List (List Nd)}:x∈zfx p l↔x=p∨x∈l:=by
 induction l with
 | nil=>simp [zfx]
 | cons q r ih =>
  simp only [zfx]
  split
  ·simp
  ·split
   ·rename_i h0;have e:=(zV.zero p q).1 h0;subst e;simp
   ·simp only [List.mem_cons,ih];constructor
    ·rintro (h|h|h)<;> simp [h]
    ·rintro (h|h|h)<;> simp [h]
theorem zaM{x:List Nd}{l:List (List Nd)}:x∈jU l↔x∈l:=by
 induction l with
 | nil=>simp [jU]
 | cons p r ih=>simp only [jU,zme,ih,List.mem_cons]
theorem zef{l:List (List Nd)}:Up l↔l.Pairwise (fun a b=>zu a b<0):=by
 induction l with
 | nil=>simp [Up]
 | cons a r ih =>
  rcases r with _|⟨b,r⟩
  ·simp [Up]
  ·simp only [Up,ih]
   constructor
   ·rintro ⟨h1,h2⟩;refine List.pairwise_cons.2 ⟨fun x hx=>?_,h2⟩;rcases List.mem_cons.1 hx with rfl|hx
    ·exact h1
    ·have:=(List.pairwise_cons.1 h2).1 x hx;exact zV.lt_le h1 (by omega)
   ·intro h;exact⟨(List.pairwise_cons.1 h).1 b (by simp),(List.pairwise_cons.1 h).2⟩
theorem zs0{p:List Nd}{l:List (List Nd)}(h:Up l):Up (zfx p l):=by
 rw [zef] at h ⊢
 induction l with
 | nil=>simp [zfx]
 | cons q r ih =>
  obtain⟨h1,h2⟩:=List.pairwise_cons.1 h
  simp only [zfx]
  split
  ·rename_i hlt
   refine List.pairwise_cons.2 ⟨fun x hx=>?_,h⟩;rcases List.mem_cons.1 hx with rfl|hx
   ·exact hlt
   ·have:=h1 x hx;exact zV.lt_le hlt (by omega)
  ·split
   ·exact h
   ·rename_i hn h0;refine List.pairwise_cons.2 ⟨fun x hx=>?_,ih h2⟩;rcases zme.1 hx with rfl|hx
    ·have:=zV.anti x q;omega
    ·exact h1 x hx
theorem ze9(l:List (List Nd)):Up (jU l):=by
 induction l with
 | nil=>trivial
 | cons p r ih=>exact zs0 ih
theorem zoV{a:List Nd}{l:List (List Nd)}(h:Up (a :: l)):Up l:=by
 rw [zef] at h ⊢;exact(List.pairwise_cons.1 h).2
theorem zpu:∀ {l m:List (List Nd)},Up l→Up m→(∀x,x∈l↔x∈m)→l=m:=by
 intro l
 induction l with
 | nil =>
  intro m _ _ h
  rcases m with _|⟨b,m⟩
  ·rfl
  ·have:=(h b).2 (by simp);cases this
 | cons a l ih =>
  intro m hl hm h
  rcases m with _|⟨b,m⟩
  ·have:=(h a).1 (by simp);cases this
  have pl:=zef.1 hl
  have pm:=zef.1 hm
  obtain⟨l1,l2⟩:=List.pairwise_cons.1 pl
  obtain⟨m1,m2⟩:=List.pairwise_cons.1 pm
  have e:a=b:=by
   rcases List.mem_cons.1 ((h a).1 (by simp)) with e|ha
   ·exact e
   rcases List.mem_cons.1 ((h b).2 (by simp)) with e|hb
   ·exact e.symm
   have q1:=m1 a ha;have q2:=l1 b hb;have:=zV.anti a b;omega
  subst e
  have hl':=zoV hl
  have hm':=zoV hm
  rw [ih hl' hm' fun x=>?_]
  have hx:=h x
  simp only [List.mem_cons] at hx
  constructor
  ·intro k
   rcases hx.1 (.inr k) with e|k'
   ·subst e;have:=l1 x k;rw [zV.self] at this;omega
   ·exact k'
  ·intro k
   rcases hx.2 (.inr k) with e|k'
   ·subst e;have:=m1 x k;rw [zV.self] at this;omega
   ·exact k'
theorem zo1{l m:List (List Nd)}(h:Up m)(hm:∀x,x∈m↔x∈l):jU l=m :=
 zpu (ze9 l) h fun x=>by rw [zaM,hm]
theorem znN{l m:List (List Nd)}(h:∀x,x∈l↔x∈m):jU l=jU m :=
 zo1 (ze9 m) fun x=>by rw [zaM,h]
theorem zpi{l:List (List Nd)}(h:Up l){i j:Nat}(hij:i<j)(hj:j<l.length):zu (l[i]'(by omega)) l[j]<0 :=
 List.pairwise_iff_getElem.1 (zef.1 h) i j (by omega) hj hij
def zd2(lo:Option (List Nd))(p:List Nd):Bool:=match lo with|none=>true|some l=>decide (zu p l > 0)
def zlF(cur:Option (List Nd))(p:List Nd):Bool:=match cur with|none=>true|some c=>decide (zu p c<0)
def zjS(lo cur:Option (List Nd))(p:List Nd):Option (List Nd):=if zd2 lo p && zlF cur p then some p else cur
def zeg(lo:Option (List Nd))(l:List (List Nd)):Option (List Nd):=l.foldl (zjS lo) none
def zks(lo:Option (List Nd))(l:List (List Nd)):Option (List Nd)→Prop
 | none=>∀x∈l,zd2 lo x=false
 | some m=>m∈l∧zd2 lo m=true∧∀x∈l,zd2 lo x=true→zu m x≤0
theorem zrT(lo:Option (List Nd)):∀(l k:List (List Nd)) (cur:Option (List Nd)),zks lo k cur→zks lo (k ++ l) (l.foldl (zjS lo) cur):=by
 intro l
 induction l with
 | nil=>intro k cur h;simpa using h
 | cons p l ih =>
  intro k cur h
  have e:k ++ p :: l=(k ++ [p])++ l:=by simp
  rw [e]
  refine ih (k ++ [p]) _ ?_
  unfold zjS zlF
  rcases ha:zd2 lo p with _|_
  ·simp only [Bool.false_and,Bool.false_eq_true,if_false]
   rcases cur with _|c
   ·intro x hx;rcases List.mem_append.1 hx with hx|hx
    ·exact h x hx
    ·simp only [List.mem_cons,List.not_mem_nil,or_false] at hx;subst hx;exact ha
   ·refine⟨List.mem_append_left _ h.1,h.2.1,fun x hx hax=>?_⟩;rcases List.mem_append.1 hx with hx|hx
    ·exact h.2.2 x hx hax
    ·simp only [List.mem_cons,List.not_mem_nil,or_false] at hx;subst hx;rw [ha] at hax;cases hax
  ·rcases cur with _|c
   ·simp only [Bool.true_and,if_true];refine⟨by simp,ha,fun x hx hax=>?_⟩;rcases List.mem_append.1 hx with hx|hx
    ·rw [h x hx] at hax;cases hax
    ·simp only [List.mem_cons,List.not_mem_nil,or_false] at hx;subst hx;rw [zV.self];omega
   ·simp only [Bool.true_and,decide_eq_true_eq];split
    ·rename_i hlt;refine⟨by simp,ha,fun x hx hax=>?_⟩;rcases List.mem_append.1 hx with hx|hx
     ·have:=h.2.2 x hx hax;have:=zV.lt_le hlt this;omega
     ·simp only [List.mem_cons,List.not_mem_nil,or_false] at hx;subst hx;rw [zV.self];omega
    ·rename_i hge;refine⟨List.mem_append_left _ h.1,h.2.1,fun x hx hax=>?_⟩;rcases List.mem_append.1 hx with hx|hx
     ·exact h.2.2 x hx hax
     ·simp only [List.mem_cons,List.not_mem_nil,or_false] at hx;subst hx;have:=zV.anti x c;omega
theorem ziQ(lo:Option (List Nd))(l:List (List Nd)):zks lo l (zeg lo l):=by
 exact zrT lo l [] none (fun x hx=>by cases hx)
theorem ziZ(l:List (List Nd)):zeg none l=(jU l)[0]?:=by
 have h:=ziQ none l;rcases hc:zeg none l with _|m
 ·rw [hc] at h;have e:l = []:=by
   rcases l with _|⟨a,l⟩
   ·rfl
   ·have:=h a (by simp);cases this
  subst e;rfl
 ·rw [hc] at h;obtain⟨h1,-,h3⟩:=h;rcases hs:jU l with _|⟨b,r⟩
  ·have:=zaM.2 h1;rw [hs] at this;cases this
  ·have hb:b∈l:=zaM.1 (by rw [hs];simp);have q:=h3 b hb rfl;have hm:m∈b :: r:=by rw [←hs];exact zaM.2 h1
   rcases List.mem_cons.1 hm with rfl|hm
   ·rfl
   ·have hu:=ze9 l;rw [hs,zef] at hu;have:=(List.pairwise_cons.1 hu).1 m hm;have:=zV.anti m b;omega
theorem zko(l:List (List Nd))(i:Nat)(hi:i<(jU l).length):zeg (some (jU l)[i]) l=(jU l)[i+1]?:=by
 have h:=ziQ (some (jU l)[i]) l;have hu:=ze9 l;rcases hc:zeg (some (jU l)[i]) l with _|m
 ·rw [hc] at h;rcases Nat.lt_or_ge (i+1) (jU l).length with hk|hk
  ·have hmem:(jU l)[i+1]∈l:=zaM.1 (List.getElem_mem hk);have:=h _ hmem;have q:=zpi hu (show i<i+1 by omega) hk;have a:=zV.anti (jU l)[i] (jU l)[i+1];simp only [zd2,decide_eq_false_iff_not] at this;omega
  ·rw [List.getElem?_eq_none hk]
 ·rw [hc] at h;obtain⟨h1,h2,h3⟩:=h;obtain⟨j,hj,e⟩:=List.getElem_of_mem (zaM.2 h1);simp only [zd2,decide_eq_true_eq] at h2;have hij:i<j:=by
   rcases Nat.lt_or_ge i j with h|h
   ·exact h
   rcases Nat.lt_or_ge j i with h'|h'
   ·have:=zpi hu h' hi;rw [e] at this;omega
   ·have:i=j:=by omega
    subst this;rw [←e,zV.self] at h2;omega
  have hk:i+1<(jU l).length:=by omega
  rw [List.getElem?_eq_getElem hk];rcases Nat.lt_or_ge (i+1) j with h|h
  ·have q:=zpi hu h hj;have a:=zV.anti (jU l)[i] (jU l)[i+1];have q2:=zpi hu (show i<i+1 by omega) hk;have:=h3 (jU l)[i+1] (zaM.1 (List.getElem_mem hk)) (by simp only [zd2,decide_eq_true_eq];omega);rw [e] at q;have:=zV.anti m (jU l)[i+1];omega
  ·have:j=i+1:=by omega
   subst this;rw [e]
theorem zcH{L:List (List Nd)}:zcm L=0↔∀P∈L,zc P=0:=by
 induction L with
 | nil=>simp [zcm]
 | cons P r ih =>
  simp only [zcm,or2,List.mem_cons,forall_eq_or_imp]
  by_cases h:zc P=0
  ·rw [if_pos h,ih];exact⟨fun q=>⟨h,q⟩,fun q=>q.2⟩
  ·rw [if_neg h];exact⟨fun q=>absurd q h,fun q=>absurd q.1 h⟩
def setE(L:List (List Nd)):Int:=or2 (zcm L) (if 200<(jU L).flatten.length+1 then 4 else 0)
def setV(L:List (List Nd)):List Nd:=if setE L=0 then jY (jU L).length ::(jU L).flatten else []
theorem zgi{L:List (List Nd)}:setE L=0↔zcm L=0∧(jU L).flatten.length+1≤200:=by
 unfold setE or2;by_cases h:zcm L=0
 ·rw [if_pos h];by_cases h2:200<(jU L).flatten.length+1
  ·rw [if_pos h2];exact⟨fun q=>by omega,fun q=>by omega⟩
  ·rw [if_neg h2];exact⟨fun _=>⟨h,by omega⟩,fun _=>rfl⟩
 ·rw [if_neg h];exact⟨fun q=>absurd q h,fun q=>absurd q.1 h⟩
theorem zkH{L:List (List Nd)}(h:setE L=0):setV L=jY (jU L).length ::(jU L).flatten:=if_pos h
theorem zdM{L:List (List Nd)}(h:setE L≠0):setV L = []:=if_neg h
theorem zsF{L:List (List Nd)}(h:setE L=0):zc (setV L)=0∧zf (setV L)=5∧zl (setV L)=jU L:=by
 obtain⟨h1,h2⟩:=zgi.1 h;have hV:∀Q∈jU L,IsV Q:=fun Q hQ=>(zP.1 (zcH.1 h1 Q (zaM.1 hQ))).2;obtain⟨a,b⟩:=zts hV (ze9 L);rw [zkH h];exact⟨zP.2 ⟨by simp only [List.length_cons];omega,a⟩,rfl,b⟩
end Go.Wk
