/-
  Plain: what two types that may be handed in join to may be, but for its length. No program in sight. Plain: the least of several types. No program in sight. ..
-/
import Derived.Test.YtkfgabdnppmglaaGreatDoorQ1
import Derived.Test.YtkfgabdnppmglaaGreatDoorQ2
import Derived.Test.YtkfgabdnppmglaaGreatDoorQ6
set_option maxRecDepth 100000
namespace Go.Wk
def Fl.av:Fl→Prop
 | .nil=>True
 | .cons s _ k r=>zg s=0∧k.valid∧r.av
theorem zuA{s:ByteArray}(h:zg s=0):jk emp s<0:=by
 have hne:s≠emp:=fun e=>by subst e;exact absurd h (by decide)
 rcases jx.rng emp s with e|e|e
 ·omega
 ·exact absurd ((jx.zero _ _).1 e).symm hne
 ·exfalso;unfold jk at e;have:emp.data.toList = []:=rfl;rw [this] at e
  cases hs:s.data.toList with
  | nil=>exact hne (zaq (by rw [hs];rfl))
  | cons a l=>rw [hs] at e;simp [Lib.compareBytes] at e
theorem zes:∀(f:Fl) (x:ByteArray),f.validFrom x↔f.ascFrom x∧f.av
 | .nil,_=>by simp [Fl.validFrom,Fl.ascFrom,Fl.av]
 | .cons s m k r,x=>by
  simp only [Fl.validFrom,Fl.ascFrom,Fl.av,zes r s];constructor
  ·rintro ⟨a,b,c,d,e⟩;exact⟨⟨a,d⟩,b,c,e⟩
  ·rintro ⟨⟨a,d⟩,b,c,e⟩;exact⟨a,b,c,d,e⟩
theorem zt2:∀f:Fl,f.asc→f.av→f.ascFrom emp
 | .nil,_,_=>trivial
 | .cons _ _ _ _,h,hv=>⟨zuA hv.1,h⟩
theorem zqY{f:Fl}:(Kd.fs f).valid↔f.asc∧f.av:=by
 simp only [Kd.valid,zes];exact⟨fun⟨a,b⟩=>⟨zqV a,b⟩,fun⟨a,b⟩=>⟨zt2 f a b,b⟩⟩
theorem zin:∀(n:Nat) (a:Kd),a.sz≤n→a.valid→a.ok
 | 0,a,h,_=>by cases a <;> simp [Kd.sz] at h
 | n+1,a,h,hv=>by
  cases a with
  | base x=>trivial
  | ent s=>trivial
  | set p=>simp only [Kd.sz] at h;exact zin n p (by omega) hv
  | fs f =>
   simp only [Kd.sz] at h
   obtain⟨h1,h2⟩:=zqY.1 hv
   refine⟨h1,?_⟩
   have key:∀g:Fl,g.sz≤n→g.av→g.ok:=by
    intro g hs hg
    induction g using Fl.rec (motive_1:=fun _=>True) with
    | nil=>trivial
    | cons s m k r _ ih =>
     simp only [Fl.sz] at hs
     exact⟨zin n k (by omega) hg.2.1,ih (by omega) hg.2.2⟩
    | _=>trivial
   exact key f (by omega) h2
theorem Kd.valid.ok{a:Kd}(h:a.valid):a.ok:=zin _ a (Nat.le_refl _) h
abbrev Kfd:=ByteArray × Bool × Kd
def Fl.list:Fl→List Kfd
 | .nil => []
 | .cons s m k r=>(s,m,k):: r.list
def ofL:List Kfd→Fl
 | [] => .nil
 | y :: r => .cons y.1 y.2.1 y.2.2 (ofL r)
def zvc:List Nd→ByteArray
 | []=>emp
 | x :: _=>x.s
def ztR(L:List Kd):Kd:=L.foldl zsD (.base 49)
def zuz:Nat→List Nd→Kd
 | 0,_ => .base 49
 | m+1,P =>
  if zf P=1 then .base 41 else if zf P=2 then .base 42 else if zf P=3 then .base 43 else if zf P=4 then .ent (zvc P)
  else if zf P=5 then .set (ztR ((zl P).map (zuz m)))
  else .fs (ofL ((zR P).map fun x=>(x.1,true,zuz m x.2)))
def zvp(P:List Nd):Kd:=zuz (P.length+1) P
def zvm(T V:List Nd):Int:=if zjW T=0 then zc V else zjW T
def zvn(T V:List Nd):Bool:=decide (zvm T V=0)&&(match zug T with
 | some k=>zoc (zvp V) k
 | none=>false)
abbrev Fld:=ByteArray × List Nd
def zoh(x:Fld):List Fld→List Fld
 | [] => [x]
 | y :: r=>if jk x.1 y.1<0 then x :: y :: r else y :: zoh x r
def zaB:List Fld→List Fld
 | [] => []
 | x :: r=>zoh x (zaB r)
theorem zjE(x:Fld)(l:List Fld):(zoh x l).Perm (x :: l):=by
 induction l with
 | nil=>exact List.Perm.refl _
 | cons y r ih =>
  simp only [zoh]
  split
  ·exact List.Perm.refl _
  ·exact(List.Perm.cons y ih).trans (List.Perm.swap x y r)
theorem j6(l:List Fld):(zaB l).Perm l:=by
 induction l with
 | nil=>exact List.Perm.refl _
 | cons x r ih=>exact(zjE x _).trans (List.Perm.cons x ih)
abbrev zp9 (l:List Fld):Prop:=l.Pairwise fun a b=>jk a.1 b.1<0
theorem zru{x:Fld}{l:List Fld}(h:zp9 l)(hx:∀y∈l,y.1≠x.1):zp9 (zoh x l):=by
 induction l with
 | nil=>simp [zoh,zp9]
 | cons y r ih =>
  obtain⟨h1,h2⟩:=List.pairwise_cons.1 h
  simp only [zoh]
  split
  ·rename_i hlt
   refine List.pairwise_cons.2 ⟨fun z hz=>?_,h⟩;rcases List.mem_cons.1 hz with rfl|hz
   ·exact hlt
   ·have:=h1 z hz;exact jx.lt_le hlt (by omega)
  ·rename_i hn
   refine List.pairwise_cons.2 ⟨fun z hz=>?_,ih h2 fun z hz=>hx z (by simp [hz])⟩;rcases List.mem_cons.1 ((zjE x r).mem_iff.1 hz) with rfl|hz
   ·have a:=jx.anti z.1 y.1;have:jk z.1 y.1≠0:=fun e=>hx y (by simp) ((jx.zero _ _).1 e).symm;omega
   ·exact h1 z hz
theorem zgk{l:List Fld}(h:(l.map (·.1)).Nodup):zp9 (zaB l):=by
 induction l with
 | nil=>exact List.Pairwise.nil
 | cons x r ih =>
  simp only [List.map_cons,List.nodup_cons] at h
  refine zru (ih h.2) fun y hy e=>h.1 ?_
  rw [←e]
  exact List.mem_map_of_mem ((j6 r).mem_iff.1 hy)
def ju(Z:List Fld)(s:ByteArray):Nat:=(Z.filter fun y=>decide (jk y.1 s<0)).length
theorem zlw{Z Y:List Fld}(h:Z.Perm Y)(s:ByteArray):ju Z s=ju Y s:=(h.filter _).length_eq
theorem zmU(Z:List Fld)(s:ByteArray)(k:Nat)(h:k<Z.length):ju (Z.take (k+1)) s=ju (Z.take k) s+if jk Z[k].1 s<0 then 1 else 0:=by
 unfold ju;rw [←List.take_append_getElem h,List.filter_append,List.length_append];by_cases hc:jk Z[k].1 s<0
 ·simp [hc]
 ·simp [hc]
theorem zpP(Z:List Fld)(s:ByteArray):ju Z s≤Z.length:=List.length_filter_le _ _
theorem znW{S:List Fld}{s:ByteArray}{k:Nat}(hk:k≤S.length)(h1:∀y∈S.take k,jk y.1 s<0)(h2:∀y∈S.drop k,¬jk y.1 s<0):ju S s=k:=by
 unfold ju
 conv=>lhs;rw [←List.take_append_drop k S]
 rw [List.filter_append,List.filter_eq_self.2 (fun y hy=>decide_eq_true (h1 y hy)),List.filter_eq_nil_iff.2 (fun y hy=>by rw [decide_eq_true_eq];exact h2 y hy),List.append_nil,List.length_take];omega
theorem zof{S:List Fld}(h:zp9 S)(k:Nat)(hk:k<S.length):ju S S[k].1=k:=by
 refine znW (by omega) ?_ ?_
 ·intro y hy;obtain⟨j,hj,rfl⟩:=List.getElem_of_mem hy;have hj':j<k:=by simp at hj;omega
  rw [List.getElem_take];exact List.pairwise_iff_getElem.1 h j k (by omega) hk hj'
 ·intro y hy;obtain⟨j,hj,rfl⟩:=List.getElem_of_mem hy;rw [List.getElem_drop];rcases Nat.eq_zero_or_pos j with rfl|h0
  ·simp only [Nat.add_zero];rw [jx.self];omega
  ·have hj':k+j<S.length:=by simp at hj;omega
   have:=List.pairwise_iff_getElem.1 h k (k+j) hk hj' (by omega);have:=jx.anti S[k].1 S[k+j].1;omega
theorem zvj{Z:List Fld}(h:(Z.map (·.1)).Nodup)(r:Nat)(hr:r<(zaB Z).length):(Z.filter fun x=>decide (ju Z x.1=r))= [(zaB Z)[r]]:=by
 have hp:=j6 Z;have hrow:=zgk h;have e:((zaB Z).filter fun x=>decide (ju Z x.1=r))= [(zaB Z)[r]]:=by
  have hk:∀k,(hk:k<(zaB Z).length)→ju Z (zaB Z)[k].1=k:=fun k hk=>by
   rw [←zlw hp];exact zof hrow k hk
  conv=>lhs;rw [←List.take_append_drop r (zaB Z)]
  rw [List.filter_append,List.filter_eq_nil_iff.2,List.nil_append,List.drop_eq_getElem_cons hr,List.filter_cons_of_pos (by rw [hk r hr];simp),List.filter_eq_nil_iff.2]
  ·intro y hy;obtain⟨j,hj,rfl⟩:=List.getElem_of_mem hy;have hj':r+1+j<(zaB Z).length:=by simp at hj;omega
   rw [List.getElem_drop,hk _ hj'];simp;omega
  ·intro y hy;obtain⟨j,hj,rfl⟩:=List.getElem_of_mem hy;have hj':j<r:=by simp at hj;omega
   rw [List.getElem_take,hk _ (by omega)];simp;omega
 have:=(hp.filter fun x=>decide (ju Z x.1=r)).symm;rw [e] at this;exact List.perm_singleton.1 this
theorem zdz(a b:List Fld):zK (a ++ b)=zK a ++ zK b:=by
 induction a with
 | nil=>rfl
 | cons x r ih=>simp only [List.cons_append,zK,ih,List.append_assoc]
theorem zdf{a b:List Fld}(h:a.Perm b):(zK a).length=(zK b).length:=by
 induction h with
 | nil=>rfl
 | cons x _ ih=>simp only [zK,List.length_cons,List.length_append,ih]
 | swap x y l=>simp only [zK,List.length_cons,List.length_append];omega
 | trans _ _ h1 h2=>exact h1.trans h2
theorem zga(x:Fld):zK [x]=zaS x.1 :: x.2:=by simp [zK]
theorem zeC(Z:List Fld)(k:Nat)(h:k<Z.length):zK (Z.take (k+1))=zK (Z.take k)++ zaS Z[k].1 :: Z[k].2:=by
 rw [←List.take_append_getElem h,zdz,zga]
theorem zbU(Z:List Fld)(k:Nat):(zK (Z.take k)).length≤(zK Z).length:=by
 conv=>rhs;rw [←List.take_append_drop k Z]
 rw [zdz,List.length_append];omega
def zds(N:List ByteArray)(s:ByteArray):Bool:=N.any fun y=>decide (jk y s=0)
theorem zhw{N:List ByteArray}{s:ByteArray}:zds N s=true↔s∈N:=by
 unfold zds;rw [List.any_eq_true];constructor
 ·rintro ⟨y,h1,h2⟩;have e:=(jx.zero y s).1 (by simpa using h2);subst e;exact h1
 ·intro h;exact⟨s,h,by simp [jx.self]⟩
def zal:List ByteArray→List Fld→Int
 | _,[]=>0
 | N,x :: r=>or2 (zg x.1) (or2 (if zds N x.1 then 6 else 0) (or2 (zc x.2) (zal (N ++ [x.1]) r)))
theorem zd9{N:List ByteArray}{Z:List Fld}:zal N Z=0↔(∀x∈Z,zg x.1=0∧zc x.2=0)∧(Z.map (·.1)).Nodup∧∀x∈Z,x.1 ∉ N:=by
 induction Z generalizing N with
 | nil=>simp [zal]
 | cons x r ih =>
  simp only [zal,or2]
  by_cases h1:zg x.1=0
  ·rw [if_pos h1]
   by_cases h2:x.1∈N
   ·rw [if_pos (zhw.2 h2),if_neg (by omega)];exact⟨fun q=>by omega,fun q=>absurd h2 (q.2.2 x (by simp))⟩
   ·rw [if_neg (fun q=>h2 (zhw.1 q)),if_pos rfl];by_cases h3:zc x.2=0
    ·rw [if_pos h3,ih];simp only [List.mem_cons,forall_eq_or_imp,List.map_cons,List.nodup_cons,List.mem_append,List.not_mem_nil,or_false,not_or];constructor
     ·rintro ⟨a,b,c⟩;refine⟨⟨⟨h1,h3⟩,a⟩,⟨fun q=>?_,b⟩,h2,fun y hy=>(c y hy).1⟩;obtain⟨y,hy,e⟩:=List.mem_map.1 q;exact(c y hy).2 e
     ·rintro ⟨⟨-,a⟩,⟨b,c⟩,-,d⟩;exact⟨a,c,fun y hy=>⟨d y hy,fun e=>b (by rw [←e];exact List.mem_map_of_mem hy)⟩⟩
    ·rw [if_neg h3];exact⟨fun q=>absurd q h3,fun q=>absurd (q.1 x (by simp)).2 h3⟩
  ·rw [if_neg h1]
   exact⟨fun q=>absurd q h1,fun q=>absurd (q.1 x (by simp)).1 h1⟩
def zam(N:List ByteArray)(L:List (List Nd)):Int :=
 if N.length=L.length then or2 (zal [] (N.zip L)) (if 200<(zK (N.zip L)).length+1 then 4 else 0) else 1
def zcz(N:List ByteArray)(L:List (List Nd)):List Nd:=if zam N L=0 then zM N.length :: zK (zaB (N.zip L)) else []
theorem zpE{N:List ByteArray}{L:List (List Nd)}:zam N L=0↔N.length=L.length∧zal [] (N.zip L)=0∧(zK (N.zip L)).length+1≤200:=by
 unfold zam or2;by_cases h0:N.length=L.length
 ·rw [if_pos h0];by_cases h:zal [] (N.zip L)=0
  ·rw [if_pos h];by_cases h2:200<(zK (N.zip L)).length+1
   ·rw [if_pos h2];exact⟨fun q=>by omega,fun q=>by omega⟩
   ·rw [if_neg h2];exact⟨fun _=>⟨h0,h,by omega⟩,fun _=>rfl⟩
  ·rw [if_neg h];exact⟨fun q=>absurd q h,fun q=>absurd q.2.1 h⟩
 ·rw [if_neg h0];exact⟨fun q=>by omega,fun q=>absurd q.1 h0⟩
theorem zkf{N:List ByteArray}{L:List (List Nd)}(h:zam N L=0):zcz N L=zM N.length :: zK (zaB (N.zip L)):=if_pos h
theorem zhl{N:List ByteArray}{L:List (List Nd)}(h:zam N L≠0):zcz N L = []:=if_neg h
theorem zt1{l:List Fld}:∀ {last:ByteArray},zp9 l→(∀x∈l,jk last x.1<0)→UpB last l:=by
 induction l with
 | nil=>intro _ _ _;trivial
 | cons x r ih =>
  intro last h hl
  obtain⟨h1,h2⟩:=List.pairwise_cons.1 h
  exact⟨hl x (by simp),ih h2 h1⟩
theorem zrr{s:ByteArray}(h:zg s=0):jk .empty s<0:=by
 have hs:0<s.size:=by
  rcases Nat.eq_zero_or_pos s.size with h0|h0
  ·have e:s=⟨#[]⟩:=zaq (List.eq_nil_of_length_eq_zero (by rw [Array.length_toList];exact h0));subst e;exact absurd h (by decide)
  ·exact h0
 have h1:jk .empty s≠0:=fun e=>by
  have e':=(jx.zero _ _).1 e;subst e';simp at hs
 have:=jx.rng .empty s;have hle:jk .empty s≤0:=by
  unfold jk;rcases hd:s.data.toList with _|⟨b,r⟩
  ·show Lib.compareBytes [] []≤0;simp [Lib.compareBytes]
  ·show Lib.compareBytes [] (b :: r)≤0;simp [Lib.compareBytes]
 omega
theorem zrx{N:List ByteArray}{L:List (List Nd)}(h:zam N L=0):zc (zcz N L)=0∧zf (zcz N L)=6∧zR (zcz N L)=zaB (N.zip L):=by
 obtain⟨h1,h2,h3⟩:=zpE.1 h;obtain⟨a,b,-⟩:=zd9.1 h2;have hp:=j6 (N.zip L);have hV:∀x∈zaB (N.zip L),IsV x.2∧zg x.1=0:=fun x hx =>
  let q:=a x (hp.mem_iff.1 hx);⟨(zP.1 q.2).2,q.1⟩
 obtain⟨c,d⟩:=zsX hV (zt1 (zgk b) fun x hx=>zrr (hV x hx).2);have hl:(zaB (N.zip L)).length=N.length:=by rw [hp.length_eq,List.length_zip];omega
 rw [hl] at c d;rw [zkf h];refine⟨zP.2 ⟨?_,c⟩,rfl,d⟩;have:=zdf hp;simp only [List.length_cons];omega
end Go.Wk
