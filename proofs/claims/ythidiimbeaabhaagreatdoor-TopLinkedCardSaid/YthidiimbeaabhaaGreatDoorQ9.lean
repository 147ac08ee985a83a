/-
  Plain: patterns and what they fit; the search that goes on from the last star. ..
-/

set_option maxRecDepth 100000
namespace Go.Wk
def jW:List UInt8->List (Option UInt8)
 | [] => []
 | b :: r=>if b=42 then none :: jW r else
  match r with
  | c :: r'=>if b=92/\c=42 then some 42 :: jW r' else some b :: jW (c :: r')
  | [] => [some b]
termination_by l=>l.length
theorem qT:∀l:List UInt8,(jW l).length<=l.length:=by
 intro l
 induction h:l.length using Nat.strongRecOn generalizing l with
 | ind n ih =>
  cases l with
  | nil=>unfold jW;simp
  | cons b r =>
   unfold jW
   by_cases h1:b=42
   ·rw [if_pos h1]
    have:=ih r.length (by simp at h;omega) r rfl;simp at h ⊢;omega
   ·rw [if_neg h1]
    cases r with
    | nil=>simp at h ⊢;omega
    | cons c r =>
     simp only
     split
     ·have:=ih r.length (by simp at h;omega) r rfl
      simp at h ⊢;omega
     ·have:=ih (c :: r).length (by simp at h ⊢;omega) (c :: r) rfl
      simp at h this ⊢;omega
theorem ya{l:List UInt8}{k:Nat}(h:l.length<=k):jW (l.drop k)= []:=by rw [List.drop_of_length_le h];unfold jW;rfl
theorem ww{l:List UInt8}{k:Nat}(h:k<l.length)(h1:l[k]=42):jW (l.drop k)=none :: jW (l.drop (k+1)):=by
 rw [List.drop_eq_getElem_cons h,h1]
 conv=>lhs;unfold jW
 rw [if_pos rfl]
theorem ym{l:List UInt8}{k:Nat}(h:k+1<l.length)(h1:l[k]=92)(h2:l[k+1]=42):jW (l.drop k)=some 42 :: jW (l.drop (k+2)):=by
 rw [List.drop_eq_getElem_cons (show k<l.length by omega),List.drop_eq_getElem_cons h,h1,h2]
 conv=>lhs;unfold jW
 simp
theorem vj{l:List UInt8}{k:Nat}(h:k<l.length)(h1:l[k]≠42)(h2:¬(l[k]=92/\∃q:k+1<l.length,l[k+1]=42)):jW (l.drop k)=some l[k] :: jW (l.drop (k+1)):=by
 rw [List.drop_eq_getElem_cons h]
 conv=>lhs;unfold jW
 rw [if_neg h1];by_cases q:k+1<l.length
 ·rw [List.drop_eq_getElem_cons q];simp only;rw [if_neg (λhh=>h2 ⟨hh.1,q,hh.2⟩)]
 ·rw [List.drop_of_length_le (by omega)];simp only;unfold jW;rfl
def jl:List (Option UInt8)->List UInt8->Bool
 | [],s=>s.isEmpty
 | some b :: p,s=>match s with
  | []=>false
  | c :: s'=>(b==c)&& jl p s'
 | none :: p,s=>jl p s ||(match s with
  | []=>false
  | _ :: s'=>jl (none :: p) s')
termination_by p s=>p.length+s.length
theorem pO(s:List UInt8):jl [] s=s.isEmpty:=by unfold jl;rfl
theorem gg(b:UInt8)(p:List (Option UInt8)):jl (some b :: p) []=false:=by unfold jl;rfl
theorem cY(b c:UInt8)(p:List (Option UInt8))(s:List UInt8):jl (some b :: p) (c :: s)=((b==c)&& jl p s):=by conv=>lhs;unfold jl
theorem fM(p:List (Option UInt8)):jl (none :: p) []=jl p []:=by conv=>lhs;unfold jl;simp
theorem fA(c:UInt8)(p:List (Option UInt8))(s:List UInt8):jl (none :: p) (c :: s)=(jl p (c :: s)|| jl (none :: p) s):=by conv=>lhs;unfold jl
theorem cG(p:List (Option UInt8))(s:List UInt8):jl (none :: p) s=true↔∃k,k<=s.length/\jl p (s.drop k)=true:=by
 induction s with
 | nil =>
  rw [fM]
  constructor
  ·intro h;exact⟨0,by simp,by simpa using h⟩
  ·rintro ⟨k,_,h⟩;simpa using h
 | cons c s ih =>
  rw [fA,Bool.or_eq_true,ih]
  constructor
  ·rintro (h|⟨k,hk,h⟩)
   ·exact⟨0,by simp,by simpa using h⟩
   ·exact⟨k+1,by simp;omega,by simpa using h⟩
  ·rintro ⟨k,hk,h⟩
   cases k with
   | zero=>exact .inl (by simpa using h)
   | succ k=>exact .inr ⟨k,by simp at hk;omega,by simpa using h⟩
theorem lP{p:List (Option UInt8)}{s:List UInt8}{k:Nat}(hk:k<=s.length)(h:jl (none :: p) (s.drop k)=true):jl (none :: p) s=true:=by
 obtain⟨j,hj,h⟩:=(cG _ _).1 h;rw [List.length_drop] at hj;rw [List.drop_drop] at h;exact(cG _ _).2 ⟨_,by omega,h⟩
theorem cM(l:List UInt8)(p:List (Option UInt8))(s:List UInt8):jl (l.map some ++ p) s=true↔∃t,s=l ++ t/\jl p t=true:=by
 induction l generalizing s with
 | nil=>simp
 | cons b l ih =>
  cases s with
  | nil=>simp [gg]
  | cons c s =>
   simp only [List.map_cons,List.cons_append,cY,Bool.and_eq_true,beq_iff_eq,ih,List.cons.injEq]
   constructor
   ·rintro ⟨rfl,t,rfl,h⟩;exact⟨t,⟨rfl,rfl⟩,h⟩
   ·rintro ⟨t,⟨rfl,rfl⟩,h⟩;exact⟨rfl,t,rfl,h⟩
theorem t7{α:Type}(l t:List α)(k:Nat):(l ++ t).drop (l.length+k)=t.drop k:=by
 induction l with
 | nil=>simp
 | cons x l ih=>rw [List.length_cons,show l.length+1+k=(l.length+k)+1 by omega,List.cons_append,List.drop_succ_cons,ih]
theorem wC(l:List UInt8)(p:List (Option UInt8))(t:List UInt8):jl (none ::(l.map some ++ none :: p)) (l ++ t)=jl (none :: p) t:=by
 rw [Bool.eq_iff_iff];constructor
 ·intro h;obtain⟨k,hk,h⟩:=(cG _ _).1 h;obtain⟨u,hu,h⟩:=(cM _ _ _).1 h;have hl:u.length+k=t.length:=by
   have:=congrArg List.length hu;rw [List.length_drop,List.length_append,List.length_append] at this;rw [List.length_append] at hk;omega
  have hu2:u=t.drop k:=by
   have e:=congrArg (List.drop l.length) hu;rw [List.drop_drop,Nat.add_comm k,t7,show l.length=l.length+0 from rfl,t7] at e;exact e.symm
  rw [hu2] at h;exact lP (by omega) h
 ·intro h;exact(cG _ _).2 ⟨0,by omega,(cM _ _ _).2 ⟨t,by simp,h⟩⟩
structure eW(P:List (Option UInt8))(S:List UInt8)(i j star frm:Nat):Prop where
 hi:i<=P.length
 hj:j<=S.length
 none_:star=0->(jl P S=jl (P.drop i) (S.drop j))/\frm=0
 some_:0<star->star<=i/\frm<=j/\i-star=j-frm/\jl P S=jl (none :: P.drop star) (S.drop frm)/\
  (P.drop star).take (i-star)=((S.drop frm).take (j-frm)).map some
theorem eW.start(P:List (Option UInt8))(S:List UInt8):eW P S 0 0 0 0:=⟨by omega,by omega,λ_=>⟨rfl,rfl⟩,λh=>absurd h (by omega)⟩
theorem eW.split{P:List (Option UInt8)}{S:List UInt8}{i j star frm:Nat}(h:eW P S i j star frm)(hs:0<star):
 ∃l:List UInt8,l.length=j-frm/\P.drop star=l.map some ++ P.drop i/\S.drop frm=l ++ S.drop j:=by
 obtain⟨h1,h2,h3,_,h5⟩:=h.some_ hs;refine⟨(S.drop frm).take (j-frm),?_,?_,?_⟩
 ·rw [List.length_take,List.length_drop];have:=h.hj;omega
 ·rw [<-h5];have:=List.take_append_drop (i-star) (P.drop star);rw [List.drop_drop,show star+(i-star)=i by omega] at this;exact this.symm
 ·have:=List.take_append_drop (j-frm) (S.drop frm);rw [List.drop_drop,show frm+(j-frm)=j by omega] at this;exact this.symm
theorem eW.star{P:List (Option UInt8)}{S:List UInt8}{i j star frm:Nat}(h:eW P S i j star frm)(hi:i<P.length)(hp:P[i]=none):eW P S (i+1) j (i+1) j:=by
 have e:P.drop i=none :: P.drop (i+1):=by rw [List.drop_eq_getElem_cons hi,hp]
 refine⟨by omega,h.hj,λq=>absurd q (by omega),λ_=>⟨by omega,by omega,by omega,?_,by simp⟩⟩;by_cases hs:star=0
 ·rw [(h.none_ hs).1,e]
 ·obtain⟨l,_,e1,e2⟩:=h.split (by omega);rw [(h.some_ (by omega)).2.2.2.1,e1,e2,e,wC]
theorem eW.byte{P:List (Option UInt8)}{S:List UInt8}{i j star frm:Nat}(h:eW P S i j star frm)(hi:i<P.length)(hj:j<S.length)(hp:P[i]=some S[j]):eW P S (i+1) (j+1) star frm:=by
 have e:P.drop i=some S[j] :: P.drop (i+1):=by rw [List.drop_eq_getElem_cons hi,hp]
 have e2:S.drop j=S[j] :: S.drop (j+1):=List.drop_eq_getElem_cons hj;refine⟨by omega,by omega,λq=>⟨?_,(h.none_ q).2⟩,λq=>?_⟩
 ·rw [(h.none_ q).1,e,e2,cY];simp
 ·obtain⟨h1,h2,h3,h4,h5⟩:=h.some_ q;refine⟨by omega,by omega,by omega,h4,?_⟩;rw [show i+1-star=(i-star)+1 by omega,show j+1-frm=(j-frm)+1 by omega];have l1:i-star<(P.drop star).length:=by rw [List.length_drop];omega
  have l2:j-frm<(S.drop frm).length:=by rw [List.length_drop];omega
  rw [List.take_succ_eq_append_getElem l1,List.take_succ_eq_append_getElem l2,List.map_append,h5];congr 1;simp only [List.getElem_drop,List.map_cons,List.map_nil,List.cons.injEq,and_true];have k1:star+(i-star)=i:=by omega
  have k2:frm+(j-frm)=j:=by omega
  simp only [k1,k2];exact hp
def Ah(P:List (Option UInt8))(S:List UInt8)(i j:Nat):Prop:=j<S.length/\(P.length<=i\/∃b c,P[i]?=some (some b)/\S[j]?=some c/\b≠c)
theorem Ah.false{P:List (Option UInt8)}{S:List UInt8}{i j:Nat}(h:Ah P S i j):jl (P.drop i) (S.drop j)=false:=by
 obtain⟨hj,h|⟨b,c,h1,h2,h3⟩⟩:=h
 ·rw [List.drop_of_length_le h,pO,List.drop_eq_getElem_cons hj];rfl
 ·obtain⟨hi,h1⟩:=List.getElem?_eq_some_iff.1 h1;obtain⟨_,h2⟩:=List.getElem?_eq_some_iff.1 h2;rw [List.drop_eq_getElem_cons hi,List.drop_eq_getElem_cons hj,h1,h2,cY];simp [h3]
theorem eW.again{P:List (Option UInt8)}{S:List UInt8}{i j star frm:Nat}(h:eW P S i j star frm)(hs:0<star)(hm:Ah P S i j):eW P S star (frm+1) star (frm+1):=by
 obtain⟨h1,h2,h3,h4,h5⟩:=h.some_ hs;have hi:=h.hi;have hj:=hm.1;refine⟨by omega,by omega,λq=>absurd q (by omega),λ_=>⟨by omega,by omega,by omega,?_,by simp⟩⟩;obtain⟨l,hl,e1,e2⟩:=h.split hs;have hf:frm<S.length:=by omega
 have e3:S.drop frm=S[frm] :: S.drop (frm+1):=List.drop_eq_getElem_cons hf;rw [h4,e3,fA,<-e3];have:jl (P.drop star) (S.drop frm)=false:=by
  rw [Bool.eq_false_iff];intro q;rw [e1,e2] at q;obtain⟨t,ht,q⟩:=(cM _ _ _).1 q;rw [<-List.append_cancel_left ht,hm.false] at q;cases q
 rw [this,Bool.false_or]
theorem eW.fail{P:List (Option UInt8)}{S:List UInt8}{i j star frm:Nat}(h:eW P S i j star frm)(hs:star=0)(hm:Ah P S i j):jl P S=false :=
 (h.none_ hs).1.trans hm.false
theorem eW.done{P:List (Option UInt8)}{S:List UInt8}{i j star frm:Nat}(h:eW P S i j star frm)(hj:S.length<=j):jl P S=jl (P.drop i) []:=by
 by_cases hs:star=0
 ·rw [(h.none_ hs).1,List.drop_of_length_le hj]
 ·obtain⟨l,hl,e1,e2⟩:=h.split (by omega);rw [(h.some_ (by omega)).2.2.2.1,e1,e2,List.drop_of_length_le hj,List.append_nil,Bool.eq_iff_iff];constructor
  ·intro q;obtain⟨k,hk,q⟩:=(cG _ _).1 q;obtain⟨t,ht,q⟩:=(cM _ _ _).1 q;have:=congrArg List.length ht;rw [List.length_drop,List.length_append] at this;have Kq:t = []:=List.eq_nil_of_length_eq_zero (by omega);rwa [Kq] at q
  ·intro q;exact(cG _ _).2 ⟨0,by omega,(cM _ _ _).2 ⟨[],by simp,q⟩⟩
theorem mD{P:List (Option UInt8)}{i:Nat}(hi:i<P.length)(hp:P[i]=none):jl (P.drop i) []=jl (P.drop (i+1)) []:=by
 rw [List.drop_eq_getElem_cons hi,hp,fM]
theorem m0{P:List (Option UInt8)}{i:Nat}{b:UInt8}(hi:i<P.length)(hp:P[i]=some b):jl (P.drop i) []=false:=by
 rw [List.drop_eq_getElem_cons hi,hp,gg]
theorem o7{P:List (Option UInt8)}{i:Nat}(hi:P.length<=i):jl (P.drop i) []=true:=by
 rw [List.drop_of_length_le hi,pO];rfl
def left(m n i j star frm:Nat):Nat:=(m+1-star)*((n+2)*(n+2))+(n+1-frm)*(n+2)+(n+1-j)+0*i
theorem pK{a b c:Nat}(h:a=b+c)(M:Nat):a*M=b*M+c*M:=by rw [h,Nat.add_mul]
theorem yT{m n i j star frm:Nat}(h1:i<m)(h2:star<=i)(h3:frm<=j)(_h4:j<=n):left m n (i+1) j (i+1) j<left m n i j star frm:=by
 unfold left;have e1:m+1-star=(m+1-(i+1))+(i+1-star):=by omega
 have h5:(n+1-j)*(n+2)<=(n+1-frm)*(n+2):=Nat.mul_le_mul_right _ (by omega);have h6:1*((n+2)*(n+2))<=(i+1-star)*((n+2)*(n+2)):=Nat.mul_le_mul_right _ (by omega);have h7:0<(n+2)*(n+2):=Nat.mul_pos (by omega) (by omega);rw [pK e1 ((n+2)*(n+2))];generalize (n+2)*(n+2)=c at *;generalize (m+1-(i+1))*c=x1 at *;generalize (i+1-star)*c=x2 at *;generalize (n+1-j)*(n+2)=x3 at *;generalize (n+1-frm)*(n+2)=x4 at *;omega
theorem xP{m n i j star frm:Nat}(h4:j<n):left m n (i+1) (j+1) star frm<left m n i j star frm:=by unfold left;omega
theorem nO{m n i j star frm:Nat}(h1:frm<=j)(h4:j<n):left m n star (frm+1) star (frm+1)<left m n i j star frm:=by
 unfold left;have e2:n+1-frm=(n+1-(frm+1))+1:=by omega
 rw [pK e2 (n+2)];generalize (m+1-star)*((n+2)*(n+2))=x1;generalize (n+1-(frm+1))*(n+2)=x2;omega
end Go.Wk
