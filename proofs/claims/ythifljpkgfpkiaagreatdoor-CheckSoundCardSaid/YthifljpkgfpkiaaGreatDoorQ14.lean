/-
  Plain: the words of names, as lists. Plain: the fields of a record's type, one ..
-/
import Derived.Test.YthifljpkgfpkiaaGreatDoorQ12
set_option maxRecDepth 100000
namespace Go.Proofs.YthifljpkgfpkiaaGreatDoor
open Go.Wk
theorem bV:eo.toList = [112,114,105,110,99,105,112,97,108]:=by kernel_rfl
theorem fp:kd.toList = [97,99,116,105,111,110]:=by kernel_rfl
theorem fQ:dq.toList = [114,101,115,111,117,114,99,101]:=by kernel_rfl
theorem nw:dK.toList = [99,111,110,116,101,120,116]:=by kernel_rfl
end Go.Proofs.YthifljpkgfpkiaaGreatDoor
namespace Go.Wk
def kH:List (ByteArray × Kd)->Fl->Fl
 | [],f=>f
 | x :: L,f => .cons x.1 true x.2 (kH L f)
def Cs(L:List (ByteArray × Kd)):Except Int Fl->Except Int Fl
 | .error e => .error e
 | .ok f => .ok (kH L f)
def fsR:Except Int Fl->eR
 | .error e => .error e
 | .ok f => .ok (.fs f)
theorem NW(x:Except Int Fl):Cs [] x=x:=by cases x <;> rfl
theorem DT:∀(L M:List (ByteArray × Kd)) (f:Fl),kH (L ++ M) f=kH L (kH M f)
 | [],_,_=>rfl
 | x :: L,M,f=>by simp only [List.cons_append,kH,DT L M f]
theorem PM{τ:Stg}{L:List (ByteArray × Kd)}{y:Ex}{r:Exs}{G:jl}{c:Nat}{e:Int}(h:pF τ y G = .error e):Cs L (tyF τ (.cons y r) G c)= .error e:=by
 unfold tyF;rw [h];rfl
theorem Qc{τ:Stg}{L:List (ByteArray × Kd)}{y:Ex}{r:Exs}{G:jl}{c:Nat}{k:Kd}(h:pF τ y G = .ok k)(hb:200<c+1+k.sz):Cs L (tyF τ (.cons y r) G c)= .error 4:=by
 unfold tyF;rw [h];simp only;rw [if_pos hb];rfl
theorem TM{τ:Stg}{L:List (ByteArray × Kd)}{y:Ex}{r:Exs}{G:jl}{c:Nat}{k:Kd}(h:pF τ y G = .ok k)(hb:¬200<c+1+k.sz):Cs L (tyF τ (.cons y r) G c)=Cs (L ++ [(y.head.s,k)]) (tyF τ r G (c+1+k.sz)):=by
 simp only [tyF,h,if_neg hb];rcases tyF τ r G (c+1+k.sz) with e|f
 ·rfl
 ·simp only [Cs,DT,kH]
def gn(n:Int)(L:List (ByteArray × Kd)):List Nd:=⟨46,n,emp,emp⟩::(kH L .nil).flat
theorem xx:∀(L:List (ByteArray × Kd)) (s:ByteArray) (k:Kd),(kH (L ++ [(s,k)]) .nil).flat=(kH L .nil).flat ++(⟨47,1,s,emp⟩:: k.flat)
 | [],s,k=>by simp [kH,Fl.flat]
 | x :: L,s,k=>by
  simp only [List.cons_append,kH,Fl.flat,xx L s k,List.append_assoc]
theorem xP(n:Int)(L:List (ByteArray × Kd))(s:ByteArray)(k:Kd):gn n (L ++ [(s,k)])=(gn n L ++ [⟨47,1,s,emp⟩])++ k.flat:=by
 unfold gn;rw [xx];simp
theorem CG:∀L:List (ByteArray × Kd),(kH L .nil).len=L.length
 | []=>rfl
 | x :: L=>by simp [kH,Fl.len,CG L]
theorem Oh{n:Int}{L:List (ByteArray × Kd)}(h:n=(L.length:Int)):gn n L=(Kd.fs (kH L .nil)).flat:=by
 unfold gn;rw [Kd.flat,CG,h]
theorem Eu(n:Int)(L:List (ByteArray × Kd))(s:ByteArray)(k:Kd):(gn n (L ++ [(s,k)])).length=(gn n L).length+1+k.sz:=by
 rw [xP,List.length_append,List.length_append,bW];simp
def ny(τ:Stg)(n:Nd)(ps:Exs)(F:jl)(L:List Kd):eR :=
 if n.op=1 then .ok (.base 41) else if n.op=2 then .ok (.base 42) else if n.op=3 then .ok (.base 43) else if n.op=4 then .ok (.ent n.s)
 else if n.op=8 then bH τ n.s
 else if n.op=5 then dH (.base 49) L
 else if n.op=22 then(match L with
  | k :: _=>mS τ k n.s (dL F (Oj ps) n.s)
  | [] => .error 0)
 else jp n.op L
def XE(f:List Kd->eR):Except Int (List Kd)->eR
 | .error e => .error e
 | .ok L=>f L
theorem Qw{τ:Stg}{n:Nd}{ps:Exs}{F:jl}(h11:n.op≠11)(yw:n.op≠13)(h6:n.op≠6):tyX τ (.node n ps) F=XE (ny τ n ps F) (tyS τ ps F):=by
 rw [tyX,if_neg h11,if_neg yw,if_neg h6];cases tyS τ ps F <;> rfl
def mV(L:List Kd):Except Int (List Kd)->Except Int (List Kd)
 | .error e => .error e
 | .ok M => .ok (L ++ M)
theorem u9(x:Except Int (List Kd)):mV [] x=x:=by cases x <;> rfl
theorem vm{τ:Stg}{L:List Kd}{x:Ex}{r:Exs}{F:jl}{e:Int}(h:tyX τ x F = .error e):mV L (tyS τ (.cons x r) F)= .error e:=by
 rw [tyS,h];rfl
theorem Aq{τ:Stg}{L:List Kd}{x:Ex}{r:Exs}{F:jl}{k:Kd}(h:tyX τ x F = .ok k):mV L (tyS τ (.cons x r) F)=mV (L ++ [k]) (tyS τ r F):=by
 rw [tyS,h];simp only
 cases tyS τ r F with
 | error e=>rfl
 | ok M=>simp [mV]
theorem Ti{τ:Stg}{n:Nd}{ps:Exs}{F:jl}(h6:n.op=6):tyX τ (.node n ps) F=fsR (tyF τ ps F 1):=by
 rw [tyX,if_neg (by omega),if_neg (by omega),if_pos h6];cases tyF τ ps F 1 <;> rfl
theorem AG{τ:Stg}{F:jl}:∀ {ps:Exs} {L:List Kd},tyS τ ps F = .ok L->L.length=ps.len
 | .nil,L,h=>by
  rw [tyS] at h;injection h with h;subst h;rfl
 | .cons x r,L,h=>by
  rw [tyS] at h;rcases q:tyX τ x F with e|k
  ·rw [q] at h;cases h
  ·rw [q] at h;simp only at h;rcases q2:tyS τ r F with e|M
   ·rw [q2] at h;cases h
   ·rw [q2] at h;simp only at h;injection h with h;subst h;simp [Exs.len,AG q2]
theorem CQ{y:Nd}{l:Nat}(h:bP false y=true)(hl:(l:Int)=zG y)(h1:y.op≠1)(h2:y.op≠2)(h3:y.op≠3)(h4:y.op≠4)(h5:y.op≠5)(h6:y.op≠6)(h8:y.op≠8)(h11:y.op≠11)(yw:y.op≠13):
 ((y.op=9\/y.op=10\/21<=y.op/\y.op<=24)/\l=1)\/((y.op=12\/14<=y.op/\y.op<=20\/25<=y.op/\y.op<=27)/\l=2):=by
 have h7:y.op≠7:=by
  unfold bP at h;rw [Bool.and_eq_true] at h;simpa using h.2
 unfold zG at hl;rw [if_neg (by omega),if_neg (by omega)] at hl;by_cases g1:y.op=7\/y.op=9\/y.op=10\/21<=y.op/\y.op<=24
 ·rw [if_pos g1] at hl;exact .inl ⟨by omega,by omega⟩
 ·rw [if_neg g1,if_neg yw] at hl;by_cases g2:11<=y.op/\y.op<=20\/25<=y.op/\y.op<=27
  ·rw [if_pos g2] at hl;exact .inr ⟨by omega,by omega⟩
  ·rw [if_neg g2] at hl;omega
noncomputable def eM(K:List KD)(L:List AD)(who act what:ByteArray)(P:List Nd):eR :=
 if or2 (bn K L) (jz P)=0 then(match fj L act with
  | none => .error 3
  | some a=>if(ai a.who who && ai a.what what)=true then(match py P with
   | some x=>tyX ⟨K,a,who,what⟩ x []
   | none => .error 1) else .error 2)
 else .error (or2 (bn K L) (jz P))
def tyV:eR->List Nd
 | .ok k=>k.flat
 | .error _ => []
theorem mH{K:List KD}{L:List AD}{who act what:ByteArray}{P:List Nd}(h:or2 (bn K L) (jz P)≠0):eM K L who act what P = .error (or2 (bn K L) (jz P)):=if_neg h
theorem vY{K:List KD}{L:List AD}{who act what:ByteArray}{P:List Nd}(h:or2 (bn K L) (jz P)=0)(ha:fj L act=none):eM K L who act what P = .error 3:=by
 unfold eM;rw [if_pos h,ha]
theorem xr{K:List KD}{L:List AD}{who act what:ByteArray}{P:List Nd}{a:AD}(h:or2 (bn K L) (jz P)=0)(ha:fj L act=some a)(hb:¬(ai a.who who && ai a.what what)=true):eM K L who act what P = .error 2:=by
 unfold eM;rw [if_pos h,ha];exact if_neg hb
theorem oU{K:List KD}{L:List AD}{who act what:ByteArray}{P:List Nd}{a:AD}{x:Ex}(h:or2 (bn K L) (jz P)=0)(ha:fj L act=some a)(hb:(ai a.who who && ai a.what what)=true)(hx:x.valid false)(e:P=x.flat):eM K L who act what P=tyX ⟨K,a,who,what⟩ x []:=by
 unfold eM;rw [if_pos h,ha];simp only;rw [if_pos hb,fC.2 ⟨hx,e⟩]
theorem nG:∀ {N:List ByteArray},aw N=0->∀s∈N,zk s=0
 | [],_,s,h=>by cases h
 | x :: r,h0,s,h=>by
  simp only [aw,zB] at h0;rcases List.mem_cons.1 h with rfl|h
  ·exact h0.1
  ·exact nG h0.2 s h
theorem vT:∀(K:List AD) (N:List ByteArray),nQ N K=0->∀k∈K,aw k.who=0/\aw k.what=0
 | [],_,_,k,hk=>by cases hk
 | x :: r,N,h,k,hk=>by
  simp only [nQ,zB,adF] at h;rcases List.mem_cons.1 hk with rfl|hk
  ·exact⟨h.1.2.2.2.1,h.1.2.2.2.2.1⟩
  ·exact vT r _ h.2 k hk
theorem GO{K:List KD}{L:List AD}{who what:ByteArray}{a:AD}(h:bn K L=0)(ha:a∈L)(hb:(ai a.who who && ai a.what what)=true):gW ⟨K,a,who,what⟩:=by
 obtain⟨-,-,h1,h2⟩:=qx.1 h;rw [Bool.and_eq_true,lw,lw] at hb;obtain⟨n1,n2⟩:=vT _ _ h2 a ha;exact⟨λd hd=>mr (vW _ _ h1 d hd).1,mr (vM _ _ h2 a ha),nG n1 _ hb.1,nG n2 _ hb.2⟩
theorem QI{K:List KD}{L:List AD}{who act what:ByteArray}{P:List Nd}:TOk (eM K L who act what P):=by
 by_cases h:or2 (bn K L) (jz P)=0
 ·rcases ha:fj L act with _|a
  ·rw [vY h ha];trivial
  ·by_cases hb:(ai a.who who && ai a.what what)=true
   ·obtain⟨-,x,hx,e⟩:=cB.1 (zB.1 h).2;rw [oU h ha hb hx e];exact nj (GO (zB.1 h).1 (List.mem_of_find?_eq_some ha) hb) x false [] hx
   ·rw [xr h ha hb];trivial
 ·rw [mH h];trivial
end Go.Wk
