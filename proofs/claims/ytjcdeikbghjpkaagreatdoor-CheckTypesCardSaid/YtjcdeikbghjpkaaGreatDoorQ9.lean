/-
  Plain: going over a type's nodes, as behindKind does. No program in sight. Plain: the words of names, as lists. Plain: a type hangs on what is known alone, not ..
-/
import Derived.Test.YtjcdeikbghjpkaaGreatDoorQ5
set_option maxRecDepth 100000
namespace Go.Wk
inductive Pc
 | ty (k:Kd)
 | fd (s:ByteArray) (m:Bool) (k:Kd)
def Pc.flat:Pc→List Nd
 | .ty k=>k.flat
 | .fd s m k=>⟨47,if m=true then 1 else 0,s,emp⟩:: k.flat
def Pc.ok:Pc→Prop
 | .ty k=>k.valid
 | .fd _ _ k=>k.valid
def pcs:Fl→List Pc
 | .nil => []
 | .cons s m k r => .fd s m k :: pcs r
def zaS:List Pc→List Nd
 | [] => []
 | x :: r=>x.flat ++ zaS r
theorem zfZ:∀a b:List Pc,zaS (a ++ b)=zaS a ++ zaS b
 | [],_=>rfl
 | x :: a,b=>by simp [zaS,zfZ a b]
theorem zlW:∀f:Fl,zaS (pcs f)=f.flat
 | .nil=>rfl
 | .cons s m k r=>by simp [pcs,zaS,Pc.flat,Fl.flat,zlW r]
theorem zn9:∀f:Fl,(pcs f).length=f.len
 | .nil=>rfl
 | .cons s m k r=>by simp [pcs,Fl.len,zn9 r]
theorem zqp:∀(f:Fl) (x:ByteArray),f.validFrom x→∀p∈pcs f,p.ok
 | .nil,_,_,p,h=>by simp [pcs] at h
 | .cons s m k r,_,hv,p,h=>by
  rcases List.mem_cons.1 h with rfl|h
  ·exact hv.2.2.1
  ·exact zqp r s hv.2.2.2 p h
theorem zsL(x:Pc):1≤x.flat.length:=by
 cases x with
 | ty k=>exact jL k
 | fd s m k=>simp [Pc.flat]
theorem zeM:∀L:List Pc,L.length≤(zaS L).length
 | []=>Nat.le_refl _
 | x :: r=>by have:=zsL x;have:=zeM r;simp only [zaS,List.length_cons,List.length_append];omega
structure zeb(t:List Nd)(p:Nat)(L:List Pc):Prop where
 ok:∀y∈L,y.ok
 drop:∃r,t.drop p=zaS L ++ r
def zeS(y:Nd):Int:=if y.op=45∨y.op=47 then 1 else if y.op=46 then y.n else 0
theorem zeb.go{t:List Nd}{p:Nat}{x:Pc}{q L:List Pc}{y:Nd}(h:zeb t p (x :: q))(e:zaS (x :: q)=y :: zaS L)(hok:∀z∈L,z.ok)(hl:(L.length:Int)=q.length+zeS y):
 ∃y L,t[p]?=some y∧zeb t (p+1) L∧(L.length:Int)=q.length+zeS y∧p+1+(zaS L).length=p+(zaS (x :: q)).length:=by
 obtain⟨r,hr⟩:=h.drop;rw [e] at hr;refine⟨y,L,?_,⟨hok,r,?_⟩,hl,by rw [e,List.length_cons];omega⟩
 ·have:=congrArg (fun l=>l[0]?) hr;simpa using this
 ·have:=congrArg (List.drop 1) hr;rw [List.drop_drop] at this;simpa using this
theorem zeb.step{t:List Nd}{p:Nat}{x:Pc}{q:List Pc}(h:zeb t p (x :: q)):
 ∃y L,t[p]?=some y∧zeb t (p+1) L∧(L.length:Int)=q.length+zeS y∧p+1+(zaS L).length=p+(zaS (x :: q)).length:=by
 have hq:∀z∈q,z.ok:=fun z hz=>h.ok z (List.mem_cons_of_mem _ hz);have hx:x.ok:=h.ok x List.mem_cons_self
 cases x with
 | fd s m k =>
  refine h.go (y:=⟨47,if m=true then 1 else 0,s,emp⟩) (L := .ty k :: q) rfl ?_ ?_
  ·intro z hz
   rcases List.mem_cons.1 hz with rfl|hz
   ·exact hx
   ·exact hq z hz
  ·simp [zeS]
 | ty k =>
  cases k with
  | base o =>
   refine h.go (y:=⟨o,0,emp,emp⟩) (L:=q) rfl hq ?_
   have hb:jq o:=hx
   unfold zeS jq at *
   simp only
   rw [if_neg (by omega),if_neg (by omega)]
   omega
  | ent s=>exact h.go (y:=⟨44,0,s,emp⟩) (L:=q) rfl hq (by simp [zeS])
  | set p =>
   refine h.go (y:=⟨45,0,emp,emp⟩) (L := .ty p :: q) rfl ?_ ?_
   ·intro z hz
    rcases List.mem_cons.1 hz with rfl|hz
    ·exact hx
    ·exact hq z hz
   ·simp [zeS]
  | fs f =>
   refine h.go (y:=⟨46,f.len,emp,emp⟩) (L:=pcs f ++ q) ?_ ?_ ?_
   ·simp [zaS,Pc.flat,Kd.flat,zfZ,zlW]
   ·intro z hz
    rcases List.mem_append.1 hz with hz|hz
    ·exact zqp f _ hx z hz
    ·exact hq z hz
   ·simp [zeS,zn9];omega
theorem zeb.le{t:List Nd}{p:Nat}{L:List Pc}(h:zeb t p L)(h0:0<L.length):p+(zaS L).length≤t.length:=by
 obtain⟨r,e⟩:=h.drop;have h1:=congrArg List.length e;rw [List.length_drop,List.length_append] at h1;have:=zeM L;omega
theorem zff.over{t:List Nd}{q:Nat}{s:ByteArray}{m:Bool}{k:Kd}(h:zff t q s m k):zeb t (q+1) [.ty k]:=by
 obtain⟨r,e⟩:=h.drop;exact⟨fun y hy=>by rw [List.mem_singleton.1 hy];exact h.valid,r,by simp [zaS,Pc.flat,e]⟩
theorem zmF{f:Fl}{s:ByteArray}(h:f.validFrom s):f.find s=none:=by
 rcases hf:f.find s with _|v
 ·rfl
 ·have:=zcZ ((zc3 _ _).1 h).1 hf;rw [zt.self] at this;omega
end Go.Wk
namespace Go.Proofs.YtjcdeikbghjpkaaGreatDoor
open Go.Wk
theorem jt:zaQ.toList = [112,114,105,110,99,105,112,97,108]:=by kernel_rfl
theorem zak:zbU.toList = [97,99,116,105,111,110]:=by kernel_rfl
theorem zau:zah.toList = [114,101,115,111,117,114,99,101]:=by kernel_rfl
theorem zbW:zal.toList = [99,111,110,116,101,120,116]:=by kernel_rfl
end Go.Proofs.YtjcdeikbghjpkaaGreatDoor
namespace Go.Wk
def za7(F G:zy):Prop:=∀P s,jp F P s=jp G P s
theorem zdC(x:List Nd × ByteArray)(F:zy)(P:List Nd)(s:ByteArray):jp (x :: F) P s=((decide (x.2=s)&& decide (zW x.1 P=0))|| jp F P s):=by
 unfold jp;rw [List.any_cons]
theorem zbK(F G:zy)(P:List Nd)(s:ByteArray):jp (F ++ G) P s=(jp F P s || jp G P s):=by
 unfold jp;rw [List.any_append]
mutual
theorem zgy:∀(x:Ex) {F G:zy},za7 F G→za7 (zbw x F) (zbw x G)
 | .node n ps,F,G,h=>by
  unfold zbw;split
  ·intro P s;rw [zdC,zdC,h P s]
  ·split
   ·exact zio ps h
   ·exact h
theorem zio:∀(ps:Exs) {F G:zy},za7 F G→za7 (zeR ps F) (zeR ps G)
 | .nil,_,_,h=>by
  unfold zeR;exact h
 | .cons x r,_,_,h=>by
  unfold zeR;exact zio r (zgy x h)
end
mutual
def zeO:Ex→zy
 | .node n ps=>if n.op=21 then [(zng ps,n.s)] else if n.op=11 then zg1 ps else []
def zg1:Exs→zy
 | .nil => []
 | .cons x r=>zeO x ++ zg1 r
end
mutual
theorem zkn:∀(x:Ex) (F:zy),za7 (zbw x F) (F ++ zeO x)
 | .node n ps,F=>by
  unfold zbw zeO;split
  ·intro P s;rw [zdC,zbK,zdC,Bool.or_comm];simp [jp]
  ·split
   ·exact zlL ps F
   ·intro P s;rw [List.append_nil]
theorem zlL:∀(ps:Exs) (F:zy),za7 (zeR ps F) (F ++ zg1 ps)
 | .nil,F=>by
  unfold zeR zg1;intro P s;rw [List.append_nil]
 | .cons x r,F=>by
  unfold zeR zg1;intro P s;rw [zlL r (zbw x F) P s,zbK,zkn x F P s,zbK,zbK,zbK,Bool.or_assoc]
end
mutual
theorem zc8(τ:Stg):∀(x:Ex) {F G:zy},za7 F G→tyX τ x F=tyX τ x G
 | .node n ps,F,G,h=>by
  rw [tyX,tyX,zni τ ps h,zoG τ ps h,zmC τ ps 1 h,zmr τ ps h,h (zng ps) n.s]
theorem zni(τ:Stg):∀(ps:Exs) {F G:zy},za7 F G→zbL τ ps F=zbL τ ps G
 | .nil,_,_,_=>by rw [zbL,zbL]
 | .cons a r,F,G,h=>by rw [zbL,zbL,zc8 τ a h,zdU τ r (zgy a h)]
theorem zoG(τ:Stg):∀(ps:Exs) {F G:zy},za7 F G→zdQ τ ps F=zdQ τ ps G
 | .nil,_,_,_=>by rw [zdQ,zdQ]
 | .cons c r,F,G,h=>by rw [zdQ,zdQ,zc8 τ c h,zdU τ r (zgy c h),zno τ r h]
theorem zdU(τ:Stg):∀(ps:Exs) {F G:zy},za7 F G→za2 τ ps F=za2 τ ps G
 | .nil,_,_,_=>by rw [za2,za2]
 | .cons a _,_,_,h=>by rw [za2,za2,zc8 τ a h]
theorem zno(τ:Stg):∀(ps:Exs) {F G:zy},za7 F G→zd2 τ ps F=zd2 τ ps G
 | .nil,_,_,_=>by rw [zd2,zd2]
 | .cons _ r,_,_,h=>by rw [zd2,zd2,zdU τ r h]
theorem zmr(τ:Stg):∀(ps:Exs) {F G:zy},za7 F G→tyS τ ps F=tyS τ ps G
 | .nil,_,_,_=>by rw [tyS,tyS]
 | .cons x r,_,_,h=>by rw [tyS,tyS,zc8 τ x h,zmr τ r h]
theorem zmC(τ:Stg):∀(ps:Exs) (c:Nat) {F G:zy},za7 F G→tyF τ ps F c=tyF τ ps G c
 | .nil,_,_,_,_=>by rw [tyF,tyF]
 | .cons x r,c,F,G,h=>by
  rw [tyF,tyF,zmW τ x h];simp only [fun c=>zmC τ r c h]
theorem zmW(τ:Stg):∀(x:Ex) {F G:zy},za7 F G→zbN τ x F=zbN τ x G
 | .node _ ps,_,_,h=>by rw [zbN,zbN,zdU τ ps h]
end
theorem XAt.none{t:List Nd}{p:Nat}{n:Nd}{ps:Exs}(h:XAt t p false (.node n ps))(hp:zp n=0):ps = .nil∧(Ex.node n ps).flat.length=1:=by
 have h2:=h.valid.2.1;rw [hp] at h2
 cases ps with
 | nil=>exact⟨rfl,by simp [Ex.flat,Exs.flat]⟩
 | cons a r=>simp only [Exs.len] at h2;omega
theorem XAt.one{t:List Nd}{p:Nat}{n:Nd}{ps:Exs}(h:XAt t p false (.node n ps))(hp:zp n=1)(hr:zA n=false):
 ∃a,ps = .cons a .nil∧XAt t (p+1) false a∧(Ex.node n ps).flat.length=a.flat.length+1:=by
 have h2:=h.valid.2.1;have hs:=h.parts;rw [show(Ex.node n ps).head=n from rfl,hr] at hs;rw [hp] at h2
 cases ps with
 | nil=>simp only [Exs.len] at h2;omega
 | cons a r =>
  cases r with
  | cons b r=>simp only [Exs.len] at h2;omega
  | nil=>exact⟨a,rfl,hs.head.1,by simp [Ex.flat,Exs.flat]⟩
theorem XAt.two{t:List Nd}{p:Nat}{n:Nd}{ps:Exs}(h:XAt t p false (.node n ps))(hp:zp n=2)(hr:zA n=false):
 ∃a b,ps = .cons a (.cons b .nil)∧XAt t (p+1) false a∧XAt t (p+1+a.flat.length) false b∧(Ex.node n ps).flat.length=a.flat.length+b.flat.length+1:=by
 have h2:=h.valid.2.1;have hs:=h.parts;rw [show(Ex.node n ps).head=n from rfl,hr] at hs;rw [hp] at h2
 cases ps with
 | nil=>simp only [Exs.len] at h2;omega
 | cons a r =>
  cases r with
  | nil=>simp only [Exs.len] at h2;omega
  | cons b r =>
   cases r with
   | cons c r=>simp only [Exs.len] at h2;omega
   | nil =>
    have h3:zcB t (p+1) false (.cons a (.cons b .nil)):=hs
    exact⟨a,b,rfl,h3.head.1,h3.head.2.head.1,by simp [Ex.flat,Exs.flat] <;> omega⟩
theorem XAt.three{t:List Nd}{p:Nat}{n:Nd}{ps:Exs}(h:XAt t p false (.node n ps))(hp:zp n=3)(hr:zA n=false):
 ∃a b c,ps = .cons a (.cons b (.cons c .nil))∧XAt t (p+1) false a∧XAt t (p+1+a.flat.length) false b∧XAt t (p+1+a.flat.length+b.flat.length) false c∧(Ex.node n ps).flat.length=a.flat.length+b.flat.length+c.flat.length+1:=by
 have h2:=h.valid.2.1;have hs:=h.parts;rw [show(Ex.node n ps).head=n from rfl,hr] at hs;rw [hp] at h2
 cases ps with
 | nil=>simp only [Exs.len] at h2;omega
 | cons a r =>
  cases r with
  | nil=>simp only [Exs.len] at h2;omega
  | cons b r =>
   cases r with
   | nil=>simp only [Exs.len] at h2;omega
   | cons c r =>
    cases r with
    | cons d r=>simp only [Exs.len] at h2;omega
    | nil =>
     have h3:zcB t (p+1) false (.cons a (.cons b (.cons c .nil))):=hs
     exact⟨a,b,c,rfl,h3.head.1,h3.head.2.head.1,h3.head.2.head.2.head.1,by simp [Ex.flat,Exs.flat] <;> omega⟩
end Go.Wk
