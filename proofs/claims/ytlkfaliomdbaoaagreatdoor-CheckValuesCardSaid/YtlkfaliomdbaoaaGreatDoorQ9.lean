/-
  Plain: going over a type's nodes, as behindKind does. No program in sight.
-/
import Derived.Test.YtlkfaliomdbaoaaGreatDoorQ5
set_option maxRecDepth 100000
namespace Go.Wk
inductive Pc
 | ty (k:Kd)
 | fd (s:ByteArray) (m:Bool) (k:Kd)
def Pc.flat:Pc→List Nd
 | .ty k=>k.flat
 | .fd s m k=>⟨47,if m=true then 1 else 0,s,emp⟩:: k.flat
def Pc.ok:Pc→Prop
 | .ty k=>k.valid
 | .fd _ _ k=>k.valid
def pcs:Fl→List Pc
 | .nil => []
 | .cons s m k r => .fd s m k :: pcs r
def j8:List Pc→List Nd
 | [] => []
 | x :: r=>x.flat ++ j8 r
theorem zeg:∀a b:List Pc,j8 (a ++ b)=j8 a ++ j8 b
 | [],_=>rfl
 | x :: a,b=>by simp [j8,zeg a b]
theorem zjr:∀f:Fl,j8 (pcs f)=f.flat
 | .nil=>rfl
 | .cons s m k r=>by simp [pcs,j8,Pc.flat,Fl.flat,zjr r]
theorem zlR:∀f:Fl,(pcs f).length=f.len
 | .nil=>rfl
 | .cons s m k r=>by simp [pcs,Fl.len,zlR r]
theorem znE:∀(f:Fl) (x:ByteArray),f.validFrom x→∀p∈pcs f,p.ok
 | .nil,_,_,p,h=>by simp [pcs] at h
 | .cons s m k r,_,hv,p,h=>by
  rcases List.mem_cons.1 h with rfl|h
  ·exact hv.2.2.1
  ·exact znE r s hv.2.2.2 p h
theorem zpE(x:Pc):1≤x.flat.length:=by
 cases x with
 | ty k=>exact zaa k
 | fd s m k=>simp [Pc.flat]
theorem zdf:∀L:List Pc,L.length≤(j8 L).length
 | []=>Nat.le_refl _
 | x :: r=>by have:=zpE x;have:=zdf r;simp only [j8,List.length_cons,List.length_append];omega
structure zc0(t:List Nd)(p:Nat)(L:List Pc):Prop where
 ok:∀y∈L,y.ok
 drop:∃r,t.drop p=j8 L ++ r
def zdy(y:Nd):Int:=if y.op=45∨y.op=47 then 1 else if y.op=46 then y.n else 0
theorem zc0.go{t:List Nd}{p:Nat}{x:Pc}{q L:List Pc}{y:Nd}(h:zc0 t p (x :: q))(e:j8 (x :: q)=y :: j8 L)(hok:∀z∈L,z.ok)(hl:(L.length:Int)=q.length+zdy y):
 ∃y L,t[p]?=some y∧zc0 t (p+1) L∧(L.length:Int)=q.length+zdy y∧p+1+(j8 L).length=p+(j8 (x :: q)).length:=by
 obtain⟨r,hr⟩:=h.drop;rw [e] at hr;refine⟨y,L,?_,⟨hok,r,?_⟩,hl,by rw [e,List.length_cons];omega⟩
 ·have:=congrArg (fun l=>l[0]?) hr;simpa using this
 ·have:=congrArg (List.drop 1) hr;rw [List.drop_drop] at this;simpa using this
theorem zc0.step{t:List Nd}{p:Nat}{x:Pc}{q:List Pc}(h:zc0 t p (x :: q)):
 ∃y L,t[p]?=some y∧zc0 t (p+1) L∧(L.length:Int)=q.length+zdy y∧p+1+(j8 L).length=p+(j8 (x :: q)).length:=by
 have hq:∀z∈q,z.ok:=fun z hz=>h.ok z (List.mem_cons_of_mem _ hz);have hx:x.ok:=h.ok x List.mem_cons_self
 cases x with
 | fd s m k =>
  refine h.go (y:=⟨47,if m=true then 1 else 0,s,emp⟩) (L := .ty k :: q) rfl ?_ ?_
  ·intro z hz
   rcases List.mem_cons.1 hz with rfl|hz
   ·exact hx
   ·exact hq z hz
  ·simp [zdy]
 | ty k =>
  cases k with
  | base o =>
   refine h.go (y:=⟨o,0,emp,emp⟩) (L:=q) rfl hq ?_
   have hb:jm o:=hx
   unfold zdy jm at *
   simp only
   rw [if_neg (by omega),if_neg (by omega)]
   omega
  | ent s=>exact h.go (y:=⟨44,0,s,emp⟩) (L:=q) rfl hq (by simp [zdy])
  | set p =>
   refine h.go (y:=⟨45,0,emp,emp⟩) (L := .ty p :: q) rfl ?_ ?_
   ·intro z hz
    rcases List.mem_cons.1 hz with rfl|hz
    ·exact hx
    ·exact hq z hz
   ·simp [zdy]
  | fs f =>
   refine h.go (y:=⟨46,f.len,emp,emp⟩) (L:=pcs f ++ q) ?_ ?_ ?_
   ·simp [j8,Pc.flat,Kd.flat,zeg,zjr]
   ·intro z hz
    rcases List.mem_append.1 hz with hz|hz
    ·exact znE f _ hx z hz
    ·exact hq z hz
   ·simp [zdy,zlR];omega
theorem zc0.le{t:List Nd}{p:Nat}{L:List Pc}(h:zc0 t p L)(h0:0<L.length):p+(j8 L).length≤t.length:=by
 obtain⟨r,e⟩:=h.drop;have h1:=congrArg List.length e;rw [List.length_drop,List.length_append] at h1;have:=zdf L;omega
theorem zjO.over{t:List Nd}{q:Nat}{s:ByteArray}{m:Bool}{k:Kd}(h:zjO t q s m k):zc0 t (q+1) [.ty k]:=by
 obtain⟨r,e⟩:=h.drop;exact⟨fun y hy=>by rw [List.mem_singleton.1 hy];exact h.valid,r,by simp [j8,Pc.flat,e]⟩
theorem zi5{f:Fl}{s:ByteArray}(h:f.validFrom s):f.find s=none:=by
 rcases hf:f.find s with _|v
 ·rfl
 ·have:=zbD ((zbS _ _).1 h).1 hf;rw [zo.self] at this;omega
end Go.Wk
