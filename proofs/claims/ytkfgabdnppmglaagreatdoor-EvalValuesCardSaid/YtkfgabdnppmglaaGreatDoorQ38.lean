/-
  No expression tells the error 0. No program in sight. Plain: sets of values: both, either, the first one alone. No program in sight. A set does not see the ..
-/
import Derived.Test.YtkfgabdnppmglaaGreatDoorQ2
import Derived.Test.YtkfgabdnppmglaaGreatDoorQ11
import Derived.Test.YtkfgabdnppmglaaGreatDoorQ29
import Derived.Test.YtkfgabdnppmglaaGreatDoorQ30
import Derived.Test.YtkfgabdnppmglaaGreatDoorQ31
set_option maxRecDepth 100000
namespace Go.Proofs.YtkfgabdnppmglaaGreatDoor
open Go.RowKit Go.Wk
theorem zft{e:Int}{b:Bool}:js e b≠ .error 0:=fun h=>by
 unfold js at h;split at h
 ·cases h
 ·rename_i hn;injection h with h;exact hn h
theorem zeb{e:Int}{V:List Nd}:z8 e V≠ .error 0:=fun h=>by
 unfold z8 at h;split at h
 ·cases h
 ·rename_i hn;injection h with h;exact hn h
theorem zqD{σ:Env}{s:ByteArray}:jF σ s≠ .error 0:=fun h=>by
 unfold jF at h
 repeat (split at h;· cases h)
 injection h with h;cases h
theorem zcQ{k:Int}(hk:k≠0):(Except.error k:Res)≠ .error 0:=fun h=>by injection h with h;exact hk h
theorem ztY{E:List En}{V:List Nd}:za5 E V≠ .error 0:=fun h=>by
 unfold za5 at h;split at h
 ·cases h
 ·split at h
  ·cases h
  ·injection h with h;cases h
theorem ztK{E:List En}{n:Nd}{V:List Nd}:jE E n V≠ .error 0:=fun h=>by
 unfold jE at h;split at h
 ·split at h
  ·cases h
  ·exact zcQ (by decide) h
 ·split at h
  ·split at h
   ·exact zeb h
   ·exact zcQ (by decide) h
  ·split at h
   ·split at h
    ·exact zft h
    ·exact zcQ (by decide) h
   ·split at h
    ·split at h
     ·cases h
     ·exact zcQ (by decide) h
    ·rcases hr:za5 E V with e|(_|r)
     ·rw [hr] at h;simp only at h;injection h with h;subst h;exact ztY hr
     ·rw [hr] at h;simp only at h;split at h
      ·cases h
      ·exact zcQ (by decide) h
     ·rw [hr] at h;simp only at h;split at h
      ·cases h
      ·exact zeb h
theorem ztq{E:List En}{op:Int}{A B:List Nd}:jQ E op A B≠ .error 0:=fun h=>by
 unfold jQ at h;split at h
 ·cases h
 ·split at h
  ·unfold inX at h;split at h
   ·cases h
   ·exact zcQ (by decide) h
  ·split at h
   ·exact zft h
   ·split at h
    ·exact zft h
    ·split at h
     ·exact zft h
     ·split at h
      ·split at h
       ·cases h
       ·split at h
        ·cases h
        ·exact zeb h
      ·exact zcQ (by decide) h
theorem zpl{σ:Env}:∀(ps:Exs) (L:List (List Nd)),evS σ ps = .ok L→L.length=ps.len
 | .nil,L,h=>by
  unfold evS at h;injection h with h;subst h;rfl
 | .cons x r,L,h=>by
  unfold evS at h;rcases hx:evX σ x with e|W
  ·rw [hx] at h;cases h
  ·rw [hx] at h;simp only at h;rcases hr:evS σ r with e|M
   ·rw [hr] at h;cases h
   ·rw [hr] at h;simp only at h;injection h with h;subst h;simp only [List.length_cons,Exs.len,zpl r M hr]
mutual
theorem zdT{σ:Env}:∀(x:Ex),x.valid false→evX σ x≠ .error 0
 | .node n ps,hv=>fun h=>by
  obtain⟨h1,h2,h3⟩:=hv;unfold zba at h1;rw [Bool.and_eq_true] at h1;obtain⟨hf,h7⟩:=h1;have h7':n.op≠7:=by simpa using h7
  unfold evX at h;split at h
  ·cases h
  ·rename_i g14;split at h
   ·exact zqD h
   ·rename_i g8;split at h
    ·rename_i g;have hr:z6 n=false:=decide_eq_false (by omega);have hl:(ps.len:Int)=2:=by
      rw [h2];unfold zH;rw [if_neg (by omega),if_neg (by omega),if_neg (by omega),if_neg (by omega),if_pos (by omega)]
     rw [hr] at h3;exact zmL ps _ h3 (by omega) _ h
    ·rename_i g11;split at h
     ·rename_i g;have hr:z6 n=false:=decide_eq_false (by omega);have hl:(ps.len:Int)=3:=by
       rw [h2];unfold zH;rw [if_neg (by omega),if_neg (by omega),if_neg (by omega),if_pos (by omega)]
      rw [hr] at h3;exact ztj ps _ h3 (by omega) h
     ·rename_i g13;split at h
      ·rename_i g6;have hr:z6 n=true:=decide_eq_true g6;rw [hr] at h3;rcases hF:evF σ ps with e|L
       ·rw [hF] at h;simp only at h;injection h with h;subst h;exact zra ps _ h3 hF
       ·rw [hF] at h;exact zeb h
      ·rename_i g6;have hr:z6 n=false:=decide_eq_false g6;rw [hr] at h3;rcases hS:evS σ ps with e|L
       ·rw [hS] at h;simp only at h;injection h with h;subst h;exact zq4 ps _ h3 hS
       ·rw [hS] at h;simp only at h;split at h
        ·exact zeb h
        ·rename_i g5;have hL:=zpl ps L hS;have hlen:ps.len=1∨ps.len=2:=by
          unfold zH at h2;rw [if_neg (by omega),if_neg (by omega)] at h2;split at h2
          ·omega
          ·split at h2
           ·omega
           ·omega
         match L,hL with
         | [],hL=>simp only [List.length_nil] at hL;omega
         | [V],_=>exact ztK h
         | [A,B],_=>exact ztq h
         | _ :: _ :: _ :: _,hL=>simp only [List.length_cons] at hL;omega
theorem zmL{σ:Env}:∀(ps:Exs) (s:ByteArray),ps.valid false s→2≤ps.len→∀(o:Bool),ja σ o ps≠ .error 0
 | .nil,_,_,hl,_=>fun _=>by simp only [Exs.len] at hl;omega
 | .cons a r,s,hv,hl,o=>fun h=>by
  simp only [Exs.len] at hl;unfold ja at h;rcases ha:evX σ a with e|W
  ·rw [ha] at h;simp only at h;injection h with h;subst h;exact zdT a hv.2.1 ha
  ·rw [ha] at h;simp only at h;split at h
   ·split at h
    ·cases h
    ·exact zpy r _ hv.2.2 (by omega) h
   ·exact zcQ (by decide) h
theorem zpy{σ:Env}:∀(ps:Exs) (s:ByteArray),ps.valid false s→1≤ps.len→zaz σ ps≠ .error 0
 | .nil,_,_,hl=>fun _=>by simp only [Exs.len] at hl;omega
 | .cons b r,s,hv,hl=>fun h=>by
  unfold zaz at h;rcases hb:evX σ b with e|W
  ·rw [hb] at h;simp only at h;injection h with h;subst h;exact zdT b hv.2.1 hb
  ·rw [hb] at h;simp only at h;split at h
   ·cases h
   ·exact zcQ (by decide) h
theorem ztj{σ:Env}:∀(ps:Exs) (s:ByteArray),ps.valid false s→3≤ps.len→zcb σ ps≠ .error 0
 | .nil,_,_,hl=>fun _=>by simp only [Exs.len] at hl;omega
 | .cons b r,s,hv,hl=>fun h=>by
  simp only [Exs.len] at hl;unfold zcb at h;rcases hb:evX σ b with e|W
  ·rw [hb] at h;simp only at h;injection h with h;subst h;exact zdT b hv.2.1 hb
  ·rw [hb] at h;simp only at h;split at h
   ·split at h
    ·exact zhK r _ hv.2.2 (by omega) h
    ·exact zrW r _ hv.2.2 (by omega) h
   ·exact zcQ (by decide) h
theorem zhK{σ:Env}:∀(ps:Exs) (s:ByteArray),ps.valid false s→1≤ps.len→zd7 σ ps≠ .error 0
 | .nil,_,_,hl=>fun _=>by simp only [Exs.len] at hl;omega
 | .cons a r,s,hv,hl=>fun h=>by
  unfold zd7 at h;exact zdT a hv.2.1 h
theorem zrW{σ:Env}:∀(ps:Exs) (s:ByteArray),ps.valid false s→2≤ps.len→zjP σ ps≠ .error 0
 | .nil,_,_,hl=>fun _=>by simp only [Exs.len] at hl;omega
 | .cons a r,s,hv,hl=>fun h=>by
  simp only [Exs.len] at hl;unfold zjP at h;exact zhK r _ hv.2.2 (by omega) h
theorem zq4{σ:Env}:∀(ps:Exs) (s:ByteArray),ps.valid false s→evS σ ps≠ .error 0
 | .nil,_,_=>fun h=>by unfold evS at h;cases h
 | .cons x r,s,hv=>fun h=>by
  unfold evS at h;rcases hx:evX σ x with e|W
  ·rw [hx] at h;simp only at h;injection h with h;subst h;exact zdT x hv.2.1 hx
  ·rw [hx] at h;simp only at h;rcases hr:evS σ r with e|M
   ·rw [hr] at h;simp only at h;injection h with h;subst h;exact zq4 r _ hv.2.2 hr
   ·rw [hr] at h;cases h
theorem zra{σ:Env}:∀(ps:Exs) (s:ByteArray),ps.valid true s→evF σ ps≠ .error 0
 | .nil,_,_=>fun h=>by unfold evF at h;cases h
 | .cons x r,s,hv=>fun h=>by
  unfold evF at h;rcases hx:zet σ x with e|W
  ·rw [hx] at h;simp only at h;injection h with h;subst h;exact zrJ x hv.2.1 hx
  ·rw [hx] at h;simp only at h;rcases hr:evF σ r with e|M
   ·rw [hr] at h;simp only at h;injection h with h;subst h;exact zra r _ hv.2.2 hr
   ·rw [hr] at h;cases h
theorem zrJ{σ:Env}:∀(x:Ex),x.valid true→zet σ x≠ .error 0
 | .node n ps,hv=>fun h=>by
  obtain⟨h1,h2,h3⟩:=hv;unfold zba at h1;rw [Bool.and_eq_true] at h1;have h7:n.op=7:=by simpa using h1.2
  have hr:z6 n=false:=decide_eq_false (by omega);have hl:(ps.len:Int)=1:=by
   rw [h2];unfold zH;rw [if_neg (by omega),if_neg (by omega),if_pos (by omega)]
  rw [hr] at h3;unfold zet at h;exact zhK ps _ h3 (by omega) h
end
noncomputable def upF(σ:Env)(P:List Nd):Int:=or2 (ji σ.E) (or2 (zdJ σ.who σ.act σ.what σ.ctx) (jL P))
noncomputable def zbI(σ:Env)(P:List Nd):Res:=if upF σ P=0 then(match zfc P with|some x=>evX σ x|none => .error 1) else .error (upF σ P)
def zZ:Res→Int
 | .ok _=>0
 | .error e=>e
def zju:Res→List Nd
 | .ok V=>V
 | .error _ => []
theorem zuq{σ:Env}(h1:ji σ.E=0)(h2:zdJ σ.who σ.act σ.what σ.ctx=0):zcj σ:=by
 unfold zdJ at h2;obtain⟨a1,h2⟩:=zav.1 h2;obtain⟨a2,h2⟩:=zav.1 h2;obtain⟨a3,h2⟩:=zav.1 h2;obtain⟨a4,a5⟩:=zav.1 h2;refine⟨h1,a1,a2,a3,a4,?_⟩;by_cases g:zf σ.ctx=6
 ·exact g
 ·rw [if_neg g] at a5;cases a5
theorem zm2{σ:Env}{P:List Nd}(h:upF σ P=0):zcj σ∧P.length≤200∧∃x:Ex,x.valid false∧P=x.flat:=by
 unfold upF at h;obtain⟨h1,h⟩:=zav.1 h;obtain⟨h2,h3⟩:=zav.1 h;exact⟨zuq h1 h2,zfm.1 h3⟩
theorem zj0{σ:Env}{P:List Nd}{x:Ex}(h:upF σ P=0)(hx:x.valid false)(e:P=x.flat):zbI σ P=evX σ x:=by
 unfold zbI;rw [if_pos h,zgb.2 ⟨hx,e⟩]
end Go.Proofs.YtkfgabdnppmglaaGreatDoor
namespace Go.Wk
section
variable {P Q:List Nd} (h:jM P Q=0)
include h
end
end Go.Wk
namespace Go.Proofs.YtkfgabdnppmglaaGreatDoor
open Go.RowKit Go.Wk
def setX(L:List Ex):Ex := .node ⟨5,L.length,emp,emp⟩ (match L with
 | [a,b] => .cons a (.cons b .nil)
 | [a,b,c] => .cons a (.cons b (.cons c .nil))
 | _ => .nil)
theorem zeT(p:List Nd):∀l:List (List Nd),(zfx p l).length≤l.length+1
 | []=>by simp [zfx]
 | q :: r=>by
  have:=zeT p r;simp only [zfx];split
  ·simp
  ·split
   ·simp
   ·simp only [List.length_cons];omega
theorem zhU:∀l:List (List Nd),(jU l).length≤l.length
 | []=>by simp [jU]
 | p :: r=>by
  have h1:=zhU r;have h2:=zeT p (jU r);simp only [jU,List.length_cons];omega
end Go.Proofs.YtkfgabdnppmglaaGreatDoor
