/-
  The document's setting, and where its parts lie; the type of a name. (gen_reftyn.py) tree.behind, tree.Check; the reference's Behind and Fault: where an ..
-/
import Derived.Test.YtjcdeikbghjpkaaGreatDoorQ2
import Derived.Test.YtjcdeikbghjpkaaGreatDoorQ9
import Derived.Test.YtjcdeikbghjpkaaGreatDoorQ15
import Derived.Test.YtjcdeikbghjpkaaGreatDoorQ16
import Derived.Test.YtjcdeikbghjpkaaGreatDoorQ17
import Derived.Test.YtjcdeikbghjpkaaGreatDoorQ18
import Derived.Test.YtjcdeikbghjpkaaGreatDoorQ22
import Derived.Test.YtjcdeikbghjpkaaGreatDoorQ23
set_option maxRecDepth 100000
set_option maxHeartbeats 8000000
namespace Go.Proofs.YtjcdeikbghjpkaaGreatDoor
open Go.RowKit Go.Wk Go.Sort
structure Rs where
 s:Sc
 who:ByteArray
 what:ByteArray
 i:Nat
 a:An
 D:Nat
def Rs.v(x:Rs):Value := .agg #[.slice x.s.KA x.s.kn x.s.kc,.slice x.s.AA x.s.an x.s.ac,.string x.who,.string x.what,.int .i64 x.i]
def Rs.o(x:Rs):Obj := .cells #[.slice x.s.KA x.s.kn x.s.kc,.slice x.s.AA x.s.an x.s.ac,.string x.who,.string x.what,.int .i64 x.i] 52
def Rs.t(x:Rs):Stg:=⟨x.s.k,x.a.d,x.who,x.what⟩
structure zna(w:World)(x:Rs):Prop where
 s:zcO w x.s
 at_:x.s.L[x.i]?=some x.a
 who:x.who.size≤maxLen
 what:x.what.size≤maxLen
 ok:zcF x.t
 d:x.D≤w.heap.size
 ctx:∀a,x.a.NA=some a→a.block<x.D
 kds:∀y∈x.s.K,∀a,y.NA=some a→a.block<x.D
theorem zna.keep{w w':World}{x:Rs}(h:zna w x)(hb:Below w.heap.size w w'):zna w' x:=⟨h.s.keep hb,h.at_,h.who,h.what,h.ok,Nat.le_trans h.d hb.size,h.ctx,h.kds⟩
structure Vrs(w:World)(b:Nat)(x:Rs):Prop where
 c0:w.cell? ⟨b,0,none⟩=some (.slice x.s.KA x.s.kn x.s.kc)
 c1:w.cell? ⟨b,1,none⟩=some (.slice x.s.AA x.s.an x.s.ac)
 c2:w.cell? ⟨b,2,none⟩=some (.string x.who)
 c3:w.cell? ⟨b,3,none⟩=some (.string x.what)
 c4:w.cell? ⟨b,4,none⟩=some (.int .i64 x.i)
theorem Vrs.keep{w w':World}{b:Nat}{x:Rs}(h:Vrs w b x)(hb:Below w.heap.size w w'):Vrs w' b x :=
 ⟨zb hb h.c0,zb hb h.c1,zb hb h.c2,zb hb h.c3,zb hb h.c4⟩
theorem zbf(w:World)(x:Rs):Vrs (w.alloc x.o) w.heap.size x :=
 ⟨zx (heap_alloc_last w _) rfl,zx (heap_alloc_last w _) rfl,zx (heap_alloc_last w _) rfl,zx (heap_alloc_last w _) rfl,zx (heap_alloc_last w _) rfl⟩
theorem zmL(S:Nat→Prop)(x:Rs)(s:ByteArray)(w:World)(h:zna w x)(hS:∀a,x.a.NA=some a→S a.block∧a.block<w.heap.size):
 Calls Tryz.prog 31 #[x.v,.string s] w (zR S w (jF x.t s)):=by
 have B0:=hi9 ((za w x.o).trans ((za (w.alloc x.o) (.cells #[.slice none 0 0,.int .i64 0] 30)).mono (za w _).size));have V0:=hi9 ((zbf w x).keep (za _ (.cells #[.slice none 0 0,.int .i64 0] 30)));have R0:=hi9 (zeH w x.o 30);have HW:=hi9 (show x.who.size≤maxLen∧x.what.size≤maxLen from⟨h.who,h.what⟩);have HC:=hi9 (show x.a.d.P=(Kd.fs (zek x.a.d.P)).flat by obtain⟨f,hf⟩:=h.ok.ctx;have hf':Kin x.a.d.P (.fs f):=hf;rw [zck hf'];exact hf'.e);have HS:=hi9 (h.keep B0.out);have hz:((w.alloc x.o).alloc (.cells #[.slice none 0 0,.int .i64 0] 30)).heap.size=w.heap.size+1+1:=by simp [go_sem]
 unfold Rs.o at V0 B0 R0 HS hz;unfold Rs.v;clear h;by_cases g0:s=zaQ
 ·subst g0;have f0:(zaQ.toList == [112,114,105,110,99,105,112,97,108])=true:=beq_iff_eq.2 jt;rw [show jF x.t zaQ = .ok (.ent x.who) by unfold jF;rw [if_pos rfl] <;> rfl];obtain⟨c0,c1,c2,c3,c4⟩:=V0.out;have N0:=hi9 (zcN ((w.alloc (.cells #[.slice x.s.KA x.s.kn x.s.kc,.slice x.s.AA x.s.an x.s.ac,.string x.who,.string x.what,.int .i64 x.i] 52)).alloc (.cells #[.slice none 0 0,.int .i64 0] 30)) ⟨44,0,x.who,emp⟩ ⟨HW.out.1,Nat.zero_le _,by show _≤(0:Int);decide,by show(0:Int)≤_;decide⟩);have b1:=za ((w.alloc (.cells #[.slice x.s.KA x.s.kn x.s.kc,.slice x.s.AA x.s.an x.s.ac,.string x.who,.string x.what,.int .i64 x.i] 52)).alloc (.cells #[.slice none 0 0,.int .i64 0] 30)) (.cells #[.int .i64 44,.int .i64 0,.string x.who,.string ⟨#[]⟩] 41);have B1:=bh B0 b1;have R1:=hi9 (R0.out.keep b1);rw [hz] at N0;have HFR:=hi9 (jz (S:=S) (A:=some ⟨w.heap.size+1+1,0,none⟩) B0.out R0.out (fun a e=>by injection e with e;subst e;rw [hz];exact Nat.le_refl _));clear V0 b1 HS HC HW hz B0 R0;go_enter Tryz.func31,Tryz.ntmps31;go_wp2_with fail;refine(jV _ _ _ _).mono ?_;rintro e w2 ⟨rfl,b2⟩;have B2:=bh B1 b2;have R2:=hi9 (R1.out.keep b2);have NZ:=hi9 (N0.out.keep b2);clear b2 B1 R1 N0 c0 c1 c2 c3 c4;have RS:=R2.out.set (.slice (some ⟨w.heap.size+1+1,0,none⟩) 1 1) (.int .i64 0);obtain⟨s0,s1,-,-⟩:=RS;have GF:=hi9 (zq (S:=S) (r := .ok (.ent x.who)) NZ.out HFR.out B2.out (show w.heap.size≤w.heap.size+1 by omega));obtain⟨r0,r1,z0,z1⟩:=R2.out;go_wp2_with fail;exact bodyPost_ret (v := .agg #[.slice (some ⟨w.heap.size+1+1,0,none⟩) 1 1,.int .i64 0]) (by simp [results,Tryz.results31,go_sem,s0,s1]) rfl GF.out
 by_cases g1:s=zbU
 ·subst g1;have f1:(zbU.toList == [97,99,116,105,111,110])=true:=beq_iff_eq.2 zak;have f0:(zbU.toList == [112,114,105,110,99,105,112,97,108])=false:=beq_eq_false_iff_ne.2 (fun q=>g0 (toList_inj (q.trans jt.symm)));rw [show jF x.t zbU = .ok (.ent zcQ) by unfold jF;rw [if_neg g0];rw [if_pos rfl] <;> rfl];obtain⟨c0,c1,c2,c3,c4⟩:=V0.out;have N0:=hi9 (zcN ((w.alloc (.cells #[.slice x.s.KA x.s.kn x.s.kc,.slice x.s.AA x.s.an x.s.ac,.string x.who,.string x.what,.int .i64 x.i] 52)).alloc (.cells #[.slice none 0 0,.int .i64 0] 30)) ⟨44,0,zcQ,emp⟩ ⟨(by decide),Nat.zero_le _,by show _≤(0:Int);decide,by show(0:Int)≤_;decide⟩);have b1:=za ((w.alloc (.cells #[.slice x.s.KA x.s.kn x.s.kc,.slice x.s.AA x.s.an x.s.ac,.string x.who,.string x.what,.int .i64 x.i] 52)).alloc (.cells #[.slice none 0 0,.int .i64 0] 30)) (.cells #[.int .i64 44,.int .i64 0,.string zcQ,.string ⟨#[]⟩] 41);have B1:=bh B0 b1;have R1:=hi9 (R0.out.keep b1);rw [hz] at N0;have HFR:=hi9 (jz (S:=S) (A:=some ⟨w.heap.size+1+1,0,none⟩) B0.out R0.out (fun a e=>by injection e with e;subst e;rw [hz];exact Nat.le_refl _));clear V0 b1 HS HC HW hz B0 R0 g0;go_enter Tryz.func31,Tryz.ntmps31;go_wp2_with fail;refine(jV _ _ _ _).mono ?_;rintro e w2 ⟨rfl,b2⟩;have B2:=bh B1 b2;have R2:=hi9 (R1.out.keep b2);have NZ:=hi9 (N0.out.keep b2);clear b2 B1 R1 N0 c0 c1 c2 c3 c4;have RS:=R2.out.set (.slice (some ⟨w.heap.size+1+1,0,none⟩) 1 1) (.int .i64 0);obtain⟨s0,s1,-,-⟩:=RS;have GF:=hi9 (zq (S:=S) (r := .ok (.ent zcQ)) NZ.out HFR.out B2.out (show w.heap.size≤w.heap.size+1 by omega));obtain⟨r0,r1,z0,z1⟩:=R2.out;go_wp2_with fail;exact bodyPost_ret (v := .agg #[.slice (some ⟨w.heap.size+1+1,0,none⟩) 1 1,.int .i64 0]) (by simp [results,Tryz.results31,go_sem,s0,s1]) rfl GF.out
 by_cases g2:s=zah
 ·subst g2;have f2:(zah.toList == [114,101,115,111,117,114,99,101])=true:=beq_iff_eq.2 zau;have f0:(zah.toList == [112,114,105,110,99,105,112,97,108])=false:=beq_eq_false_iff_ne.2 (fun q=>g0 (toList_inj (q.trans jt.symm)));have f1:(zah.toList == [97,99,116,105,111,110])=false:=beq_eq_false_iff_ne.2 (fun q=>g1 (toList_inj (q.trans zak.symm)));rw [show jF x.t zah = .ok (.ent x.what) by unfold jF;rw [if_neg g0];rw [if_neg g1];rw [if_pos rfl] <;> rfl];obtain⟨c0,c1,c2,c3,c4⟩:=V0.out;have N0:=hi9 (zcN ((w.alloc (.cells #[.slice x.s.KA x.s.kn x.s.kc,.slice x.s.AA x.s.an x.s.ac,.string x.who,.string x.what,.int .i64 x.i] 52)).alloc (.cells #[.slice none 0 0,.int .i64 0] 30)) ⟨44,0,x.what,emp⟩ ⟨HW.out.2,Nat.zero_le _,by show _≤(0:Int);decide,by show(0:Int)≤_;decide⟩);have b1:=za ((w.alloc (.cells #[.slice x.s.KA x.s.kn x.s.kc,.slice x.s.AA x.s.an x.s.ac,.string x.who,.string x.what,.int .i64 x.i] 52)).alloc (.cells #[.slice none 0 0,.int .i64 0] 30)) (.cells #[.int .i64 44,.int .i64 0,.string x.what,.string ⟨#[]⟩] 41);have B1:=bh B0 b1;have R1:=hi9 (R0.out.keep b1);rw [hz] at N0;have HFR:=hi9 (jz (S:=S) (A:=some ⟨w.heap.size+1+1,0,none⟩) B0.out R0.out (fun a e=>by injection e with e;subst e;rw [hz];exact Nat.le_refl _));clear V0 b1 HS HC HW hz B0 R0 g0 g1;go_enter Tryz.func31,Tryz.ntmps31;go_wp2_with fail;refine(jV _ _ _ _).mono ?_;rintro e w2 ⟨rfl,b2⟩;have B2:=bh B1 b2;have R2:=hi9 (R1.out.keep b2);have NZ:=hi9 (N0.out.keep b2);clear b2 B1 R1 N0 c0 c1 c2 c3 c4;have RS:=R2.out.set (.slice (some ⟨w.heap.size+1+1,0,none⟩) 1 1) (.int .i64 0);obtain⟨s0,s1,-,-⟩:=RS;have GF:=hi9 (zq (S:=S) (r := .ok (.ent x.what)) NZ.out HFR.out B2.out (show w.heap.size≤w.heap.size+1 by omega));obtain⟨r0,r1,z0,z1⟩:=R2.out;go_wp2_with fail;exact bodyPost_ret (v := .agg #[.slice (some ⟨w.heap.size+1+1,0,none⟩) 1 1,.int .i64 0]) (by simp [results,Tryz.results31,go_sem,s0,s1]) rfl GF.out
 by_cases g3:s=zal
 ·subst g3;have f3:(zal.toList == [99,111,110,116,101,120,116])=true:=beq_iff_eq.2 zbW;have f0:(zal.toList == [112,114,105,110,99,105,112,97,108])=false:=beq_eq_false_iff_ne.2 (fun q=>g0 (toList_inj (q.trans jt.symm)));have f1:(zal.toList == [97,99,116,105,111,110])=false:=beq_eq_false_iff_ne.2 (fun q=>g1 (toList_inj (q.trans zak.symm)));have f2:(zal.toList == [114,101,115,111,117,114,99,101])=false:=beq_eq_false_iff_ne.2 (fun q=>g2 (toList_inj (q.trans zau.symm)));rw [show jF x.t zal = .ok (.fs (zek x.a.d.P)) by unfold jF;rw [if_neg g0];rw [if_neg g1];rw [if_neg g2];rw [if_pos rfl] <;> rfl];obtain⟨c0,c1,c2,c3,c4⟩:=V0.out;have hil:x.i<x.s.an:=by rw [HS.out.s.a.len];exact(List.getElem?_eq_some_iff.1 HS.out.at_).1
  obtain⟨a0,ea0,d0,d1,d2,d3,hok⟩:=HS.out.s.a.at_ x.i x.a HS.out.at_;have hii:(x.i:Int)<(x.s.an:Int):=by omega
  have N0:=hi9 (show Ns ((w.alloc (.cells #[.slice x.s.KA x.s.kn x.s.kc,.slice x.s.AA x.s.an x.s.ac,.string x.who,.string x.what,.int .i64 x.i] 52)).alloc (.cells #[.slice none 0 0,.int .i64 0] 30)) x.a.NA x.a.nn x.a.nc (Kd.fs (zek x.a.d.P)).flat from by rw [←HC.out];exact hok.ns);have HFR:=hi9 (znZ (S:=S) (rb:=w.heap.size+1) (A:=x.a.NA) (Nat.le_succ _) hS);rw [ea0] at c1 d3 R0 B0 N0 ⊢;generalize x.s.an=an at *;generalize x.i=ii at *;clear V0 HS HC HW hz hok hS g0 g1 g2;go_enter Tryz.func31,Tryz.ntmps31;go_wp2_with fail;refine(jV _ _ _ _).mono ?_;rintro e w2 ⟨rfl,b2⟩;have B2:=bh B0 b2;have R2:=hi9 (R0.out.keep b2);have NZ:=hi9 (N0.out.keep b2);clear b2 B0 R0 N0 c0 c1 c2 c3 c4 d0 d1 d2 d3;have RS:=R2.out.set (.slice x.a.NA x.a.nn x.a.nc) (.int .i64 0);obtain⟨s0,s1,-,-⟩:=RS;have GF:=hi9 (zq (S:=S) (r := .ok (.fs (zek x.a.d.P))) NZ.out HFR.out B2.out (show w.heap.size≤w.heap.size+1 by omega));obtain⟨r0,r1,z0,z1⟩:=R2.out;go_wp2_with fail;exact bodyPost_ret (v := .agg #[.slice x.a.NA x.a.nn x.a.nc,.int .i64 0]) (by simp [results,Tryz.results31,go_sem,s0,s1]) rfl GF.out
 have f0:(s.toList == [112,114,105,110,99,105,112,97,108])=false:=beq_eq_false_iff_ne.2 (fun q=>g0 (toList_inj (q.trans jt.symm)));have f1:(s.toList == [97,99,116,105,111,110])=false:=beq_eq_false_iff_ne.2 (fun q=>g1 (toList_inj (q.trans zak.symm)));have f2:(s.toList == [114,101,115,111,117,114,99,101])=false:=beq_eq_false_iff_ne.2 (fun q=>g2 (toList_inj (q.trans zau.symm)));have f3:(s.toList == [99,111,110,116,101,120,116])=false:=beq_eq_false_iff_ne.2 (fun q=>g3 (toList_inj (q.trans zbW.symm)));rw [show jF x.t s = .error 3 by unfold jF;rw [if_neg g0,if_neg g1,if_neg g2,if_neg g3]];clear g0 g1 g2 g3 HS HC HW hz V0;go_enter Tryz.func31,Tryz.ntmps31;go_wp2_with fail;refine(zH _ _).mono ?_;rintro e w2 ⟨rfl,b2⟩;have B2:=bh B0 b2;have R2:=hi9 (R0.out.keep b2);clear b2 B0 R0;have RS:=R2.out.set (.slice none 0 0) (.int .i64 3);obtain⟨s0,s1,-,-⟩:=RS;have GF:=hi9 (zq (S:=S) (r := .error 3) (zY _) zI B2.out (show w.heap.size≤w.heap.size+1 by omega));obtain⟨r0,r1,z0,z1⟩:=R2.out;go_wp2_with fail;exact bodyPost_ret (v := .agg #[.slice none 0 0,.int .i64 3]) (by simp [results,Tryz.results31,go_sem,s0,s1]) rfl GF.out
structure Vn(w:World)(b:Nat)(x:Nd):Prop where
 c0:w.cell? ⟨b,0,none⟩=some (.int .i64 x.op)
 c1:w.cell? ⟨b,1,none⟩=some (.int .i64 x.n)
 c2:w.cell? ⟨b,2,none⟩=some (.string x.s)
 c3:w.cell? ⟨b,3,none⟩=some (.string x.t)
theorem Vn.keep{w w':World}{b:Nat}{x:Nd}(h:Vn w b x)(hb:Below w.heap.size w w'):Vn w' b x:=⟨zb hb h.c0,zb hb h.c1,zb hb h.c2,zb hb h.c3⟩
theorem zfj(w:World)(x:Nd)(t:TypeId):Vn (w.alloc (.cells #[.int .i64 x.op,.int .i64 x.n,.string x.s,.string x.t] t)) w.heap.size x :=
 ⟨zbu (heap_alloc_new w _) rfl,zbu (heap_alloc_new w _) rfl,zbu (heap_alloc_new w _) rfl,zbu (heap_alloc_new w _) rfl⟩
theorem znl(t:List Nd)(s s':ByteArray):∀(c p:Nat),zaf t c false s p=zaf t c false s' p
 | 0,p=>by unfold zaf;simp only [jD]
 | c+1,p=>by
  rcases h:t[p]? with _|y
  ·have hp:t.length≤p:=List.getElem?_eq_none_iff.1 h;rw [zcf hp,zcf hp]
  ·have e1:∀z,¬(false=true∧¬zO z y.s<0):=fun z q=>Bool.false_ne_true q.1;rw [zbP h,zbP h,if_neg (e1 s),if_neg (e1 s')]
theorem zgQ{t:List Nd}{s:ByteArray}{c p:Nat}:zaf t (c+1) false s p=if 0≤jA t p false then zaf t c false s (jA t p false).toNat else -1:=by
 rcases h:t[p]? with _|y
 ·have hp:t.length≤p:=List.getElem?_eq_none_iff.1 h;rw [zcf hp,zf4 hp];rfl
 ·rw [zbP h,if_neg (fun q=>absurd q.1 Bool.false_ne_true),znl t y.s s]
theorem zln{f:Bool}{x:Nd}(h:jv x=false):zad f x=false:=by unfold zad;rw [h];rfl
theorem zmu{f:Bool}{x:Nd}(h:jv x=true):zad f x=(decide (x.op=7)==f):=by unfold zad;rw [h];rfl
theorem zjO{x:Nd}(h:zcP x):zp x≤9223372036854775807:=by
 unfold zp;have:=h.hi;split
 ·exact this
 ·repeat' (first|split|omega)
def TbC(P:List Nd)(A:Option Addr)(n c m:Nat):Prop:=∀(p:Nat) (f:Bool) (w:World),Ns w A n c P→n-p≤m→
 Calls Tryz.prog 40 #[.slice A n c,.int .i64 p,.bool f] w fun e w'=>e = .returned (.int .i64 (jA P p f))∧Below w.heap.size w w'
theorem zp8(P:List Nd)(A:Option Addr)(n c p:Nat)(f:Bool)(w:World)(h:Ns w A n c P)(hp:n≤p):
 Calls Tryz.prog 40 #[.slice A n c,.int .i64 p,.bool f] w fun e w'=>e = .returned (.int .i64 (jA P p f))∧Below w.heap.size w w':=by
 have HR:=hi9 (zf4 (t:=P) (p:=p) (f:=f) (by rw [←h.len];exact hp));have f0:decide ((n:Int)≤(p:Int))=true:=decide_eq_true (by omega);have f1:decide ((p:Int)<0)=false:=decide_eq_false (by omega);clear h;go_enter Tryz.func40,Tryz.ntmps40;go_wp2_with fail;go_ret;exact⟨by rw [HR.out];rfl,Below.refl _ _⟩
theorem zrr(P:List Nd)(m:Nat)(a:Addr)(n c q:Nat)(f:Bool)(w:World)(ih:TbC P (some a) n c m)(hns:Ns w (some a) n c P)(hq:q<n)(hf:n-q≤m+1):
 Calls Tryz.prog 40 #[.slice (some a) n c,.int .i64 q,.bool f] w fun e w'=>e = .returned (.int .i64 (jA P q f))∧Below w.heap.size w w':=by
 have hm:=hns.max;unfold maxLen at hm;have HNS:=hi9 hns;have HLN:=hi9 hns.len;have hql:q<P.length:=by rw [←hns.len];exact hq
 have HX0:=List.getElem?_eq_getElem hql;have hok:=hns.ok _ (List.getElem_mem hql);have IH:=hi9 (fun p g w' (hp:q<p) hb=>ih p g w' (hns.keep (w':=w') hb) (by omega));obtain⟨a',ea,d0,d1,d2,d3⟩:=hns.at_ q _ HX0;injection ea with ea;subst ea;have CS:=hi9 (zmp P[q] w hok);have CP:=hi9 (fun w=>zdH P[q] w);have hpl:=zjO hok;obtain⟨x,hx⟩:∃x,x=P[q]:=⟨_,rfl⟩
 rw [←hx] at HX0 hok d0 d1 d2 d3 CS CP hpl;have HX:=hi9 HX0;clear hx HX0 hns ih hok;have HXE:=hi9 (show Nd4 w (a.add (q*4)) x from⟨d0,d1,d2,d3⟩);unfold ndV at CS CP;have f0:decide (n≤q)=false:=decide_eq_false (by omega);have f1:decide ((q:Int)<0)=false:=decide_eq_false (by omega);by_cases hfx:jv x=true
 ·rw [hfx] at CS;have HH:=hi9 (zmu (f:=f) hfx);have HP0:=hi9 (zfd hfx);clear hfx;go_enter Tryz.func40,Tryz.ntmps40;go_wp2_with fail;refine CS.out.mono ?_;rintro e w1 ⟨rfl,b1⟩;have B1:=hi9 b1;have HXE1:=hi9 (HXE.out.keep b1);obtain⟨e0,e1,e2,e3⟩:=HXE1.out;clear b1 CS HXE d0 d1 d2 d3;have he:(x.op==7)=decide (x.op=7):=rfl;by_cases hh:(decide (x.op=7)==f)=true
  ·have HE:=hi9 (show jA P q f=zaf P (zp x).toNat (zA x) emp (q+1) from zgz HX.out (HH.out.trans hh));have f2:(!(x.op==7)==f)=false:=by rw [he];revert hh;cases decide (x.op=7)<;> cases f <;> simp
   obtain⟨M,hM⟩:∃M:Nat,zp x=(M:Int):=⟨(zp x).toNat,by have:=HP0.out;omega⟩
   rw [hM] at CP hpl;rw [hM,Int.toNat_natCast] at HE;have B2:=hi9 (B1.out.trans ((za w1 (.cells #[.int .i64 x.op,.int .i64 x.n,.string x.s,.string x.t] 41)).mono B1.out.size));have V2:=hi9 (zfj w1 x 41);clear hh he hM HH HP0 HX;go_wp2_with fail;refine(CP.out _).mono ?_;rintro e w2 ⟨rfl,b2⟩;have B3:=bh B2 b2;have V3:=hi9 (V2.out.keep b2);clear b2 B2 V2 e0 e1 e2 e3 HXE1 B1 CP;go_wp2_with fail;go_loopw [1,8,43] (fun u l i wr=>∃(k p:Nat) (last:ByteArray),u = .int .i64 p∧l = .string last∧i = .int .i64 k∧k≤M∧q<p∧p≤n∧Hid (jA P q f=zaf P (M-k) (zA x) last p)∧Hid (Below w.heap.size w wr)∧Hid (Vn wr w1.heap.size x)) (fun _ _ i _=>M-(intOf i).toNat)
   case atStart=>exact⟨0,q+1,⟨#[]⟩,by go_num,rfl,rfl,Nat.zero_le _,Nat.lt_succ_self _,hq,HE,B3,V3⟩
   case round =>
    clear B3 V3 HE;obtain⟨k,p,last,rfl,rfl,rfl,hk,hqp,hpn,hF,hB,hV⟩:=hrel;obtain⟨v0,v1,v2,v3⟩:=hV.out;by_cases hlt:k<M
    ·have HF:=hi9 (show jA P q f=zaf P (M-(k+1)+1) (zA x) last p by rw [hF.out,show M-k=M-(k+1)+1 by omega]);clear hF;by_cases hpn2:p<n
     ·have hpl2:p<P.length:=by rw [←HLN.out];exact hpn2
      have g3:decide (n≤p)=false:=decide_eq_false (by omega);by_cases h6:x.op=6
      ·have hr:zA x=true:=by unfold zA;exact decide_eq_true h6
       have g2:(x.op==6)=true:=beq_iff_eq.2 h6;obtain⟨a',ea,e0,e1,e2,e3⟩:=(HNS.out.keep hB.out).at_ p _ (List.getElem?_eq_getElem hpl2);injection ea with ea;subst ea;have HN:=hi9 (HF.out.trans ((congrArg (fun b=>zaf P (M-(k+1)+1) b last p) hr).trans (zbP (List.getElem?_eq_getElem hpl2))));have HRC:=hi9 hr;have IHP:=hi9 (fun w' hb=>IH.out p true w' hqp hb);generalize P[p]=y at *;clear HF hr h6;rcases zf0 y.s last with ⟨hc,l1,l2⟩|⟨hc,l1⟩|⟨hc,l1,l2⟩
       ·have HGV:=hi9 (HN.out.trans (if_neg (fun q=>q.2 hc)));clear hc HN;go_wp2_with fail;refine(IHP.out _ hB.out).mono ?_;rintro e w6 ⟨rfl,b6⟩;have B6:=bh hB b6;have V6:=hi9 (hV.out.keep b6);clear b6 hB hV v0 v1 v2 v3 e0 e1 e2 e3;by_cases hk0:0≤jA P p true
        ·obtain⟨e',he,hep,hel⟩:=zf6 hk0;have HF2:=hi9 (show jA P q f=zaf P (M-(k+1)) (zA x) y.s e' by
          have h1:=HGV.out
          rw [if_pos hk0,he,Int.toNat_natCast] at h1
          rw [h1,HRC.out])
         have hen:e'≤n:=by rw [HLN.out];exact hel
         rw [he];clear hk0 he hel;go_wp2_with fail;go_roundw
         case rel=>exact⟨k+1,e',y.s,rfl,rfl,by go_num,hlt,by omega,hen,HF2,B6,V6⟩
         case measure=>simp [intOf];omega
        ·have HBV:=hi9 (show jA P q f = -1 by rw [HGV.out,if_neg hk0]);rw [zem hk0];clear hk0;go_wp2_with fail;go_ret;exact⟨by rw [HBV.out];rfl,B6.out⟩
       ·have HBV:=hi9 (show jA P q f = -1 from HN.out.trans (if_pos ⟨rfl,hc⟩));clear hc HN;go_wp2_with fail;go_ret;exact⟨by rw [HBV.out];rfl,hB.out⟩
       ·have HBV:=hi9 (show jA P q f = -1 from HN.out.trans (if_pos ⟨rfl,hc⟩));clear hc HN;go_wp2_with fail;go_ret;exact⟨by rw [HBV.out];rfl,hB.out⟩
      ·have hr:zA x=false:=by unfold zA;exact decide_eq_false h6
       have HRC:=hi9 hr;have g2:(x.op==6)=false:=beq_eq_false_iff_ne.2 h6;have HGV:=hi9 (HF.out.trans ((congrArg (fun b=>zaf P (M-(k+1)+1) b last p) hr).trans zgQ));have IHP:=hi9 (fun w' hb=>IH.out p false w' hqp hb);clear hr HF h6;go_wp2_with fail;refine(IHP.out _ hB.out).mono ?_;rintro e w6 ⟨rfl,b6⟩;have B6:=bh hB b6;have V6:=hi9 (hV.out.keep b6);clear b6 hB hV v0 v1 v2 v3;by_cases hk0:0≤jA P p false
       ·obtain⟨e',he,hep,hel⟩:=zf6 hk0;have HF2:=hi9 (show jA P q f=zaf P (M-(k+1)) (zA x) last e' by
         have h1:=HGV.out
         rw [if_pos hk0,he,Int.toNat_natCast] at h1
         rw [h1,HRC.out])
        have hen:e'≤n:=by rw [HLN.out];exact hel
        rw [he];clear hk0 he hel;go_wp2_with fail;go_roundw
        case rel=>exact⟨k+1,e',last,rfl,rfl,by go_num,hlt,by omega,hen,HF2,B6,V6⟩
        case measure=>simp [intOf];omega
       ·have HBV:=hi9 (show jA P q f = -1 by rw [HGV.out,if_neg hk0]);rw [zem hk0];clear hk0;go_wp2_with fail;go_ret;exact⟨by rw [HBV.out];rfl,B6.out⟩
     ·have HBV:=hi9 (show jA P q f = -1 by rw [HF.out,zcf (by rw [←HLN.out];omega)]);have g3:decide (n≤p)=true:=decide_eq_true (by omega);clear HF;go_wp2_with fail;go_ret;exact⟨by rw [HBV.out];rfl,hB.out⟩
    ·have HE2:=hi9 (show jA P q f=(p:Int) by
      rw [hF.out,show M-k=0 by omega]
      exact zfa (by rw [←HLN.out];exact hpn))
     clear hF
     go_wp2_with fail
     go_ret
     exact⟨by rw [HE2.out];rfl,hB.out⟩
  ·have HE:=hi9 (show jA P q f = -1 from zec HX.out (HH.out.trans (by simpa using hh)));have f2:(!(x.op==7)==f)=true:=by rw [he];revert hh;cases decide (x.op=7)<;> cases f <;> simp
   clear hh he;go_wp2_with fail;go_ret;exact⟨by rw [HE.out];rfl,B1.out⟩
 ·have hfx:jv x=false:=by simpa using hfx
  rw [hfx] at CS;have HE:=hi9 (show jA P q f = -1 from zec HX.out (zln hfx));clear hfx;go_enter Tryz.func40,Tryz.ntmps40;go_wp2_with fail;refine CS.out.mono ?_;rintro e w1 ⟨rfl,b1⟩;have B1:=hi9 b1;clear b1 CS HXE d0 d1 d2 d3;go_wp2_with fail;go_ret;exact⟨by rw [HE.out];rfl,B1.out⟩
theorem zgV(P:List Nd)(A:Option Addr)(n c:Nat):∀m,TbC P A n c m
 | 0=>fun p f w h hm=>zp8 P A n c p f w h (by omega)
 | m+1=>fun p f w h hm=>by
  by_cases hp:p<n
  ·rcases A with _|a
   ·have:=h.at_ p _ (List.getElem?_eq_getElem (by rw [←h.len];exact hp));obtain⟨a,e,-⟩:=this;cases e
   ·exact zrr P m a n c p f w (zgV P (some a) n c m) h hp hm
  ·exact zp8 P A n c p f w h (by omega)
theorem zmS(A:Option Addr)(n c:Nat)(P:List Nd)(w:World)(h:Ns w A n c P):
 Calls Tryz.prog 17 #[.slice A n c] w fun e w'=>e = .returned (zao (zT P))∧Below w.heap.size w w':=by
 have hl:=h.len;by_cases h200:200<n
 ·have HR:=hi9 (show zT P=4 by unfold zT;rw [if_pos (by omega)]);have f0:decide ((200:Int)<(n:Int))=true:=decide_eq_true (by omega);clear h hl;go_enter Tryz.func17,Tryz.ntmps17;go_wp2_with fail;go_ret;exact⟨by rw [HR.out];rfl,Below.refl _ _⟩
 ·have C:=hi9 (zgV P A n c n 0 false w h (by omega));have f0:decide ((200:Int)<(n:Int))=false:=decide_eq_false (by omega);have HR:=hi9 (show zT P=if(zfL P).isSome then 0 else 1 by unfold zT;rw [if_neg (by omega)]);have HA:=hi9 (zlb (t:=P));rw [←hl] at HA;clear h hl h200;generalize jA P 0 false=r at *;go_enter Tryz.func17,Tryz.ntmps17;go_wp2_with fail;refine C.out.mono ?_;rintro e w1 ⟨rfl,b1⟩;have B1:=hi9 b1;clear b1 C;by_cases hr:r=(n:Int)
  ·have HE:=hi9 (show zT P=0 by rw [HR.out,if_pos (HA.out.1 hr)]);have f1:(r !=(n:Int))=false:=by rw [bne_eq_false_iff_eq];exact hr
   clear hr;go_wp2_with fail;go_ret;exact⟨by rw [HE.out];rfl,B1.out⟩
  ·have HE:=hi9 (show zT P=1 by rw [HR.out,if_neg (fun q=>hr (HA.out.2 q))]);have f1:(r !=(n:Int))=true:=by rw [bne_iff_ne];exact hr
   clear hr;go_wp2_with fail;go_ret;exact⟨by rw [HE.out];rfl,B1.out⟩
theorem zfP(s:ByteArray):s=⟨#[]⟩∨s≠emp∧(s.toList == [])=false∧(s.toList != [])=true:=by
 rcases zn s with h|⟨h1,h2,h3⟩
 ·exact .inl h
 ·exact .inr ⟨fun e=>h2 (by rw [e,show emp.toList = [] by rw [ByteArray.toList_eq];rfl]),beq_eq_false_iff_ne.2 h2,by rw [bne_iff_ne];exact h2⟩
theorem zqD(w:World)(x0 x1 x2 x3:Value)(t:TypeId):(w.alloc (.cells #[x0,x1,x2,x3] t)).cell? ⟨w.heap.size,1,none⟩=some x1:=by
 rw [World.cell?_alloc_at _ _ _ _ rfl];rfl
def KeC(P:List Nd)(A:Option Addr)(n c:Nat)(m:Nat):Prop :=
 ∀(q:Nat) (w:World),Ns w A n c P→n-q≤m→Calls Tryz.prog 94 #[.slice A n c,.int .i64 q] w fun e w'=>e = .returned (.int .i64 (zae P q))∧Below w.heap.size w w'
theorem zpm(P:List Nd)(A:Option Addr)(n c q:Nat)(w:World)(hn:n=P.length)(h:n≤q):
 Calls Tryz.prog 94 #[.slice A n c,.int .i64 q] w fun e w'=>e = .returned (.int .i64 (zae P q))∧Below w.heap.size w w':=by
 have HE:=hi9 (zqx (t:=P) (p:=q) (by omega));clear hn;go_enter Tryz.func94,Tryz.ntmps94;go_wp2_with fail;go_ret;exact⟨by rw [HE.out];rfl,Below.refl _ _⟩
section
variable (a:Addr) (n c q:Nat) (xo xn:Int) (xs xt:ByteArray) (w:World) (hm:n≤maxLen) (hq:q<n) (d0:w.cell? (a.add (q*4))=some (.int .i64 xo)) (d1:w.cell? ⟨(a.add (q*4)).block,(a.add (q*4)).off+1,none⟩=some (.int .i64 xn)) (d2:w.cell? ⟨(a.add (q*4)).block,(a.add (q*4)).off+2,none⟩=some (.string xs)) (d3:w.cell? ⟨(a.add (q*4)).block,(a.add (q*4)).off+3,none⟩=some (.string xt))
include hm hq d0 d1 d2 d3
theorem zpX(h:xt≠emp∨(xo≠44∧xs≠emp)∨(xo≠46∧xn≠0)∨xn<0):
 Calls Tryz.prog 94 #[.slice (some a) n c,.int .i64 q] w fun e w'=>e = .returned (.int .i64 (-1))∧Below w.heap.size w w':=by
 unfold maxLen at hm;have hl:(a.add (q*4)).block<w.heap.size:=block_lt_of_cell d0;have HB:=hi9 (fun o=>za w o);rcases zfP xt with rfl|⟨ht,t1,t2⟩
 ·have h:=h.resolve_left (fun e=>e rfl);by_cases h44:xo=44
  ·subst h44;have h:=h.resolve_left (fun e=>e.1 rfl);by_cases hn:xn=0
   ·have h:=h.resolve_left (fun e=>e.2 hn);omega
   ·have e1:(xn==0)=false:=beq_eq_false_iff_ne.2 hn;have e2:(xn != 0)=true:=by rw [bne_iff_ne];exact hn
    clear h;go_enter Tryz.func94,Tryz.ntmps94;go_wp2_with fail;go_ret;exact⟨rfl,HB.out _⟩
  ·have f1:(xo==44)=false:=beq_eq_false_iff_ne.2 h44;have f2:(xo != 44)=true:=by rw [bne_iff_ne];exact h44
   rcases zfP xs with rfl|⟨hs,s1,s2⟩
   ·have h:=h.resolve_left (fun e=>e.2 rfl);by_cases h46:xo=46
    ·subst h46;have h:=h.resolve_left (fun e=>e.1 rfl);have e1:decide (xn<0)=true:=decide_eq_true h;clear h44;go_enter Tryz.func94,Tryz.ntmps94;go_wp2_with fail;go_ret;exact⟨rfl,HB.out _⟩
    ·have g1:(xo==46)=false:=beq_eq_false_iff_ne.2 h46;have g2:(xo != 46)=true:=by rw [bne_iff_ne];exact h46
     have hn:xn≠0:=by rcases h with h|h <;> omega
     have e1:(xn==0)=false:=beq_eq_false_iff_ne.2 hn;have e2:(xn != 0)=true:=by rw [bne_iff_ne];exact hn
     clear h hn h44 h46;go_enter Tryz.func94,Tryz.ntmps94;go_wp2_with fail;go_ret;exact⟨rfl,HB.out _⟩
   ·clear h hs h44;go_enter Tryz.func94,Tryz.ntmps94;go_wp2_with fail;go_ret;exact⟨rfl,HB.out _⟩
 ·clear h ht;go_enter Tryz.func94,Tryz.ntmps94;go_wp2_with fail;go_ret;exact⟨rfl,HB.out _⟩
theorem zsD(hs:xs.size≤maxLen)(h1:xo=44)(h2:xn=0)(h3:xt=emp):
 Calls Tryz.prog 94 #[.slice (some a) n c,.int .i64 q] w fun e w'=>e = .returned (.int .i64 (if zd xs=0 then((q+1:Nat):Int) else -1))∧Below w.heap.size w w':=by
 unfold maxLen at hm;have hl:(a.add (q*4)).block<w.heap.size:=block_lt_of_cell d0;have HB:=hi9 (fun o=>za w o);have V:=hi9 (fun w=>jR xs w hs);have h3':xt=⟨#[]⟩:=h3;subst h1 h2 h3';clear h3 hs;by_cases hf:zd xs=0
 ·rw [hf] at V;rw [if_pos hf];clear hf;go_enter Tryz.func94,Tryz.ntmps94;go_wp2_with fail;refine(V.out _).mono ?_;rintro e w1 ⟨rfl,rfl⟩;go_wp2_with fail;go_ret;exact⟨by go_num,HB.out _⟩
 ·have f1:(zd xs==0)=false:=beq_eq_false_iff_ne.2 hf;have f2:(zd xs != 0)=true:=by rw [bne_iff_ne];exact hf
  rw [if_neg hf];clear hf;generalize zd xs=nf at *;go_enter Tryz.func94,Tryz.ntmps94;go_wp2_with fail;refine(V.out _).mono ?_;rintro e w1 ⟨rfl,rfl⟩;go_wp2_with fail;go_ret;exact⟨rfl,HB.out _⟩
theorem zro(h1:jq xo)(h2:xn=0)(h3:xs=emp)(h4:xt=emp):
 Calls Tryz.prog 94 #[.slice (some a) n c,.int .i64 q] w fun e w'=>e = .returned (.int .i64 ((q+1:Nat):Int))∧Below w.heap.size w w':=by
 unfold maxLen at hm;have hl:(a.add (q*4)).block<w.heap.size:=block_lt_of_cell d0;have HB:=hi9 (fun o=>za w o);have h3':xs=⟨#[]⟩:=h3;have h4':xt=⟨#[]⟩:=h4;subst h2 h3' h4';clear h3 h4;rcases h1 with rfl|rfl|rfl|rfl|rfl
 all_goals
  go_enter Tryz.func94,Tryz.ntmps94;go_wp2_with fail;go_ret;exact⟨by go_num,HB.out _⟩
theorem zr6(h0:¬jq xo)(h1:xo≠44)(h2:xo≠45)(h3:xo≠46):
 Calls Tryz.prog 94 #[.slice (some a) n c,.int .i64 q] w fun e w'=>e = .returned (.int .i64 (-1))∧Below w.heap.size w w':=by
 by_cases hb:xt≠emp∨(xo≠44∧xs≠emp)∨(xo≠46∧xn≠0)∨xn<0
 ·exact zpX a n c q xo xn xs xt w hm hq d0 d1 d2 d3 hb
 ·have ht:xt=⟨#[]⟩:=Decidable.byContradiction fun e=>hb (.inl e);have hs:xs=⟨#[]⟩:=Decidable.byContradiction fun e=>hb (.inr (.inl ⟨h1,e⟩));have hn:xn=0:=Decidable.byContradiction fun e=>hb (.inr (.inr (.inl ⟨h3,e⟩)));clear hb;subst ht hs hn;unfold maxLen at hm;have hl:(a.add (q*4)).block<w.heap.size:=block_lt_of_cell d0;have HB:=hi9 (fun o=>za w o);have f1:(xo==44)=false:=beq_eq_false_iff_ne.2 h1;have f2:(xo != 44)=true:=by rw [bne_iff_ne];exact h1
  have f3:(xo==45)=false:=beq_eq_false_iff_ne.2 h2;have f4:(xo==46)=false:=beq_eq_false_iff_ne.2 h3;have f5:(xo != 46)=true:=by rw [bne_iff_ne];exact h3
  have f6:(xo==48)=false:=beq_eq_false_iff_ne.2 (fun e=>h0 (.inr (.inr (.inr (.inl e)))));have f7:(xo==49)=false:=beq_eq_false_iff_ne.2 (fun e=>h0 (.inr (.inr (.inr (.inr e)))));by_cases h41:41≤xo
  ·have g1:decide (41≤xo)=true:=decide_eq_true h41;have g2:decide (xo≤43)=false:=decide_eq_false (fun e=>h0 (by unfold jq;omega));clear h0 h1 h2 h3 h41;go_enter Tryz.func94,Tryz.ntmps94;go_wp2_with fail;go_ret;exact⟨rfl,HB.out _⟩
  ·have g1:decide (41≤xo)=false:=decide_eq_false h41;clear h0 h1 h2 h3 h41;go_enter Tryz.func94,Tryz.ntmps94;go_wp2_with fail;go_ret;exact⟨rfl,HB.out _⟩
end
theorem zs0(P:List Nd)(m:Nat)(a:Addr)(n c q:Nat)(w:World)(ih:KeC P (some a) n c m)(hns:Ns w (some a) n c P)(hq:q<n)(hf:n-q≤m+1)(x:Nd)(hx:P[q]?=some x)(h1:x.op=45)(h2:x.n=0)(h3:x.s=emp)(h4:x.t=emp):
 Calls Tryz.prog 94 #[.slice (some a) n c,.int .i64 q] w fun e w'=>e = .returned (.int .i64 (zae P q))∧Below w.heap.size w w':=by
 have HE:=hi9 (show zae P q=zae P (q+1) by rw [zlJ hx h1,if_pos ⟨h2,h3,h4⟩]);have hm:=hns.max;unfold maxLen at hm;have IH:=hi9 (fun w' hb=>ih (q+1) w' (hns.keep (w':=w') hb) (by omega));obtain⟨a',ea,d0,d1,d2,d3⟩:=hns.at_ q x hx;injection ea with ea;subst ea;have hl:(a.add (q*4)).block<w.heap.size:=block_lt_of_cell d0;have HB:=hi9 (za w (.cells #[.int .i64 45,.int .i64 0,.string ⟨#[]⟩,.string ⟨#[]⟩] 41));rw [h1] at d0;rw [h2] at d1;rw [show x.s=⟨#[]⟩ from h3] at d2;rw [show x.t=⟨#[]⟩ from h4] at d3;clear hns hx h1 h2 h3 h4 ih;generalize zae P (q+1)=r at *;go_enter Tryz.func94,Tryz.ntmps94;go_wp2_with fail;refine(IH.out _ HB.out).mono ?_;rintro e w1 ⟨rfl,b1⟩;have B1:=hi9 (HB.out.trans (b1.mono (by simp)));clear b1;go_wp2_with fail;go_ret;exact⟨by rw [HE.out];rfl,B1.out⟩
def RbC(P:List Nd)(A:Option Addr)(n c m:Nat):Prop:=∀(p:Nat) (w:World),Ns w A n c P→n-p≤m→
 Calls Tryz.prog 26 #[.slice A n c,.int .i64 p] w fun e w'=>e = .returned (.int .i64 (jA P p false))∧Below w.heap.size w w'
theorem zqG(P:List Nd)(A:Option Addr)(n c p:Nat)(w:World)(h:Ns w A n c P)(hp:n≤p):
 Calls Tryz.prog 26 #[.slice A n c,.int .i64 p] w fun e w'=>e = .returned (.int .i64 (jA P p false))∧Below w.heap.size w w':=by
 have HR:=hi9 (zf4 (t:=P) (p:=p) (f:=false) (by rw [←h.len];exact hp));have f0:decide (n≤p)=true:=decide_eq_true (by omega);have f1:decide ((p:Int)<0)=false:=decide_eq_false (by omega);clear h;go_enter Tryz.func26,Tryz.ntmps26;go_wp2_with fail;go_ret;exact⟨by rw [HR.out];rfl,Below.refl _ _⟩
theorem zmV{t:List Nd}{s:ByteArray}{c p:Nat}{y:Nd}(h:t[p]?=some y):(¬(y.op=7∧jv y=true∧zO s y.s<0)→zaf t (c+1) true s p = -1)∧
 (y.op=7∧jv y=true∧zO s y.s<0→zaf t (c+1) true s p=if 0≤jA t (p+1) false then zaf t c true y.s (jA t (p+1) false).toNat else -1):=by
 rw [zbP h,znI h];constructor
 ·intro hn;by_cases h1:zO s y.s<0
  ·rw [if_neg (by simp [h1])];have h2:zad true y=false:=by
    unfold zad;by_cases hf:jv y=true
    ·rw [hf,Bool.true_and,decide_eq_false (fun q=>hn ⟨q,hf,h1⟩)];rfl
    ·rw [show jv y=false by simpa using hf];rfl
   rw [if_neg (by simp [h2])]
   try rfl
  ·rw [if_pos ⟨rfl,h1⟩]
 ·rintro ⟨h1,h2,h3⟩;have h4:zad true y=true:=by unfold zad;rw [h2,decide_eq_true h1];rfl
  rw [if_neg (by simp [h3]),if_pos h4]
theorem zrk(P:List Nd)(m:Nat)(a:Addr)(n c q:Nat)(w:World)(ih:RbC P (some a) n c m)(hns:Ns w (some a) n c P)(hq:q<n)(hf:n-q≤m+1):
 Calls Tryz.prog 26 #[.slice (some a) n c,.int .i64 q] w fun e w'=>e = .returned (.int .i64 (jA P q false))∧Below w.heap.size w w':=by
 have hm:=hns.max;unfold maxLen at hm;have HNS:=hi9 hns;have HLN:=hi9 hns.len;have hql:q<P.length:=by rw [←hns.len];exact hq
 have HX0:=List.getElem?_eq_getElem hql;have hok:=hns.ok _ (List.getElem_mem hql);have IH:=hi9 (fun p w' (hp:q<p) hb=>ih p w' (hns.keep (w':=w') hb) (by omega));have CF:=hi9 (fun p (hp:p<P.length) w'=>zhA P[p] w' (hns.ok _ (List.getElem_mem hp)));obtain⟨a',ea,d0,d1,d2,d3⟩:=hns.at_ q _ HX0;injection ea with ea;subst ea;have CS:=hi9 (zhA P[q] w hok);have CP:=hi9 (fun w=>zbk P[q] w);have hpl:=zjO hok;obtain⟨x,hx⟩:∃x,x=P[q]:=⟨_,rfl⟩
 rw [←hx] at HX0 hok d0 d1 d2 d3 CS CP hpl;have HX:=hi9 HX0;clear hx HX0 hns ih hok;have HXE:=hi9 (show Nd4 w (a.add (q*4)) x from⟨d0,d1,d2,d3⟩);unfold ndV at CS CP CF;have f0:decide (n≤q)=false:=decide_eq_false (by omega);have f1:decide ((q:Int)<0)=false:=decide_eq_false (by omega);by_cases hfx:jv x=true
 ·rw [hfx] at CS;have HH:=hi9 (zmu (f:=false) hfx);have HP0:=hi9 (zfd hfx);clear hfx;go_enter Tryz.func26,Tryz.ntmps26;go_wp2_with fail;refine CS.out.mono ?_;rintro e w1 ⟨rfl,b1⟩;have B1:=hi9 b1;have HXE1:=hi9 (HXE.out.keep b1);obtain⟨e0,e1,e2,e3⟩:=HXE1.out;clear b1 CS HXE d0 d1 d2 d3;have he:(x.op==7)=decide (x.op=7):=rfl;by_cases hh:x.op=7
  ·have HE:=hi9 (show jA P q false = -1 from zec HX.out (by rw [HH.out,decide_eq_true hh];rfl));have f2:(x.op==7)=true:=beq_iff_eq.2 hh;clear hh he;go_wp2_with fail;go_ret;exact⟨by rw [HE.out];rfl,B1.out⟩
  ·have HE:=hi9 (show jA P q false=zaf P (zp x).toNat (zA x) emp (q+1) from zgz HX.out (by rw [HH.out,decide_eq_false hh];rfl));have f2:(x.op==7)=false:=beq_eq_false_iff_ne.2 hh;obtain⟨M,hM⟩:∃M:Nat,zp x=(M:Int):=⟨(zp x).toNat,by have:=HP0.out;omega⟩
   rw [hM] at CP hpl;rw [hM,Int.toNat_natCast] at HE;have B2:=hi9 (B1.out.trans ((za w1 (.cells #[.int .i64 x.op,.int .i64 x.n,.string x.s,.string x.t] 41)).mono B1.out.size));have V2:=hi9 (zfj w1 x 41);clear hh he hM HH HP0 HX;go_wp2_with fail;go_loopw [1,6,7] (fun u l i wr=>∃(k p:Nat) (last:ByteArray),u = .int .i64 p∧l = .string last∧i = .int .i64 k∧k≤M∧q<p∧p≤n∧Hid (last.size≤maxLen)∧Hid (jA P q false=zaf P (M-k) (zA x) last p)∧Hid (Below w.heap.size w wr)∧Hid (Vn wr w1.heap.size x)) (fun _ _ i _=>M-(intOf i).toNat)
   case atStart=>exact⟨0,q+1,⟨#[]⟩,by go_num,rfl,rfl,Nat.zero_le _,Nat.lt_succ_self _,hq,hi9 (Nat.zero_le _),HE,B2,V2⟩
   case round =>
    clear HXE1 e0 e1 e2 e3 B1 B2 V2 HE;obtain⟨k,p,last,rfl,rfl,rfl,hk,hqp,hpn,hLS,hF,hB,hV⟩:=hrel;obtain⟨v0,v1,v2,v3⟩:=hV.out;have HWR:=hi9 (block_lt_of_cell v0);go_wp2_with fail;refine(CP.out _).mono ?_;rintro e w3 ⟨rfl,b3⟩;have B3:=bh hB b3;have V3:=hi9 (hV.out.keep b3);clear b3 hB hV v0 v1 v2 v3 HWR;obtain⟨v0,v1,v2,v3⟩:=V3.out;by_cases hlt:k<M
    ·have g1:decide ((k:Int)<(M:Int))=true:=decide_eq_true (by omega);have HF:=hi9 (show jA P q false=zaf P (M-(k+1)+1) (zA x) last p by rw [hF.out,show M-k=M-(k+1)+1 by omega]);clear hF;by_cases h6:x.op=6
     ·have hr:zA x=true:=by unfold zA;exact decide_eq_true h6
      rw [hr] at HF;have HRC:=hi9 hr;have g2:(x.op==6)=true:=beq_iff_eq.2 h6;clear hr h6;by_cases hpn2:p<n
      ·have hpl:p<P.length:=by rw [←HLN.out];exact hpn2
       have g3:decide (n≤p)=false:=decide_eq_false (by omega);obtain⟨a',ea,e0,e1,e2,e3⟩:=(HNS.out.keep B3.out).at_ p _ (List.getElem?_eq_getElem hpl);injection ea with ea;subst ea;have HYS:=hi9 (HNS.out.ok _ (List.getElem_mem hpl)).s;have HN:=hi9 (zmV (s:=last) (c:=M-(k+1)) (List.getElem?_eq_getElem hpl));have CY:=hi9 (CF.out p hpl);have V2:=hi9 (fun w=>zcj last P[p].s w hLS.out HYS.out);obtain⟨y,hy⟩:∃y,y=P[p]:=⟨_,rfl⟩
       rw [←hy] at e0 e1 e2 e3 HYS HN CY V2;clear hy;have HYE:=hi9 (show Nd4 w3 (a.add (p*4)) y from⟨e0,e1,e2,e3⟩);by_cases h7:y.op=7
       ·have g4:(y.op != 7)=false:=by rw [bne_eq_false_iff_eq];exact h7
        by_cases hfy:jv y=true
        ·rw [hfy] at CY;by_cases hc:0≤zO last y.s
         ·have HBV:=hi9 (show jA P q false = -1 by rw [HF.out,HN.out.1 (fun⟨_,_,h⟩=>by omega)]);have g5:decide (0≤zO last y.s)=true:=decide_eq_true hc;clear hc hfy h7 HN;generalize zO last y.s=cc at *;go_wp2_with fail;refine(CY.out _).mono ?_;rintro e w4 ⟨rfl,b4⟩;have B4:=bh B3 b4;obtain⟨y0,y1,y2,y3⟩:=(HYE.out.keep b4)
          clear b4 e0 e1 e2 e3 v0 v1 v2 v3 V3;go_wp2_with fail;refine(V2.out _).mono ?_;rintro e w5 ⟨rfl,b5⟩;have B5:=bh B4 b5;go_wp2_with fail;go_ret;exact⟨by rw [HBV.out];rfl,B5.out⟩
         ·have HGV:=hi9 (HF.out.trans (HN.out.2 ⟨h7,hfy,by omega⟩));have g5:decide (0≤zO last y.s)=false:=decide_eq_false hc;clear hc hfy h7 HN HF;generalize zO last y.s=cc at *;go_wp2_with fail;refine(CY.out _).mono ?_;rintro e w4 ⟨rfl,b4⟩;have B4:=bh B3 b4;have Y4:=hi9 (HYE.out.keep b4);obtain⟨y0,y1,y2,y3⟩:=Y4.out;have V4:=hi9 (V3.out.keep b4);clear b4 e0 e1 e2 e3 v0 v1 v2 v3 V3;go_wp2_with fail;refine(V2.out _).mono ?_;rintro e w5 ⟨rfl,b5⟩;have B5:=bh B4 b5;have Y5:=hi9 (Y4.out.keep b5);have V5:=hi9 (V4.out.keep b5);clear b5 Y4 V4 y0 y1 y2 y3;obtain⟨y0,y1,y2,y3⟩:=Y5.out;obtain⟨v0,v1,v2,v3⟩:=V5.out;go_wp2_with fail;refine(IH.out (p+1) _ (by omega) B5.out).mono ?_;rintro e w6 ⟨rfl,b6⟩;have B6:=bh B5 b6;have V6:=hi9 (V5.out.keep b6);clear b6 Y5 V5 y0 y1 y2 y3 v0 v1 v2 v3;by_cases hk0:0≤jA P (p+1) false
          ·obtain⟨e',he,hep,hel⟩:=zf6 hk0;have HF2:=hi9 (show jA P q false=zaf P (M-(k+1)) (zA x) y.s e' by
            have h1:=HGV.out
            rw [if_pos hk0,he,Int.toNat_natCast] at h1
            rw [h1,HRC.out])
           have hen:e'≤n:=by rw [HLN.out];exact hel
           have g6:decide ((e':Int)<0)=false:=decide_eq_false (by omega);rw [he];clear hk0 he hel;go_wp2_with fail;go_roundw
           case rel=>exact⟨k+1,e',y.s,rfl,rfl,by go_num,hlt,by omega,hen,HYS,HF2,B6,V6⟩
           case measure=>simp [intOf];omega
          ·have HBV:=hi9 (show jA P q false = -1 by rw [HGV.out,if_neg hk0]);rw [zem hk0];clear hk0;go_wp2_with fail;go_ret;exact⟨by rw [HBV.out];rfl,B6.out⟩
        ·have HBV:=hi9 (show jA P q false = -1 by rw [HF.out,HN.out.1 (fun⟨_,h,_⟩=>hfy h)]);rw [show jv y=false by simpa using hfy] at CY;clear hfy h7 HN;go_wp2_with fail;refine(CY.out _).mono ?_;rintro e w4 ⟨rfl,b4⟩;have B4:=bh B3 b4;clear b4;go_wp2_with fail;go_ret;exact⟨by rw [HBV.out];rfl,B4.out⟩
       ·have HBV:=hi9 (show jA P q false = -1 by rw [HF.out,HN.out.1 (fun⟨h,_,_⟩=>h7 h)]);have g4:(y.op != 7)=true:=by rw [bne_iff_ne];exact h7
        clear h7 HN;go_wp2_with fail;go_ret;exact⟨by rw [HBV.out];rfl,B3.out⟩
      ·have HBV:=hi9 (show jA P q false = -1 by rw [HF.out,zcf (by rw [←HLN.out];omega)]);have g3:decide (n≤p)=true:=decide_eq_true (by omega);go_wp2_with fail;go_ret;exact⟨by rw [HBV.out];rfl,B3.out⟩
     ·have hr:zA x=false:=by unfold zA;exact decide_eq_false h6
      have HRC:=hi9 hr;have g2:(x.op==6)=false:=beq_eq_false_iff_ne.2 h6;have HGV:=hi9 (HF.out.trans ((congrArg (fun b=>zaf P (M-(k+1)+1) b last p) hr).trans zgQ));clear hr HF h6;go_wp2_with fail;refine(IH.out p _ hqp B3.out).mono ?_;rintro e w6 ⟨rfl,b6⟩;have B6:=bh B3 b6;have V6:=hi9 (V3.out.keep b6);clear b6 V3 v0 v1 v2 v3;by_cases hk0:0≤jA P p false
      ·obtain⟨e',he,hep,hel⟩:=zf6 hk0;have HF2:=hi9 (show jA P q false=zaf P (M-(k+1)) (zA x) last e' by
        have h1:=HGV.out
        rw [if_pos hk0,he,Int.toNat_natCast] at h1
        rw [h1,HRC.out])
       have hen:e'≤n:=by rw [HLN.out];exact hel
       have g6:decide ((e':Int)<0)=false:=decide_eq_false (by omega);rw [he];clear hk0 he hel;go_wp2_with fail;go_roundw
       case rel=>exact⟨k+1,e',last,rfl,rfl,by go_num,hlt,by omega,hen,hLS,HF2,B6,V6⟩
       case measure=>simp [intOf];omega
      ·have HBV:=hi9 (show jA P q false = -1 by rw [HGV.out,if_neg hk0]);rw [zem hk0];clear hk0;go_wp2_with fail;go_ret;exact⟨by rw [HBV.out];rfl,B6.out⟩
    ·have HE2:=hi9 (show jA P q false=(p:Int) by
      rw [hF.out,show M-k=0 by omega]
      exact zfa (by rw [←HLN.out];exact hpn))
     have g1:decide ((k:Int)<(M:Int))=false:=decide_eq_false (by omega)
     clear hF
     go_wp2_with fail
     go_ret
     exact⟨by rw [HE2.out];rfl,B3.out⟩
 ·have hfx:jv x=false:=by simpa using hfx
  rw [hfx] at CS;have HE:=hi9 (show jA P q false = -1 from zec HX.out (zln hfx));clear hfx;go_enter Tryz.func26,Tryz.ntmps26;go_wp2_with fail;refine CS.out.mono ?_;rintro e w1 ⟨rfl,b1⟩;have B1:=hi9 b1;clear b1 CS HXE d0 d1 d2 d3;go_wp2_with fail;go_ret;exact⟨by rw [HE.out];rfl,B1.out⟩
theorem zen(P:List Nd)(A:Option Addr)(n c:Nat):∀m,RbC P A n c m
 | 0=>fun p w h hm=>zqG P A n c p w h (by omega)
 | m+1=>fun p w h hm=>by
  by_cases hp:p<n
  ·rcases A with _|a
   ·have:=h.at_ p _ (List.getElem?_eq_getElem (by rw [←h.len];exact hp));obtain⟨a,e,-⟩:=this;cases e
   ·exact zrk P m a n c p w (zen P (some a) n c m) h hp hm
  ·exact zqG P A n c p w h (by omega)
theorem zok(A:Option Addr)(n c:Nat)(P:List Nd)(w:World)(h:Ns w A n c P):
 Calls Tryz.prog 11 #[.slice A n c] w fun e w'=>e = .returned (.int .i64 (zT P))∧Below w.heap.size w w':=by
 have hl:=h.len;by_cases h200:200<n
 ·have HR:=hi9 (show zT P=4 by unfold zT;rw [if_pos (by omega)]);have f0:decide ((200:Int)<(n:Int))=true:=decide_eq_true (by omega);clear h hl;go_enter Tryz.func11,Tryz.ntmps11;go_wp2_with fail;go_ret;exact⟨by rw [HR.out];rfl,Below.refl _ _⟩
 ·have C:=hi9 (zen P A n c n 0 w h (by omega));have f0:decide ((200:Int)<(n:Int))=false:=decide_eq_false (by omega);have HR:=hi9 (show zT P=if(zfL P).isSome then 0 else 1 by unfold zT;rw [if_neg (by omega)]);have HA:=hi9 (zlb (t:=P));rw [←hl] at HA;clear h hl h200;generalize jA P 0 false=r at *;go_enter Tryz.func11,Tryz.ntmps11;go_wp2_with fail;refine C.out.mono ?_;rintro e w1 ⟨rfl,b1⟩;have B1:=hi9 b1;clear b1 C;by_cases hr:r=(n:Int)
  ·have HE:=hi9 (show zT P=0 by rw [HR.out,if_pos (HA.out.1 hr)]);have f1:(r !=(n:Int))=false:=by rw [bne_eq_false_iff_eq];exact hr
   clear hr;go_wp2_with fail;go_ret;exact⟨by rw [HE.out];rfl,B1.out⟩
  ·have HE:=hi9 (show zT P=1 by rw [HR.out,if_neg (fun q=>hr (HA.out.2 q))]);have f1:(r !=(n:Int))=true:=by rw [bne_iff_ne];exact hr
   clear hr;go_wp2_with fail;go_ret;exact⟨by rw [HE.out];rfl,B1.out⟩
end Go.Proofs.YtjcdeikbghjpkaaGreatDoor
