/-
  check's named, got: the type of a name, of what something has by a name. (gen_chkgot.py) Rows of types of the call's own; nodes behind a row, as a kind. ..
-/
import Derived.Deep.RegionHeld3
import Derived.Deep.AppendLies
import Derived.Deep.Onto
import Derived.Test.YtjcdeikbghjpkaaGreatDoorQ5
import Derived.Test.YtjcdeikbghjpkaaGreatDoorQ9
import Derived.Test.YtjcdeikbghjpkaaGreatDoorQ18
import Derived.Test.YtjcdeikbghjpkaaGreatDoorQ22
import Derived.Test.YtjcdeikbghjpkaaGreatDoorQ23
import Derived.Test.YtjcdeikbghjpkaaGreatDoorQ27
import Derived.Test.YtjcdeikbghjpkaaGreatDoorQ34
import Derived.Test.YtjcdeikbghjpkaaGreatDoorQ41
import Derived.Test.YtjcdeikbghjpkaaGreatDoorQ42
set_option maxRecDepth 100000
set_option maxHeartbeats 8000000
namespace Go.Proofs.YtjcdeikbghjpkaaGreatDoor
open Go.RowKit Go.Wk Go.Sort
theorem zlm(S:Nat→Prop)(x:Xs)(s:ByteArray)(w:World)(h:zft w x)(hS:∀a,x.a.NA=some a→S a.block):Calls Tryz.prog 50 #[x.v,.string s] w (jJ S w (jF x.t s)):=by
 have V0:=hi9 (zbV w x);have B0:=hi9 (za w x.o);have HC:=hi9 (show x.a.d.P=(Kd.fs (zek x.a.d.P)).flat by obtain⟨f,hf⟩:=h.ok.ctx;have hf':Kin x.a.d.P (.fs f):=hf;rw [zck hf'];exact hf'.e);have HN:=hi9 (h.a.ns.keep B0.out);have HW:=hi9 (show x.who.size≤maxLen∧x.what.size≤maxLen from⟨h.who,h.what⟩);unfold Xs.o at V0 B0 HN;unfold Xs.v;clear h;by_cases g0:s=zaQ
 ·subst g0;have f0:(zaQ.toList == [112,114,105,110,99,105,112,97,108])=true:=beq_iff_eq.2 jt;rw [show jF x.t zaQ = .ok (.ent x.who) by unfold jF;rw [if_pos rfl] <;> rfl];obtain⟨c0,c1,c2,c3,c4,c5,c6,c7⟩:=V0.out;clear V0;have K:=hi9 (fun w=>zbD (S:=S) (o:=44) (s:=x.who) (k := .ent x.who) (w:=w) rfl HW.out.1);clear HN HC HW;go_enter Tryz.func50,Tryz.ntmps50;go_wp2_with fail;refine(K.out _).mono ?_;rintro e w1 ⟨b1,A,n,c,rfl,hN,hl⟩;have B1:=bh B0 b1;have N1:=hi9 hN;have HL:=hi9 (jY B0.out hl);clear b1 hN hl B0 K c0 c1 c2 c3 c4 c5 c6 c7;go_wp2_with fail;go_ret;exact jb B1.out N1.out HL.out
 by_cases g1:s=zbU
 ·subst g1;have f1:(zbU.toList == [97,99,116,105,111,110])=true:=beq_iff_eq.2 zak;have f0:(zbU.toList == [112,114,105,110,99,105,112,97,108])=false:=beq_eq_false_iff_ne.2 (fun q=>g0 (toList_inj (q.trans jt.symm)));rw [show jF x.t zbU = .ok (.ent zcQ) by unfold jF;rw [if_neg g0];rw [if_pos rfl] <;> rfl];obtain⟨c0,c1,c2,c3,c4,c5,c6,c7⟩:=V0.out;clear V0 g0;have K:=hi9 (fun w=>zbD (S:=S) (o:=44) (s:=zcQ) (k := .ent zcQ) (w:=w) rfl (by decide));clear HN HC HW;go_enter Tryz.func50,Tryz.ntmps50;go_wp2_with fail;refine(K.out _).mono ?_;rintro e w1 ⟨b1,A,n,c,rfl,hN,hl⟩;have B1:=bh B0 b1;have N1:=hi9 hN;have HL:=hi9 (jY B0.out hl);clear b1 hN hl B0 K c0 c1 c2 c3 c4 c5 c6 c7;go_wp2_with fail;go_ret;exact jb B1.out N1.out HL.out
 by_cases g2:s=zah
 ·subst g2;have f2:(zah.toList == [114,101,115,111,117,114,99,101])=true:=beq_iff_eq.2 zau;have f0:(zah.toList == [112,114,105,110,99,105,112,97,108])=false:=beq_eq_false_iff_ne.2 (fun q=>g0 (toList_inj (q.trans jt.symm)));have f1:(zah.toList == [97,99,116,105,111,110])=false:=beq_eq_false_iff_ne.2 (fun q=>g1 (toList_inj (q.trans zak.symm)));rw [show jF x.t zah = .ok (.ent x.what) by unfold jF;rw [if_neg g0];rw [if_neg g1];rw [if_pos rfl] <;> rfl];obtain⟨c0,c1,c2,c3,c4,c5,c6,c7⟩:=V0.out;clear V0 g0 g1;have K:=hi9 (fun w=>zbD (S:=S) (o:=44) (s:=x.what) (k := .ent x.what) (w:=w) rfl HW.out.2);clear HN HC HW;go_enter Tryz.func50,Tryz.ntmps50;go_wp2_with fail;refine(K.out _).mono ?_;rintro e w1 ⟨b1,A,n,c,rfl,hN,hl⟩;have B1:=bh B0 b1;have N1:=hi9 hN;have HL:=hi9 (jY B0.out hl);clear b1 hN hl B0 K c0 c1 c2 c3 c4 c5 c6 c7;go_wp2_with fail;go_ret;exact jb B1.out N1.out HL.out
 by_cases g3:s=zal
 ·subst g3;have f3:(zal.toList == [99,111,110,116,101,120,116])=true:=beq_iff_eq.2 zbW;have f0:(zal.toList == [112,114,105,110,99,105,112,97,108])=false:=beq_eq_false_iff_ne.2 (fun q=>g0 (toList_inj (q.trans jt.symm)));have f1:(zal.toList == [97,99,116,105,111,110])=false:=beq_eq_false_iff_ne.2 (fun q=>g1 (toList_inj (q.trans zak.symm)));have f2:(zal.toList == [114,101,115,111,117,114,99,101])=false:=beq_eq_false_iff_ne.2 (fun q=>g2 (toList_inj (q.trans zau.symm)));rw [show jF x.t zal = .ok (.fs (zek x.a.d.P)) by unfold jF;rw [if_neg g0];rw [if_neg g1];rw [if_neg g2];rw [if_pos rfl] <;> rfl];obtain⟨c0,c1,c2,c3,c4,c5,c6,c7⟩:=V0.out;clear V0 g0 g1 g2;rw [HC.out] at HN;go_enter Tryz.func50,Tryz.ntmps50;go_wp2_with fail;go_ret;exact jb B0.out HN.out (fun a e => .inl (hS a e))
 have f0:(s.toList == [112,114,105,110,99,105,112,97,108])=false:=beq_eq_false_iff_ne.2 (fun q=>g0 (toList_inj (q.trans jt.symm)));have f1:(s.toList == [97,99,116,105,111,110])=false:=beq_eq_false_iff_ne.2 (fun q=>g1 (toList_inj (q.trans zak.symm)));have f2:(s.toList == [114,101,115,111,117,114,99,101])=false:=beq_eq_false_iff_ne.2 (fun q=>g2 (toList_inj (q.trans zau.symm)));have f3:(s.toList == [99,111,110,116,101,120,116])=false:=beq_eq_false_iff_ne.2 (fun q=>g3 (toList_inj (q.trans zbW.symm)));rw [show jF x.t s = .error 3 by unfold jF;rw [if_neg g0,if_neg g1,if_neg g2,if_neg g3]];clear g0 g1 g2 g3 V0 HN HC HW;go_enter Tryz.func50,Tryz.ntmps50;go_wp2_with fail;exact⟨rfl,jl B0.out⟩
theorem zqT(s:Sc)(t:ByteArray)(w:World)(h:zcO w s):
 Calls Tryz.prog 80 #[s.v,.string t] w fun e w'=>∃(Y:Kn) (hb:Bool),e = .returned (.tuple #[.agg #[.string Y.d.nm,.slice Y.UA Y.un Y.uc,.slice Y.NA Y.nn Y.nc],.bool hb])∧((hb=false→zaE s.k t=none)∧(hb=true→∃i,∃hi:i<s.K.length,zaE s.k t=some Y.d∧Y=s.K[i]))∧Below w.heap.size w w' :=
 (zl6 s t w h).mono fun e w' ⟨hc,hb⟩=>by
  rcases hc with ⟨h1,h2⟩|⟨i,hi,h1,h2⟩
  ·exact⟨⟨⟨⟨#[]⟩,[],[]⟩,none,0,0,none,0,0⟩,false,h2,⟨fun _=>h1,fun q=>(by cases q)⟩,hb⟩
  ·exact⟨s.K[i],true,h2,⟨fun q=>(by cases q),fun _=>⟨i,hi,h1,rfl⟩⟩,hb⟩
theorem zpz(S:Nat→Prop)(x:Xs)(s:ByteArray)(b:Bool)(A:Option Addr)(n c:Nat)(w:World)(hA:∀a,A=some a→S a.block)(k:Ns w A n c (Kd.base 49).flat):
 Calls Tryz.prog 52 #[x.v,.slice A n c,.string s,.bool b] w (jJ S w (.ok (.base 49))):=by
 have V0:=hi9 (zbV w x);have B0:=hi9 (za w x.o);obtain⟨a0,ea0,hn1,d0,d2⟩:=zaI k;have hn0:(0:Int)<(n:Int):=by omega
 have hn00:0<n:=hn1;have N0:=hi9 (k.keep B0.out);unfold Xs.o at V0 B0 N0;unfold Xs.v;subst ea0;have e0:=zb B0.out d0;simp only [opN] at e0 d0;clear k d0 d2 V0;go_enter Tryz.func52,Tryz.ntmps52;go_wp2_with fail;go_ret;exact jb B0.out N0.out (fun a e => .inl (hA a e))
theorem zn0(S:Nat→Prop)(x:Xs)(k0:Kd)(s:ByteArray)(b:Bool)(A:Option Addr)(n c:Nat)(w:World)(k:Ns w A n c k0.flat)(h1:opN k0≠49)(h2:opN k0≠44)(h3:opN k0≠46):
 Calls Tryz.prog 52 #[x.v,.slice A n c,.string s,.bool b] w (jJ S w (.error 2)):=by
 have V0:=hi9 (zbV w x);have B0:=hi9 (za w x.o);obtain⟨a0,ea0,hn1,d0,d2⟩:=zaI k;have hn0:(0:Int)<(n:Int):=by omega
 have hn00:0<n:=hn1;unfold Xs.o at V0 B0;unfold Xs.v;subst ea0;have e0:=zb B0.out d0;have f1:(opN k0==49)=false:=beq_eq_false_iff_ne.2 h1;have f2:(opN k0==44)=false:=beq_eq_false_iff_ne.2 h2;have f3:(opN k0==46)=false:=beq_eq_false_iff_ne.2 h3;generalize opN k0=oo at *;clear k d0 d2 V0 h1 h2 h3;go_enter Tryz.func52,Tryz.ntmps52;go_wp2_with fail;exact⟨rfl,jl B0.out⟩
theorem zr5(S:Nat→Prop)(x:Xs)(g:Fl)(s:ByteArray)(b:Bool)(A:Option Addr)(n c:Nat)(w:World)(hA:∀a,A=some a→S a.block)(k:Ns w A n c (Kd.fs g).flat)(hg:KOk (.fs g)):
 Calls Tryz.prog 52 #[x.v,.slice A n c,.string s,.bool b] w (jJ S w (zaM g s b)):=by
 have V0:=hi9 (zbV w x);have B0:=hi9 (za w x.o);obtain⟨a0,ea0,hn1,d0,d2⟩:=zaI k;have hn0:(0:Int)<(n:Int):=by omega
 have hn00:0<n:=hn1;have hn4:n≤4000:=by rw [k.len,jd];have:=hg.2;omega
 have NPK:=hi9 (fun w' (hb:Below w.heap.size w w')=>k.keep hb);have NP:=hi9 k;have LF:=hi9 (za9.start (f:=g) hg.1);have HG1:=hi9 (show 1+g.flat.length=n by rw [k.len];simp [Kd.flat];omega);have BL:=B0;unfold Xs.o at V0 B0 BL;unfold Xs.v;have HS0:=hi9 (hA a0 ea0);clear hA;subst ea0;have e0:=zb B0.out d0;simp only [opN] at e0 d0;clear k d0 d2 V0;go_enter Tryz.func52,Tryz.ntmps52;go_wp2_with fail;have hcap:=NP.out.cap;have hmx:=NP.out.max;unfold maxLen at hmx;have HPL:=hi9 NP.out.len;go_loopw [11] (fun u wr=>∃(q:Nat) (g':Fl),u = .int .i64 q∧Hid (za9 (Kd.fs g).flat q g')∧Hid (q+g'.flat.length=n)∧Hid (zaM g s b=zaM g' s b)∧Hid (Below w.heap.size w wr)) (fun u _=>n-(intOf u).toNat)
 case atStart=>exact⟨1,g,rfl,LF,HG1,hi9 rfl,BL⟩
 case round =>
  clear LF HG1 BL;obtain⟨q,g',rfl,hL,hT,hE,hB⟩:=hrel;by_cases hlt:q<n
  ·obtain⟨s1,m,k1,r,rfl⟩:∃s1 m k1 r,g' = .cons s1 m k1 r:=by
    cases g' with
    | nil=>have:=hT.out;simp [Fl.flat] at this;omega
    | cons s1 m k1 r=>exact⟨s1,m,k1,r,rfl⟩
   obtain⟨h1,h2⟩:=hL.out.head
   have KB:=hi9 (zdq (some a0) n c (Kd.fs g).flat (q+1) k1 wr (NPK.out wr hB.out) hn4 h1.over)
   have hle:q+1+k1.flat.length≤n:=by rw [HPL.out];exact h1.le
   obtain⟨a,ea,d0,d1,d2,d3⟩:=(NPK.out wr hB.out).at_ q _ h1.nd
   obtain rfl:a0=a:=Option.some.inj ea
   have HSEG:=hi9 h1.seg
   have HL2:=hi9 h2
   have HT2:=hi9 (show q+1+k1.flat.length+r.flat.length=n by have:=hT.out;simp only [Fl.flat,List.length_cons,List.length_append] at this;omega)
   have HE2:=hi9 (show zaM (.cons s1 m k1 r) s b=if s1=s then(if m || b then .ok k1 else zaM r s b) else zaM r s b by
    obtain⟨⟨x0,v0,v1,v2,v3⟩,-⟩:=hL.out
    unfold zaM
    simp only [Fl.find]
    by_cases e:s1=s
    ·subst e
     rw [if_pos rfl,if_pos rfl,zmF v3]
    ·rw [if_neg e,if_neg e])
   have hpos:=jL k1
   simp only [zbM] at d0 d1 d2 d3
   clear hL hT h1 h2 d0 d3 ea
   generalize k1.flat.length=l1 at *
   go_wp2_with fail
   refine KB.out.mono ?_
   rintro e w5 ⟨rfl,b5⟩
   have B5:=bh hB b5
   have e1:=zb b5 d1
   have e2:=zb b5 d2
   clear b5 hB d1 d2 KB
   have hqi:(q:Int)<(n:Int):=by omega
   by_cases hs:s1=s
   ·subst hs
    rw [if_pos rfl] at HE2;by_cases hmb:(m || b)=true
    ·rw [if_pos hmb] at HE2;have NS:=zgw (NPK.out w5 B5.out) (i:=q+1) (j:=q+1+l1) (by omega) hle;rw [HSEG.out] at NS;have N5:=hi9 NS;have HR:=hi9 (hE.out.trans HE2.out);clear hE HE2 NS;rcases m with _|_
     ·rw [Bool.false_or] at hmb;subst hmb;simp only [Bool.false_eq_true,if_false] at e1;go_wp2_with fail;go_ret;rw [HR.out];exact jb B5.out N5.out (fun a e => .inl (by injection e with e;subst e;exact HS0.out))
     ·simp only [if_true] at e1;clear hmb;go_wp2_with fail;go_ret;rw [HR.out];exact jb B5.out N5.out (fun a e => .inl (by injection e with e;subst e;exact HS0.out))
    ·rw [if_neg hmb] at HE2;have HR:=hi9 (hE.out.trans HE2.out);clear hE HE2;rcases m with _|_
     ·rw [Bool.false_or] at hmb;obtain rfl:b=false:=by simpa using hmb
      simp only [Bool.false_eq_true,if_false] at e1;clear hmb;go_wp2_with fail;go_roundw
      case rel=>exact⟨q+1+l1,r,by go_num,HL2,HT2,HR,B5⟩
      case measure=>simp [intOf];omega
     ·simp at hmb
   ·rw [if_neg hs] at HE2
    have HR:=hi9 (hE.out.trans HE2.out);have f6:(s1.toList==s.toList)=false:=beq_eq_false_iff_ne.2 (fun q=>hs (toList_inj q));clear hE HE2 hs;generalize (if m=true then(1:Int) else 0)=mi at *;go_wp2_with fail;go_roundw
    case rel=>exact⟨q+1+l1,r,by go_num,HL2,HT2,HR,B5⟩
    case measure=>simp [intOf];omega
  ·obtain rfl:g' = .nil:=by
    cases g' with
    | nil=>rfl
    | cons s1 m k1 r=>have:=hT.out;simp only [Fl.flat,List.length_cons] at this;omega
   have HR:=hi9 hE.out
   clear hL hT hE
   go_wp2_with fail
   exact⟨rfl,by rw [HR.out];exact jl hB.out⟩
theorem zry(S:Nat→Prop)(x:Xs)(u:ByteArray)(s:ByteArray)(b:Bool)(A:Option Addr)(n c:Nat)(w:World)(h:zft w x)(hS:∀y∈x.s.K,∀a,y.NA=some a→S a.block)(k:Ns w A n c (Kd.ent u).flat):
 Calls Tryz.prog 52 #[x.v,.slice A n c,.string s,.bool b] w (jJ S w (zca x.t (.ent u) s b)):=by
 have V0:=hi9 (zbV w x);have B0:=hi9 (za w x.o);obtain⟨a0,ea0,hn1,d0,d2⟩:=zaI k;have hn0:(0:Int)<(n:Int):=by omega
 have hn00:0<n:=hn1;have K:=hi9 (fun w' (hb:Below w.heap.size w w')=>zqT x.s u w' (h.s.keep hb));have HX:=hi9 h;have HSS:=hi9 hS;clear hS;have HG:=hi9 (show zca x.t (.ent u) s b=(match zaE x.s.k u with|none => .error 3|some d=>zaM (zek d.P) s b) from rfl);unfold Xs.o at V0 B0;unfold Xs.v;unfold Sc.v at K;subst ea0;have e0:=zb B0.out d0;have e2:=zb B0.out d2;have ha0:a0.block<w.heap.size:=block_lt_of_cell d0;simp only [opN,nmN] at e0 e2 d0;obtain⟨c0,c1,c2,c3,c4,c5,c6,c7⟩:=V0.out;generalize zca x.t (.ent u) s b=RR at *;clear h k d0 d2;go_enter Tryz.func52,Tryz.ntmps52;go_wp2_with fail;have hsz:(w.alloc (.cells #[.slice x.s.KA x.s.kn x.s.kc,.slice x.s.AA x.s.an x.s.ac,.string x.who,.string x.what,.string x.a.d.id,.slice x.a.WA x.a.wn x.a.wc,.slice x.a.TA x.a.tn x.a.tc,.slice x.a.NA x.a.nn x.a.nc] 59)).heap.size=w.heap.size+1:=by simp
 obtain⟨w0,hw0⟩:∃w0,w.alloc (.cells #[.slice x.s.KA x.s.kn x.s.kc,.slice x.s.AA x.s.an x.s.ac,.string x.who,.string x.what,.string x.a.d.id,.slice x.a.WA x.a.wn x.a.wc,.slice x.a.TA x.a.tn x.a.tc,.slice x.a.NA x.a.nn x.a.nc] 59)=w0:=⟨_,rfl⟩
 rw [hw0] at V0 B0 c0 c1 c2 c3 c4 c5 c6 c7 e0 e2 hsz ⊢;clear hw0 V0 e0 c2 c3 c4 c5 c6 c7;have bd:=zaN w0;have bx:RowKit.Below w0.heap.size w0 (w0.alloc (.cells #[.string ⟨#[]⟩,.slice none 0 0,.slice none 0 0] 79)).drew:=(za w0 _).trans ((zaN _).mono (za w0 _).size);have c0d:=zb bd c0;have c1d:=zb bd c1;have e2d:=zb bd e2;have c0x:=zb bx c0;have c1x:=zb bx c1;have e2x:=zb bx e2;have Bd:=bh B0 bd;have Bx:=bh B0 bx;have KD:=hi9 (K.out w0.drew Bd.out);have KX:=hi9 (K.out (w0.alloc (.cells #[.string ⟨#[]⟩,.slice none 0 0,.slice none 0 0] 79)).drew Bx.out);have CX:=hi9 ((zhu w0 (.string ⟨#[]⟩) (.slice none 0 0) (.slice none 0 0) 79).keep (zaN _));have hne0:some w.heap.size≠some (w.heap.size+1):=fun e=>by injection e with e;omega
 have hnea:some a0.block≠some (w.heap.size+1):=fun e=>by injection e with e;omega
 rw [hsz] at CX;clear bd bx K;go_region_held3 (fun w':World=>w'.cell? ⟨w.heap.size,0,none⟩=some (.slice x.s.KA x.s.kn x.s.kc)∧w'.cell? ⟨w.heap.size,1,none⟩=some (.slice x.s.AA x.s.an x.s.ac)∧w'.cell? ⟨a0.block,a0.off+2,none⟩=some (.string u)) (first|(with_reducible exact⟨g0,g1,g2⟩)|(with_reducible exact⟨h0,h1,h2⟩)|(with_reducible exact⟨u0,u1,u2⟩)|(with_reducible exact⟨t0,t1,t2⟩)|(with_reducible exact⟨c0x,c1x,e2x⟩)|(with_reducible exact⟨c0d,c1d,e2d⟩)|(with_reducible exact⟨c0,c1,e2⟩)) (first
  |(go_at_call 80;(with_reducible refine KX.out.mono ?_);rintro e w5 ⟨Y,hb,rfl,hY,b5⟩;have B5:=bh Bx b5;have t0:=zb b5 c0x;have t1:=zb b5 c1x;have t2:=zb b5 e2x;have C5:=hi9 (CX.out.keep b5);have g0:=(zg _ ⟨w.heap.size+1,2,none⟩ (.slice Y.NA Y.nn Y.nc)).cell ((zg _ ⟨w.heap.size+1,1,none⟩ (.slice Y.UA Y.un Y.uc)).cell ((zg w5 ⟨w.heap.size+1,0,none⟩ (.string Y.d.nm)).cell t0 hne0) hne0) hne0;have g1:=(zg _ ⟨w.heap.size+1,2,none⟩ (.slice Y.NA Y.nn Y.nc)).cell ((zg _ ⟨w.heap.size+1,1,none⟩ (.slice Y.UA Y.un Y.uc)).cell ((zg w5 ⟨w.heap.size+1,0,none⟩ (.string Y.d.nm)).cell t1 hne0) hne0) hne0;have g2:=(zg _ ⟨w.heap.size+1,2,none⟩ (.slice Y.NA Y.nn Y.nc)).cell ((zg _ ⟨w.heap.size+1,1,none⟩ (.slice Y.UA Y.un Y.uc)).cell ((zg w5 ⟨w.heap.size+1,0,none⟩ (.string Y.d.nm)).cell t2 hnea) hnea) hnea;obtain⟨y0,y1,y2,z0,z1,z2⟩:=C5.out)
  |(go_at_call 80;(with_reducible refine KD.out.mono ?_);rintro e w5 ⟨Y,hb,rfl,hY,b5⟩;have B5:=bh Bd b5;have t0:=zb b5 c0d;have t1:=zb b5 c1d;have t2:=zb b5 e2d;have h0:=zb (za w5 (.cells #[.string Y.d.nm,.slice Y.UA Y.un Y.uc,.slice Y.NA Y.nn Y.nc] 79)) t0;have h1:=zb (za w5 (.cells #[.string Y.d.nm,.slice Y.UA Y.un Y.uc,.slice Y.NA Y.nn Y.nc] 79)) t1;have h2:=zb (za w5 (.cells #[.string Y.d.nm,.slice Y.UA Y.un Y.uc,.slice Y.NA Y.nn Y.nc] 79)) t2;have u0:=zb (za w5 (.cells #[.string ⟨#[]⟩,.slice none 0 0,.slice none 0 0] 79)) t0;have u1:=zb (za w5 (.cells #[.string ⟨#[]⟩,.slice none 0 0,.slice none 0 0] 79)) t1;have u2:=zb (za w5 (.cells #[.string ⟨#[]⟩,.slice none 0 0,.slice none 0 0] 79)) t2))
 focus
  have B6:=bh B5 (za w5 (.cells #[.string Y.d.nm,.slice Y.UA Y.un Y.uc,.slice Y.NA Y.nn Y.nc] 79));have y2:=(zhu w5 (.string Y.d.nm) (.slice Y.UA Y.un Y.uc) (.slice Y.NA Y.nn Y.nc) 79).c2;obtain⟨W6,hW6⟩:∃W6,w5.alloc (.cells #[.string Y.d.nm,.slice Y.UA Y.un Y.uc,.slice Y.NA Y.nn Y.nc] 79)=W6:=⟨_,rfl⟩
  obtain⟨cb,hcb⟩:∃cb,w5.heap.size=cb:=⟨_,rfl⟩
  rw [hcb] at y2 ⊢;rw [hW6] at y2 B6 ⊢;clear hW6 hcb t0 t1 t2 h0 h1 h2 u0 u1 u2 B5
 rotate_left
 focus
  have B6:=hi9 (ze0 B5.out (show w.heap.size≤w.heap.size+1 by omega) (.string Y.d.nm) (.slice Y.UA Y.un Y.uc) (.slice Y.NA Y.nn Y.nc));have y2:=(C5.out.set (.string Y.d.nm) (.slice Y.UA Y.un Y.uc) (.slice Y.NA Y.nn Y.nc)).c2;obtain⟨W6,hW6⟩:∃W6,(((w5.setCell ⟨w.heap.size+1,0,none⟩ (.string Y.d.nm)).setCell ⟨w.heap.size+1,1,none⟩ (.slice Y.UA Y.un Y.uc)).setCell ⟨w.heap.size+1,2,none⟩ (.slice Y.NA Y.nn Y.nc))=W6:=⟨_,rfl⟩
  rw [hW6] at y2 B6 ⊢;obtain⟨cb,hcb⟩:∃cb,w.heap.size+1=cb:=⟨_,rfl⟩
  rw [hcb] at y2 ⊢;clear hW6 hcb t0 t1 t2 g0 g1 g2 C5 B5 y0 y1 z0 z1 z2
 rotate_left
 all_goals
  clear KD KX CX Bd Bx c0 c1 e2 c0d c1d e2d c0x c1x e2x b5 B0;rcases hb with _|_
  ·have HR:=hi9 (show RR = .error 3 from HG.out.trans (by rw [hY.1 rfl]));clear hY HG HX y2;go_wp2_with fail;exact⟨rfl,by rw [HR.out];exact jl B6.out⟩
  ·obtain⟨i,hi,hN,hYi⟩:=hY.2 rfl;have hmem:x.s.K[i].d∈x.s.k:=List.mem_map.2 ⟨_,List.getElem_mem hi,rfl⟩;obtain⟨g,hg'⟩:=HX.out.ok.kds _ hmem;obtain⟨-,-,-,-,-,hok⟩:=HX.out.s.k.at_ i _ (List.getElem?_eq_getElem hi);have HR:=hi9 (show RR=zaM g s b from HG.out.trans (by rw [hN,hYi];simp only;rw [zck hg']));rw [←hYi] at hok hg';obtain⟨d,UA,un,uc,NA,n2,c2⟩:=Y;have n0:=hok.ns;dsimp only at n0 hg' y2;rw [hg'.e] at n0;have hg:=zkp hg';obtain⟨a0,ea0,hn2,-,-⟩:=zaI n0;have HS0:=hi9 (show S a0.block from HSS.out _ (List.getElem_mem hi) _ (by rw [←hYi];exact ea0));subst ea0;have hn20:(0:Int)<(n2:Int):=by omega
   have hn4:n2≤4000:=by rw [n0.len,jd];have:=hg.2;omega
   have NPK:=hi9 (fun w' (hb:Below w.heap.size w w')=>n0.keep hb);have NP:=hi9 n0;have LF:=hi9 (za9.start (f:=g) hg.1);have HG1:=hi9 (show 1+g.flat.length=n2 by rw [n0.len];simp [Kd.flat];omega);have BL:=B6;obtain rfl:=HR.out;clear HG hN hok n0 hg' hmem HX B6 HR hY hYi;go_wp2_with fail;have hcap:=NP.out.cap;have hmx:=NP.out.max;unfold maxLen at hmx;have HPL:=hi9 NP.out.len;go_loopw [11] (fun u wr=>∃(q:Nat) (g':Fl),u = .int .i64 q∧Hid (za9 (Kd.fs g).flat q g')∧Hid (q+g'.flat.length=n2)∧Hid (zaM g s b=zaM g' s b)∧Hid (Below w.heap.size w wr)) (fun u _=>n2-(intOf u).toNat)
   case atStart=>exact⟨1,g,rfl,LF,HG1,hi9 rfl,BL⟩
   case round =>
    clear LF HG1 BL;obtain⟨q,g',rfl,hL,hT,hE,hB⟩:=hrel;by_cases hlt:q<n2
    ·obtain⟨s1,m,k1,r,rfl⟩:∃s1 m k1 r,g' = .cons s1 m k1 r:=by
      cases g' with
      | nil=>have:=hT.out;simp [Fl.flat] at this;omega
      | cons s1 m k1 r=>exact⟨s1,m,k1,r,rfl⟩
     obtain⟨h1,h2⟩:=hL.out.head
     have KB:=hi9 (zdq (some a0) n2 c2 (Kd.fs g).flat (q+1) k1 wr (NPK.out wr hB.out) hn4 h1.over)
     have hle:q+1+k1.flat.length≤n2:=by rw [HPL.out];exact h1.le
     obtain⟨a,ea,d0,d1,d2,d3⟩:=(NPK.out wr hB.out).at_ q _ h1.nd
     obtain rfl:a0=a:=Option.some.inj ea
     have HSEG:=hi9 h1.seg
     have HL2:=hi9 h2
     have HT2:=hi9 (show q+1+k1.flat.length+r.flat.length=n2 by have:=hT.out;simp only [Fl.flat,List.length_cons,List.length_append] at this;omega)
     have HE2:=hi9 (show zaM (.cons s1 m k1 r) s b=if s1=s then(if m || b then .ok k1 else zaM r s b) else zaM r s b by
      obtain⟨⟨x0,v0,v1,v2,v3⟩,-⟩:=hL.out
      unfold zaM
      simp only [Fl.find]
      by_cases e:s1=s
      ·subst e
       rw [if_pos rfl,if_pos rfl,zmF v3]
      ·rw [if_neg e,if_neg e])
     have hpos:=jL k1
     simp only [zbM] at d0 d1 d2 d3
     clear hL hT h1 h2 d0 d3 ea
     generalize k1.flat.length=l1 at *
     go_wp2_with fail
     refine KB.out.mono ?_
     rintro e w5 ⟨rfl,b5⟩
     have B5:=bh hB b5
     have e1:=zb b5 d1
     have e2:=zb b5 d2
     clear b5 hB d1 d2 KB
     have hqi:(q:Int)<(n2:Int):=by omega
     by_cases hs:s1=s
     ·subst hs
      rw [if_pos rfl] at HE2;by_cases hmb:(m || b)=true
      ·rw [if_pos hmb] at HE2;have NS:=zgw (NPK.out w5 B5.out) (i:=q+1) (j:=q+1+l1) (by omega) hle;rw [HSEG.out] at NS;have N5:=hi9 NS;have HR:=hi9 (hE.out.trans HE2.out);clear hE HE2 NS;rcases m with _|_
       ·rw [Bool.false_or] at hmb;subst hmb;simp only [Bool.false_eq_true,if_false] at e1;go_wp2_with fail;go_ret;rw [HR.out];exact jb B5.out N5.out (fun a e => .inl (by injection e with e;subst e;exact HS0.out))
       ·simp only [if_true] at e1;clear hmb;go_wp2_with fail;go_ret;rw [HR.out];exact jb B5.out N5.out (fun a e => .inl (by injection e with e;subst e;exact HS0.out))
      ·rw [if_neg hmb] at HE2;have HR:=hi9 (hE.out.trans HE2.out);clear hE HE2;rcases m with _|_
       ·rw [Bool.false_or] at hmb;obtain rfl:b=false:=by simpa using hmb
        simp only [Bool.false_eq_true,if_false] at e1;clear hmb;go_wp2_with fail;go_roundw
        case rel=>exact⟨q+1+l1,r,by go_num,HL2,HT2,HR,B5⟩
        case measure=>simp [intOf];omega
       ·simp at hmb
     ·rw [if_neg hs] at HE2
      have HR:=hi9 (hE.out.trans HE2.out);have f6:(s1.toList==s.toList)=false:=beq_eq_false_iff_ne.2 (fun q=>hs (toList_inj q));clear hE HE2 hs;generalize (if m=true then(1:Int) else 0)=mi at *;go_wp2_with fail;go_roundw
      case rel=>exact⟨q+1+l1,r,by go_num,HL2,HT2,HR,B5⟩
      case measure=>simp [intOf];omega
    ·obtain rfl:g' = .nil:=by
      cases g' with
      | nil=>rfl
      | cons s1 m k1 r=>have:=hT.out;simp only [Fl.flat,List.length_cons] at this;omega
     have HR:=hi9 hE.out
     clear hL hT hE
     go_wp2_with fail
     exact⟨rfl,by rw [HR.out];exact jl hB.out⟩
theorem zpi(S:Nat→Prop)(x:Xs)(k:Kd)(s:ByteArray)(b:Bool)(A:Option Addr)(n c:Nat)(w:World)(h:zft w x)(hN:Ns w A n c k.flat)(hk:KOk k)(hA:∀a,A=some a→S a.block)(hS:∀y∈x.s.K,∀a,y.NA=some a→S a.block):
 Calls Tryz.prog 52 #[x.v,.slice A n c,.string s,.bool b] w (jJ S w (zca x.t k s b)):=by
 cases k with
 | base o =>
  have hb:jq o:=hk.1
  by_cases h49:o=49
  ·subst h49
   exact zpz S x s b A n c w hA hN
  ·rw [show zca x.t (.base o) s b = .error 2 by unfold zca;exact if_neg h49]
   have e:opN (.base o)=o:=rfl;unfold jq at hb;exact zn0 S x (.base o) s b A n c w hN (by rw [e];exact h49) (by rw [e];omega) (by rw [e];omega)
 | ent u=>exact zry S x u s b A n c w h hS hN
 | set p=>exact zn0 S x (.set p) s b A n c w hN (show(45:Int)≠49 by decide) (show(45:Int)≠44 by decide) (show(45:Int)≠46 by decide)
 | fs g=>exact zr5 S x g s b A n c w hA hN hk
structure zct(w:World)(B:Nat)(v:Value)(V:List Sl):Prop where
 own:w.ownsRow B 60 1 v V.length (V.map Sl.v)
 each:∀r∈V,Ns w r.A r.n r.c r.P
 apart:∀r∈V,za3 r v.ownBlock
theorem zct.nil(w:World)(B:Nat):zct w B (.slice none 0 0) []:=⟨World.ownsRow_nil w B _ 1,(by intro r hr;cases hr),(by intro r hr;cases hr)⟩
theorem zct.keep{w w':World}{B:Nat}{v:Value}{V:List Sl}(h:zct w B v V)(hb:Below w.heap.size w w'):zct w' B v V :=
 ⟨h.own.kept (zc hb none) (by cases hv:v.ownBlock <;> simp),fun r hr=>(h.each r hr).keep hb,h.apart⟩
theorem zct.row{w w':World}{B:Nat}{v:Value}{V:List Sl}{g:Option Nat}(h:zct w B v V)(hg:w.grownBy w' g)(hne:v.ownBlock=none∨v.ownBlock≠g)(ha:∀r∈V,za3 r g):zct w' B v V :=
 ⟨h.own.kept hg hne,fun r hr=>(h.each r hr).row hg (ha r hr),h.apart⟩
theorem zct.snoc{w w':World}{B:Nat}{v v':Value}{V:List Sl}{r:Sl}{o:Obj}(h:zct w B v V)(hr:Ns w r.A r.n r.c r.P)(ha:za3 r v.ownBlock)
 (hown:w'.ownsRow B 60 1 v' (V.length+1) (V.map Sl.v ++ [r.v])) (hg:(w.alloc o).grownBy w' v.ownBlock) (hat:v'.ownBlock=v.ownBlock∨v'.ownBlock=some (w.alloc o).heap.size):zct w' B v' (V ++ [r]):=by
 have hba:Below w.heap.size w (w.alloc o):=za w o;have hlt:∀x∈V ++ [r],Ns w x.A x.n x.c x.P∧za3 x v.ownBlock:=by
  intro x hx;rcases List.mem_append.1 hx with h1|h1
  ·exact⟨h.each x h1,h.apart x h1⟩
  ·simp only [List.mem_cons,List.not_mem_nil,or_false] at h1;subst h1;exact⟨hr,ha⟩
 refine⟨?_,fun x hx=>((hlt x hx).1.keep hba).row hg (hlt x hx).2,fun x hx h0 a e=>?_⟩
 ·simpa using hown
 ·rcases hat with e'|e'
  ·rw [e'];exact(hlt x hx).2 h0 a e
  ·rw [e'];have:=(hlt x hx).1.at_.lt h0 a e;intro q;injection q with q;simp at q;omega
theorem zct.at{w:World}{B:Nat}{v:Value}{V:List Sl}(h:zct w B v V):∃A c,v = .slice A V.length c∧V.length≤c∧za4 w A V:=by
 rcases h.own.2 with ⟨rfl,h0⟩|⟨g,cap,cur,rfl,_,_,hc,_⟩
 ·have:V = []:=List.eq_nil_of_length_eq_zero h0;subst this;exact⟨none,0,rfl,Nat.le_refl _,fun k r hk=>by simp at hk⟩
 ·refine⟨some ⟨g,0,none⟩,cap,rfl,hc,fun k r hk=>⟨_,rfl,?_,h.each r (List.mem_of_getElem? hk)⟩⟩;exact h.own.cells (g:=g) rfl k _ (by rw [List.getElem?_map,hk];rfl)
theorem zsN:(Tryz.prog.info? 60).map (fun i=>(i.zero,i.size,i.bytes))=some (some (.slice none 0 0),1,24):=by kernel_rfl
theorem zdk{ops:Array Oper}{rest:List Oper}{o:Oper}{a:Act}{w:World}{Q:Exit→Act→World→Prop}(hgd:o.guard=none)(s x:Operand)
 (ho:o.op = .call { callee := .builtin .append,args:=#[s,x],argTypes:=#[60,60] })
 (base:Nat) (v:Value) (L:List Nd) (hs:a.eval s=v) (hrow:zdi w base v L) (A:Option Addr) (n c:Nat) (P:List Nd) (hx:a.eval x = .slice A n c) (hP:Ns w A n c P) (h0:0<P.length)
 (hl:L.length+P.length≤1000) (hbase:base≤w.heap.size)
 (h:∀v' w',zdi w' base v' (L ++ P)→Below base w w'→wpList Tryz.prog ops Q rest (a.put o.dst v') w'):wpList Tryz.prog ops Q (o :: rest) a w:=by
 have hi:=zc5
 cases hq:Tryz.prog.info? 41 with
 | none=>rw [hq] at hi;cases hi
 | some i0 =>
  rw [hq] at hi
  simp only [Option.map_some,Option.some.injEq,Prod.mk.injEq] at hi
  obtain⟨a2,rfl,-⟩:=hP.at_.nd h0
  have HC:∀j u,(zh P)[j]?=some u→w.cell? (a2.add j)=some u:=hP.at_.cells
  have hn:=hP.len
  refine wpList_append_own w hgd s x _ ho base _ i0 _ 4 48 Tryz.underlying60 hq hi.1 hi.2.1 hi.2.2 (by decide) (by decide) v L.length (zh L) hs hrow.own a2 n c (zh P) hx (by rw [jm,hn]) HC (je _) (by unfold maxLen;omega) (by omega) hbase ?_
  intro v' w' h1 h2 _
  rw [hn,←zK,←List.length_append] at h1
  exact h v' w' ⟨h1⟩ ((Below.refl base w).grown h2 hbase (zD hrow.own))
theorem zin{ops:Array Oper}{o:Oper}{a:Act}{w:World}{K:Act→World→Prop}{Q:Exit→Act→World→Prop}{E:Prop}(hgd:o.guard=none)(s x:Operand)
 (ho:o.op = .call { callee := .builtin .append,args:=#[s,x],argTypes:=#[60,60] })
 (base:Nat) (v:Value) (n:Nat) (P Z:List Nd) (hs:a.eval s=v) (hrow:w.ownsRow base 41 4 v n (zh P)) (hn:n=P.length) (ad:Addr) (m c:Nat) (hx:a.eval x = .slice (some ad) m c) (hm:m=Z.length)
 (hnews:∀j u,(zh Z)[j]?=some u→w.cell? (ad.add j)=some u) (hl:0<m∧n+m≤1000000) (hbase:base≤w.heap.size)
 (h:∀A c' w',w'.ownsRow base 41 4 (.slice (some A) (n+m) c') (P ++ Z).length (zh (P ++ Z))→w.grownBy w' v.ownBlock→K (a.put o.dst (.slice (some A) (n+m) c')) w'):
 if Region.wanted o (yielded ops a.tmps)=true then Oper.wp Tryz.prog o a w K Q else E:=by
 have hi:=zc5
 cases hq:Tryz.prog.info? 41 with
 | none=>rw [hq] at hi;cases hi
 | some i0 =>
  rw [hq] at hi
  simp only [Option.map_some,Option.some.injEq,Prod.mk.injEq] at hi
  refine step_append_lies w hgd s x _ ho base _ i0 _ 4 48 Tryz.underlying60 hq hi.1 hi.2.1 hi.2.2 (by decide) (by decide) v n (zh P) hs hrow ad m c (zh Z) hx (by rw [jm,hm]) hnews (je _) hl.1 (by unfold maxLen;omega) (by omega) hbase _ rfl ?_
  intro g cap w' h1 h2 h3 h4
  exact h _ _ w' (by rw [zK,List.length_append,←hn,←hm];exact h1) h2
theorem zlz{y:Ex}(h:y.valid true):∃fn e,y = .node fn (.cons e .nil)∧fn.op=7∧e.valid false:=by
 obtain⟨fn,ps⟩:=y;obtain⟨h1,h2,h3⟩:=h;unfold zad at h1;rw [Bool.and_eq_true] at h1;have h7:fn.op=7:=by simpa using h1.2
 have hp:zp fn=1:=by unfold zp;simp [h7]
 obtain⟨e,rfl⟩:=zkW (ps:=ps) (by omega);have hr:zA fn=false:=by unfold zA;rw [h7];rfl
 rw [hr] at h3;exact⟨fn,e,rfl,h7,h3.2.1⟩
theorem zk7(S:Nat→Prop)(x:Xs)(N:Nat)(ih:KdC S x N)(y:Nd)(ps:Exs)(A:Option Addr)(n c:Nat)(V:List Sl)(p:Option Addr)(G:zy)(w:World)(hx:zft w x)(hy:zcP y)(h6:y.n=(ps.len:Int))(hn:n=V.length)(hnc:n≤4000)(hV:za4 w A V)(hm:V.map Sl.P=ps.list.map Ex.flat)(hv:ps.valid true emp)(hN:ps.flat.length≤N)(h4:ps.flat.length≤4000)(hF:zd7 w p G):
 Calls Tryz.prog 49 #[x.v,ndV y,.slice A n c,.pointer p] w (jJ S w (fsR (tyF x.t ps G 1))):=by
 have B0:=hi9 (za w x.o);have V0:=hi9 (zbV w x);have BN:=za (w.alloc x.o) (.cells #[.int .i64 y.op,.int .i64 y.n,.string y.s,.string y.t] 41);have B1:=bh B0 BN;have V1:=hi9 (V0.out.keep BN);have X1:=hi9 (hx.keep B1.out);have F1:=hi9 (hF.keep B1.out);have S1:=hi9 (hV.keep B1.out);obtain⟨-,y1,-,-,-,-,-,-⟩:=zga (w.alloc x.o) y;have hz:(w.alloc x.o).heap.size=w.heap.size+1:=by simp
 rw [hz] at y1;have IH:=hi9 ih;have HLN:=hi9 hn;have HM:=hi9 hm;have HVP:=hi9 hv;have HNN:=hi9 hN;have HN4:=hi9 h4;have H6:=hi9 h6;have HYN:=hi9 (show -9223372036854775808≤y.n∧y.n≤9223372036854775807 from⟨hy.lo,hy.hi⟩);obtain⟨RR,hRR⟩:∃RR,RR=tyF x.t ps G 1:=⟨_,rfl⟩
 rw [←hRR];have HRR:=hi9 hRR;unfold KdC at IH;unfold Xs.o at B1 V1 X1 F1 S1 y1;unfold Xs.v at IH ⊢;unfold ndV;clear hx hF hV hn hm hv hN h4 h6 hRR B0 V0 BN hz ih;go_enter Tryz.func49,Tryz.ntmps49;go_wp2_with fail;have R0:=hi9 (zdi.one ((w.alloc (.cells #[.slice x.s.KA x.s.kn x.s.kc,.slice x.s.AA x.s.an x.s.ac,.string x.who,.string x.what,.string x.a.d.id,.slice x.a.WA x.a.wn x.a.wc,.slice x.a.TA x.a.tn x.a.tc,.slice x.a.NA x.a.nn x.a.nc] 59)).alloc (.cells #[.int .i64 y.op,.int .i64 y.n,.string y.s,.string y.t] 41)) ⟨46,y.n,emp,emp⟩);have BL:=hi9 (za ((w.alloc (.cells #[.slice x.s.KA x.s.kn x.s.kc,.slice x.s.AA x.s.an x.s.ac,.string x.who,.string x.what,.string x.a.d.id,.slice x.a.WA x.a.wn x.a.wc,.slice x.a.TA x.a.tn x.a.tc,.slice x.a.NA x.a.nn x.a.nc] 59)).alloc (.cells #[.int .i64 y.op,.int .i64 y.n,.string y.s,.string y.t] 41)) (.cells #[.int .i64 46,.int .i64 y.n,.string ⟨#[]⟩,.string ⟨#[]⟩] 41));obtain⟨W1,hW1⟩:∃W1,((w.alloc (.cells #[.slice x.s.KA x.s.kn x.s.kc,.slice x.s.AA x.s.an x.s.ac,.string x.who,.string x.what,.string x.a.d.id,.slice x.a.WA x.a.wn x.a.wc,.slice x.a.TA x.a.tn x.a.tc,.slice x.a.NA x.a.nn x.a.nc] 59)).alloc (.cells #[.int .i64 y.op,.int .i64 y.n,.string y.s,.string y.t] 41))=W1:=⟨_,rfl⟩
 have hz1:W1.heap.size=w.heap.size+1+1:=by rw [←hW1];simp
 rw [hW1] at R0 BL B1 V1 X1 F1 S1 ⊢;rw [←hz1];clear hW1 y1;have hlw:w.heap.size<W1.heap.size:=by omega
 clear hz1;go_loopw [9,18] (fun out i wr=>∃(j:Nat) (L:List (ByteArray × Kd)) (r:Exs) (A0:Option Addr) (m0 k0:Nat) (s:ByteArray),i = .int .i64 j∧j≤n∧out = .slice A0 m0 k0∧L.length=j∧Hid (zdi wr W1.heap.size out (zb7 y.n L))∧Hid (RR=zdN L (tyF x.t r G (zb7 y.n L).length))∧Hid ((V.drop j).map Sl.P=r.list.map Ex.flat)∧Hid (r.valid true s)∧Hid (r.flat.length≤N∧r.flat.length≤4000)∧Hid ((zb7 y.n L).length≤200)∧Hid (Below W1.heap.size W1 wr)) (fun _ i _=>n-(intOf i).toNat)
 case atStart=>exact⟨0,[],ps,_,_,_,emp,rfl,Nat.zero_le _,rfl,rfl,R0,hi9 (by rw [zk9];exact HRR.out),hi9 (by simpa using HM.out),HVP,hi9 ⟨HNN.out,HN4.out⟩,hi9 (by simp [zb7,zcm,Fl.flat]),BL⟩
 case round =>
  clear R0 BL;obtain⟨j,L,r,A0,m0,k0,s,rfl,hj,rfl,hL,hR,hE,hD,hv,hsz,h200,hB⟩:=hrel;by_cases hlt:j<n
  ·have hjv:j<V.length:=by rw [←HLN.out];exact hlt
   obtain⟨a,ea,q0,n0⟩:=S1.out.at hjv;replace q0:=zb hB.out q0;have hdr:V.drop j=V[j] :: V.drop (j+1):=List.drop_eq_getElem_cons hjv;obtain⟨y',r',rfl⟩:∃y' r',r = .cons y' r':=by
    cases r with
    | nil=>have h0:=congrArg List.length hD.out;rw [hdr] at h0;simp only [Exs.list,List.map_nil,List.map_cons,List.length_cons,List.length_nil] at h0;omega
    | cons y' r'=>exact⟨y',r',rfl⟩
   have hD2:=hD.out;rw [hdr] at hD2;simp only [List.map_cons,Exs.list,List.cons.injEq] at hD2;obtain⟨hP,hDD⟩:=hD2;have HDD:=hi9 hDD;obtain⟨-,hvy,hvr⟩:=hv.out;have HVR:=hi9 hvr;obtain⟨fn,e0,rfl,h7,hve⟩:=zlz hvy;have HVE:=hi9 hve;rw [hP] at n0;subst ea;generalize V[j]=p0 at *;have hfl:(Ex.node fn (.cons e0 .nil)).flat=fn :: e0.flat:=by simp [Ex.flat,Exs.flat]
   rw [hfl] at n0;have HS:=hsz.out;simp only [Exs.flat,List.length_append,hfl,List.length_cons] at HS;have HSZ2:=hi9 (show r'.flat.length≤N∧r'.flat.length≤4000 by omega);have HEN:=hi9 (show e0.flat.length≤N∧e0.flat.length≤4000 by omega);have HTF:=hi9 (show zbN x.t (.node fn (.cons e0 .nil)) G=tyX x.t e0 G by simp only [zbN,za2]);obtain⟨a0,ea0,-,-,d2,-⟩:=n0.at_ 0 fn rfl;rw [show a0.add (0*4)=a0 from rfl] at d2;replace d2:=zb hB.out d2;have hfs:fn.s.size≤maxLen:=(n0.ok fn (by simp)).s;rw [ea0] at q0;have N0:=hi9 n0;rw [ea0] at N0;have hp1':1≤p0.n:=by rw [n0.len];simp
   have HPN:=hi9 (show p0.n-1=e0.flat.length by rw [n0.len];simp);have hpc:=n0.cap;have hpm:=n0.max;unfold maxLen at hpm;have hp1:(0:Int)<(p0.n:Int):=by omega
   have hni:(1:Int)≤(p0.n:Int):=by omega
   have hcne:p0.c≠1:=by have:=zZ e0;have:=HPN.out;omega
   have hp10:0<p0.n:=by omega
   have NL:=hi9 (zcN wr ⟨47,1,fn.s,emp⟩ ⟨hfs,Nat.zero_le _,by show _≤(1:Int);decide,by show(1:Int)≤_;decide⟩);have bl:=za wr (.cells #[.int .i64 47,.int .i64 1,.string fn.s,.string ⟨#[]⟩] 41);have RL:=hi9 (hR.out.keep bl);have BX:=bh hB bl;have h2:=h200.out;have hbs:=BX.out.size;rw [World.size_alloc] at hbs;clear hD hv hvy hvr hve hP hDD hdr n0 ea0 HS hsz bl h7;go_wp2_with (at_builtin;refine zdk rfl _ _ rfl W1.heap.size _ _ rfl RL.out _ _ _ [⟨47,1,fn.s,emp⟩] rfl NL.out (by simp) ?c1 ?c2 ?_)
   case c1=>omega
   intro v2 w2 hR2 hb2;obtain⟨A2,c2,e2,-,-,-⟩:=ji hR2.own;subst e2;have HM2:=hi9 (show(zb7 y.n L ++ [(⟨47,1,fn.s,emp⟩:Nd)]).length=(zb7 y.n L).length+1 by simp);obtain⟨m2,hm2⟩:∃m2,m2=(zb7 y.n L ++ [(⟨47,1,fn.s,emp⟩:Nd)]).length:=⟨_,rfl⟩
   rw [←hm2] at hR2 HM2 ⊢;have HL2:=hi9 hm2;have B2:=hi9 (BX.out.trans hb2);have hm2l:m2≤201:=by rw [HM2.out];omega
   clear hb2 hm2 BX RL NL hbs hB hR d2 q0;go_wp2_with fail;have bd:=zaN w2;have B3:=hi9 (B2.out.trans (bd.mono B2.out.size));have hHeld:(fun w':World=>Vst w' w.heap.size x) w2.drew:=V1.out.keep B3.out;have R3:=hi9 (hR2.keep bd);have KI:=hi9 (IH.out _ _ _ e0 p G w2.drew (X1.out.keep B3.out) (zfR (N0.out.keep B3.out)) (by rw [HPN.out];exact HEN.out.2) HVE.out (by rw [HPN.out];exact HEN.out.1) (F1.out.keep B3.out));clear bd hR2 B2;refine zbq (fun w':World=>Vst w' w.heap.size x) 9 (by kernel_rfl) hHeld (fun hHeld=>?_);refine zJ (i:=0) (v := .slice A2 m2 c2) rfl (by kernel_rfl) (by kernel_rfl) (by kernel_rfl) (Nat.le_refl _) (fun _ _ _ h=>h) (.inl ⟨by rfl,fun w' hSw=>?_⟩) hHeld ?_
   ·obtain⟨s0,s1,s2,s3,s4,s5,s6,s7⟩:=hSw;go_simp
   refine zJ (i:=1) (v := .agg #[.slice x.s.KA x.s.kn x.s.kc,.slice x.s.AA x.s.an x.s.ac,.string x.who,.string x.what,.string x.a.d.id,.slice x.a.WA x.a.wn x.a.wc,.slice x.a.TA x.a.tn x.a.tc,.slice x.a.NA x.a.nn x.a.nc]) rfl (by kernel_rfl) (by kernel_rfl) (by kernel_rfl) (Nat.le_refl _) (fun _ _ _ h=>h) (.inl ⟨by rfl,fun w' hSw=>?_⟩) hHeld ?_
   ·obtain⟨s0,s1,s2,s3,s4,s5,s6,s7⟩:=hSw;go_simp
   refine zJ (i:=2) (v := .slice (some a0) p0.n p0.c) rfl (by kernel_rfl) (by kernel_rfl) (by kernel_rfl) (Nat.le_refl _) (fun _ _ _ h=>h) (.inl ⟨by rfl,fun w' hSw=>?_⟩) hHeld ?_
   ·obtain⟨s0,s1,s2,s3,s4,s5,s6,s7⟩:=hSw;go_simp
   refine zJ (i:=3) (v := .slice (some (a0.add 4)) (p0.n-1) (p0.c-1)) rfl (by kernel_rfl) (by kernel_rfl) (by kernel_rfl) (Nat.le_refl _) (fun _ _ _ h=>h) (.inl ⟨by rfl,fun w' hSw=>?_⟩) hHeld ?_
   ·obtain⟨s0,s1,s2,s3,s4,s5,s6,s7⟩:=hSw;go_simp
   refine zJ (i:=4) (v := .pointer p) rfl (by kernel_rfl) (by kernel_rfl) (by kernel_rfl) (Nat.le_refl _) (fun _ _ _ h=>h) (.inl ⟨by rfl,fun w' hSw=>?_⟩) hHeld ?_
   ·obtain⟨s0,s1,s2,s3,s4,s5,s6,s7⟩:=hSw;go_simp
   refine zN (i:=5) (by kernel_rfl) rfl (fun K' hK'=>?_);go_simp;rcases qk:tyX x.t e0 G with u|k
   ·rw [qk] at KI;refine KI.out.mono ?_;intro e w5 h5;obtain⟨rfl,b5⟩:=zbF h5;have B5:=hi9 (B3.out.trans (b5.mono B3.out.size));clear b5 h5;go_wp2_with fail;exact⟨rfl,by rw [show RR = .error u from hE.out.trans (zrb (HTF.out.trans qk))];exact jl (bh B1 B5.out).out⟩
   rw [qk] at KI;refine KI.out.mono ?_;intro e w5 h5;obtain⟨A5,n5,m5,rfl,hN5,b5,l5⟩:=zaA h5;have B5:=hi9 (B3.out.trans (b5.mono B3.out.size));have R5:=hi9 (R3.out.keep b5);have N5:=hi9 hN5;have hk:=zc2 X1.out.ok e0 false G HVE.out;rw [qk] at hk;have HK:=hi9 (show KOk k from hk);have hHeld5:(fun w':World=>Vst w' w.heap.size x) w5:=V1.out.keep B5.out;clear h5 hN5 b5 l5 R3 KI B3 hk hHeld;go_wp2_with fail;refine hK'.out _ _ (fun _=>hHeld5) ?_;clear hK' K';obtain⟨a5,rfl,-,-,-⟩:=zaI N5.out;have hn5:n5=k.sz:=by rw [N5.out.len,jd]
   have hk200:k.sz≤200:=HK.out.2;have hkp:0<n5:=by rw [N5.out.len];exact jL k
   have HN5:=hi9 hn5;have hn5l:n5≤200:=by omega
   have R5m:=R5.out.own;rw [←HL2.out] at R5m;clear hn5;refine zN (i:=6) (by kernel_rfl) rfl (fun K' hK'=>?_);refine zin rfl (.tmp 30) (.tmp 35) rfl W1.heap.size _ m2 (zb7 y.n L ++ [(⟨47,1,fn.s,emp⟩:Nd)]) k.flat rfl R5m HL2.out a5 n5 m5 rfl N5.out.len N5.out.at_.cells ⟨hkp,by omega⟩ B5.out.size ?_;intro A6 c6 w6 hown hgrow;have B6:=hi9 (B5.out.grown hgrow B5.out.size (zD R5.out.own));have hHeld6:(fun w':World=>Vst w' w.heap.size x) w6:=V1.out.keep B6.out;have R6:=hi9 hown;clear hown hgrow B5 R5 R5m N5 hHeld5;refine hK'.out _ _ (fun _=>hHeld6) ?_;clear hK' K';refine zN (i:=7) (by kernel_rfl) rfl (fun K' hK'=>?_);go_simp;have KF:=hi9 (zlQ (some A6) (m2+n5) c6 w6 (by omega));by_cases g:200<m2+n5
   ·rw [if_pos g] at KF;have HG:=hi9 (show RR = .error 4 from hE.out.trans (zq6 (HTF.out.trans qk) (by rw [←HM2.out,←HN5.out];exact g)));refine KF.out.mono ?_;rintro e w7 ⟨rfl,b7⟩;have B7:=hi9 (B6.out.trans (b7.mono B6.out.size));clear b7;go_wp2_with fail;exact⟨rfl,by rw [HG.out];exact jl (bh B1 B7.out).out⟩
   rw [if_neg g] at KF;have hEE:=hE.out.trans (zr9 (HTF.out.trans qk) (by rw [←HM2.out,←HN5.out];exact g));have hlen:(zb7 y.n (L ++ [(fn.s,k)])).length=m2+n5:=by rw [zl4,←HM2.out,←HN5.out]
   rw [show(zb7 y.n L).length+1+k.sz=(zb7 y.n (L ++ [(fn.s,k)])).length by rw [zl4]] at hEE;have HE7:=hi9 (show RR=zdN (L ++ [(fn.s,k)]) (tyF x.t r' G (zb7 y.n (L ++ [(fn.s,k)])).length) from hEE);have H27:=hi9 (show(zb7 y.n (L ++ [(fn.s,k)])).length≤200 by rw [hlen];omega);have hL7:(L ++ [(fn.s,k)]).length=j+1:=by simp [hL]
   have R7:=hi9 (show zdi w6 W1.heap.size (.slice (some A6) (m2+n5) c6) (zb7 y.n (L ++ [(fn.s,k)])) from⟨by rw [zgD];exact R6.out⟩);clear hEE hlen HM2 HL2 R6;refine KF.out.mono ?_;rintro e w7 ⟨rfl,b7⟩;have B7:=hi9 (B6.out.trans (b7.mono B6.out.size));have R8:=hi9 (R7.out.keep b7);have hHeld7:(fun w':World=>Vst w' w.heap.size x) w7:=V1.out.keep B7.out;clear b7 B6 R7 hHeld6 KF;go_wp2_with fail;refine hK'.out _ _ (fun _=>hHeld7) ?_;clear hK' K';refine zN (i:=8) (by kernel_rfl) rfl (fun K' hK'=>?_);go_simp;refine hK'.out _ _ (fun _=>hHeld7) ?_;clear hK' K' hHeld7;refine j8 (by kernel_rfl) ?_;go_wp2_with fail;go_roundw
   case rel=>exact⟨j+1,_,r',some A6,m2+n5,c6,fn.s,by go_num,hlt,rfl,hL7,R8,HE7,HDD,HVR,HSZ2,H27,B7⟩
   case measure=>simp [intOf];omega
  ·have hjn:j=n:=by omega
   have hrn:r = .nil:=by
    have h0:=congrArg List.length hD.out;rw [List.length_map,List.length_map,List.length_drop,←HLN.out,hjn,Nat.sub_self] at h0
    cases r with
    | nil=>rfl
    | cons y' r'=>simp [Exs.list] at h0
   subst hrn;have hLp:L.length=ps.len:=by
    have h0:=congrArg List.length HM.out;rw [List.length_map,List.length_map,zch] at h0;rw [hL,hjn,HLN.out,h0]
   have hRR:RR = .ok (zcm L .nil):=hE.out.trans rfl;have hPE:zb7 y.n L=(Kd.fs (zcm L .nil)).flat:=zlq (by rw [H6.out,hLp]);have hf:=zmK X1.out.ok ps emp G 1 (by decide) HVP.out;rw [←HRR.out,hRR] at hf;have hR':=hR.out;rw [hPE] at hR';obtain⟨A9,n9,c9,e9,N9⟩:=hR'.ns (by rw [←hPE];have:=h200.out;omega) (Kd.valid.nds (show(Kd.fs (zcm L .nil)).valid from hf.1) (by have:=hf.2;simp only [Kd.sz];omega));have H9:=hi9 N9;have HQ:=hi9 hRR;have HOB:=hi9 (fun g hg=>zD hR'.own g hg);have BB:=bh B1 hB.out;injection e9 with q1 q2 q3;subst q1 q2 q3;clear hE hD hv hsz hR hB hR' N9 hf hPE hLp hRR;go_wp2_with fail;go_ret;rw [HQ.out];exact jb BB.out H9.out (fun a e => .inr (by subst e;exact Nat.le_trans B1.out.size (HOB.out _ rfl)))
end Go.Proofs.YtjcdeikbghjpkaaGreatDoor
