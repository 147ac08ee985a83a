/-
  The document's lazy, of If. (gen_reflazy4.py) The document's record: of a value that has names. The reference's Parts; lists of lists alike. The document's ..
-/
import Derived.Test.YtkfgabdnppmglaaGreatDoorQ22
import Derived.Test.YtkfgabdnppmglaaGreatDoorQ23
import Derived.Test.YtkfgabdnppmglaaGreatDoorQ34
import Derived.Test.YtkfgabdnppmglaaGreatDoorQ39
import Derived.Test.YtkfgabdnppmglaaGreatDoorQ40
set_option maxRecDepth 100000
set_option maxHeartbeats 16000000
namespace Go.Proofs.YtkfgabdnppmglaaGreatDoor
open Go.RowKit Go.Wk Go.Sort
structure IfR(ra rb rx rr:Res):Prop where
 err:zZ ra≠0→rr=ra
 val:zZ ra=0→∃V,ra = .ok V∧zc V=0
 no:∀V,ra = .ok V→zf V≠1→rr = .error 2
 yes:ra = .ok (zt true)→rr=rb
 els:ra = .ok (zt false)→rr=rx
theorem zt3{σ:Env}(h:zcj σ)(a b x:Ex)(ha:a.valid false):IfR (evX σ a) (evX σ b) (evX σ x) (zcb σ (.cons a (.cons b (.cons x .nil)))):=by
 refine⟨fun z=>?_,zfT h a ha,fun V e g=>?_,fun e=>?_,fun e=>?_⟩
 ·rcases q:evX σ a with u|V
  ·rw [zcb,q]
  ·rw [q] at z;exact absurd rfl z
 ·rw [zcb,e];exact if_neg g
 ·rw [zcb,e];simp only [zd7];rfl
 ·rw [zcb,e];simp only [zjP];rfl
theorem zp3(W:World)(k:Cx)(N:Nat)(hW:zf2 W k N)(a b x:Ex)(a':Addr)(m c' p0 p1 p2:Nat)(w:World)(h:zdK w k)(hb:Below W.heap.size W w)(hm:3≤m)(hm2:m≤4000)(q0:w.cell? a'=some (.int .i64 (p0:Int)))(q1:w.cell? ⟨a'.block,a'.off+1,none⟩=some (.int .i64 (p1:Int)))(q2:w.cell? ⟨a'.block,a'.off+2,none⟩=some (.int .i64 (p2:Int)))(ha:XAt k.P p0 false a)(hb2:XAt k.P p1 false b)(hx2:XAt k.P p2 false x)(la:a.flat.length≤N)(lb:b.flat.length≤N)(lx:x.flat.length≤N):
 Calls Tryz.prog 28 #[.slice k.EA k.en k.ec,k.q.v,.slice k.A k.n k.c,.int .i64 13,.slice (some a') m c'] w (zD (fun b=>b<W.heap.size) w (zcb k.env (.cons a (.cons b (.cons x .nil))))):=by
 have HL:=hi9 (zt3 h.ok a b x ha.valid);have KA:=hi9 (fun w' (hb':Below w.heap.size w w')=>hW a p0 w' (h.keep hb') (hb.trans (hb'.mono hb.size)) ha la);have KB2:=hi9 (fun w' (hb':Below w.heap.size w w')=>hW b p1 w' (h.keep hb') (hb.trans (hb'.mono hb.size)) hb2 lb);have KX:=hi9 (fun w' (hb':Below w.heap.size w w')=>hW x p2 w' (h.keep hb') (hb.trans (hb'.mono hb.size)) hx2 lx);have B1':Below w.heap.size w (w.alloc (.cells #[.string k.q.who.1,.string k.q.who.2,.string k.q.act.1,.string k.q.act.2,.string k.q.what.1,.string k.q.what.2,.slice k.q.NA k.q.nn k.q.nc] 27)):=zb w _;have B0:=hi9 (show Below w.heap.size w ((w.alloc (.cells #[.string k.q.who.1,.string k.q.who.2,.string k.q.act.1,.string k.q.act.2,.string k.q.what.1,.string k.q.what.2,.slice k.q.NA k.q.nn k.q.nc] 27)).alloc (.cells #[.slice none 0 0,.int .i64 0] 30)) from B1'.trans ((zb (w.alloc (.cells #[.string k.q.who.1,.string k.q.who.2,.string k.q.act.1,.string k.q.act.2,.string k.q.what.1,.string k.q.what.2,.slice k.q.NA k.q.nn k.q.nc] 27)) _).mono B1'.size));have W0:=(zb1 w k.q 27).keep (zb (w.alloc (.cells #[.string k.q.who.1,.string k.q.who.2,.string k.q.act.1,.string k.q.act.2,.string k.q.what.1,.string k.q.what.2,.slice k.q.NA k.q.nn k.q.nc] 27)) (.cells #[.slice none 0 0,.int .i64 0] 30));have R0:=hi9 (zcC w (.cells #[.string k.q.who.1,.string k.q.who.2,.string k.q.act.1,.string k.q.act.2,.string k.q.what.1,.string k.q.what.2,.slice k.q.NA k.q.nn k.q.nc] 27) 30);have V0:=hi9 (⟨W0,za B0.out q0⟩:Vqi ((w.alloc (.cells #[.string k.q.who.1,.string k.q.who.2,.string k.q.act.1,.string k.q.act.2,.string k.q.what.1,.string k.q.what.2,.slice k.q.NA k.q.nn k.q.nc] 27)).alloc (.cells #[.slice none 0 0,.int .i64 0] 30)) w.heap.size k.q a' (p0:Int));have HPB:=hi9 (block_lt_of_cell q0);have HP1:=hi9 (za B0.out q1);have HP2:=hi9 (za B0.out q2);have HSW:=hi9 hb.size;have hi0:(0:Int)<(m:Int):=by omega
 have hi1:(1:Int)<(m:Int):=by omega
 have hi2:0<m:=by omega
 unfold Rq.v at KA KB2 KX ⊢;unfold zD at KA KB2 KX;have hi3:(2:Int)<(m:Int):=by omega
 clear h hb B1' q0 q1 q2 W0;generalize zcb k.env (.cons a (.cons b (.cons x .nil)))=rr at *;generalize evX k.env a=ra at *;generalize evX k.env b=rb at *;generalize evX k.env x=rx at *;clear ha hb2 hx2 la lb lx;go_enter Tryz.func28,Tryz.ntmps28;go_wp2_with fail;obtain⟨w0,hw0⟩:∃w0,((w.alloc (.cells #[.string k.q.who.1,.string k.q.who.2,.string k.q.act.1,.string k.q.act.2,.string k.q.what.1,.string k.q.what.2,.slice k.q.NA k.q.nn k.q.nc] 27)).alloc (.cells #[.slice none 0 0,.int .i64 0] 30))=w0:=⟨_,rfl⟩
 rw [hw0] at B0 V0 R0 HP1 HP2 ⊢;clear hw0;have U0:=hi9 (⟨V0.out.q,HP1.out⟩:Vqi w0 w.heap.size k.q ⟨a'.block,a'.off+1,none⟩ (p1:Int));have Y0:=hi9 (⟨V0.out.q,HP2.out⟩:Vqi w0 w.heap.size k.q ⟨a'.block,a'.off+2,none⟩ (p2:Int));have bd:=zG w0;have bx:RowKit.Below w0.heap.size w0 (w0.alloc (.cells #[.slice none 0 0,.int .i64 0] 30)).drew:=(zb w0 _).trans ((zG _).mono (zb w0 _).size);have Ud:=hi9 (U0.out.keep bd);have Ux:=hi9 (U0.out.keep bx);have hn_U:((⟨a'.block,a'.off+1,none⟩:Addr):Addr).block≠w0.heap.size:=Nat.ne_of_lt (block_lt_of_cell U0.out.i);have Yd:=hi9 (Y0.out.keep bd);have Yx:=hi9 (Y0.out.keep bx);have hn_Y:((⟨a'.block,a'.off+2,none⟩:Addr):Addr).block≠w0.heap.size:=Nat.ne_of_lt (block_lt_of_cell Y0.out.i);have Vd:=hi9 (V0.out.keep bd);have Vx:=hi9 (V0.out.keep bx);have Bd:=bh B0 bd;have Bx:=bh B0 bx;have Qd:=hi9 bd;have Qx:=hi9 bx;have Rd:=hi9 (R0.out.keep bd);have Rx:=hi9 (R0.out.keep bx);have Cx:=hi9 ((j8 w0 (.slice none 0 0) (.int .i64 0) 30).keep (zG _));have K0:=hi9 (KA.out w0.drew Bd.out);have K1:=hi9 (KA.out (w0.alloc (.cells #[.slice none 0 0,.int .i64 0] 30)).drew Bx.out);have hzx:(w0.alloc (.cells #[.slice none 0 0,.int .i64 0] 30)).drew.heap.size=w0.heap.size+1:=by simp [go_sem]
 have HZX:=hi9 hzx;have hrb:w.heap.size+1<w0.heap.size:=block_lt_of_cell R0.out.c0;have hpb:(a':Addr).block<w0.heap.size:=block_lt_of_cell V0.out.i;have HRB0:=hi9 hrb;have hn1:w.heap.size≠w0.heap.size:=by omega
 have hn2:(a':Addr).block≠w0.heap.size:=Nat.ne_of_lt hpb;clear bd bx hzx;go_region_held3 (fun w':World=>w'.cell? ⟨w.heap.size,0,none⟩=some (.string k.q.who.1)∧w'.cell? ⟨w.heap.size,1,none⟩=some (.string k.q.who.2)∧w'.cell? ⟨w.heap.size,2,none⟩=some (.string k.q.act.1)∧w'.cell? ⟨w.heap.size,3,none⟩=some (.string k.q.act.2)∧w'.cell? ⟨w.heap.size,4,none⟩=some (.string k.q.what.1)∧w'.cell? ⟨w.heap.size,5,none⟩=some (.string k.q.what.2)∧w'.cell? ⟨w.heap.size,6,none⟩=some (.slice k.q.NA k.q.nn k.q.nc)∧w'.cell? a'=some (.int .i64 ((p0:Int):Int))) (first|(with_reducible exact jg Vs.out)|(with_reducible exact jg Vz.out)|(with_reducible exact jg Vy.out)|(with_reducible exact jg V1.out)|(with_reducible exact jg Vx.out)|(with_reducible exact jg Vd.out)|(with_reducible exact jg V0.out)) (first
  |(go_at_call 12;(with_reducible refine K1.out.mono ?_);rintro e w1 ⟨A2,n2,c2,rfl,hN,hf,b1⟩;have N1:=hi9 hN;have F1:=hi9 hf;have B1:=bh Bx b1;have Q1:=bh Qx b1;have V1:=hi9 (Vx.out.keep b1);have R1:=hi9 (Rx.out.keep b1);have C1:=hi9 (Cx.out.keep b1);have Vs:=hi9 (V1.out.but (jN w1 w0.heap.size (.slice A2 n2 c2) (.int .i64 (zZ ra))) hn1 hn2);obtain⟨y0,y1,y2,y3⟩:=C1.out;have U1:=hi9 (Ux.out.keep b1);have Us:=hi9 (U1.out.but (jN w1 w0.heap.size (.slice A2 n2 c2) (.int .i64 (zZ ra))) hn1 hn_U);have Y1:=hi9 (Yx.out.keep b1);have Ys:=hi9 (Y1.out.but (jN w1 w0.heap.size (.slice A2 n2 c2) (.int .i64 (zZ ra))) hn1 hn_Y))
  |(go_at_call 12;(with_reducible refine K0.out.mono ?_);rintro e w1 ⟨A2,n2,c2,rfl,hN,hf,b1⟩;have N1:=hi9 hN;have F1:=hi9 hf;have B1:=bh Bd b1;have Q1:=bh Qd b1;have V1:=hi9 (Vd.out.keep b1);have R1:=hi9 (Rd.out.keep b1);have Vy:=hi9 (V1.out.keep (zb w1 (.cells #[.slice none 0 0,.int .i64 0] 30)));have Vz:=hi9 (V1.out.keep (zb w1 (.cells #[.slice A2 n2 c2,.int .i64 (zZ ra)] 30)));have U1:=hi9 (Ud.out.keep b1);have Y1:=hi9 (Yd.out.keep b1)))
 focus
  have bz:=zb w1 (.cells #[.slice A2 n2 c2,.int .i64 (zZ ra)] 30);have B2:=bh B1 bz;have V2:=hi9 (V1.out.keep bz);have R2:=hi9 (R1.out.keep bz);have C2:=hi9 (j8 w1 (.slice A2 n2 c2) (.int .i64 (zZ ra)) 30);have N2:=hi9 (N1.out.keep bz);have hwj:w0.heap.size≤w1.heap.size:=Q1.out.size;have HC2:=hi9 (show w0.heap.size≤w1.heap.size from hwj);have F2:=hi9 (show∀a,A2=some a→(a.block<W.heap.size∨w0.heap.size≤a.block) from fun a e=>(F1.out a e).imp id (fun q=>by simpa [go_sem] using q));have Q2:=bh Q1 bz;have U2:=hi9 (U1.out.keep bz);have Y2:=hi9 (Y1.out.keep bz);obtain⟨cb2,hcb⟩:∃cb,w1.heap.size=cb:=⟨_,rfl⟩
  obtain⟨w2,hw2⟩:∃w2,(w1.alloc (.cells #[.slice A2 n2 c2,.int .i64 (zZ ra)] 30))=w2:=⟨_,rfl⟩
  rw [hw2] at B2 V2 R2 C2 N2 Q2 U2 Y2 ⊢;rw [hcb] at C2 HC2 ⊢;clear bz hw2 hcb hwj Vy Vz
 rotate_left
 focus
  have hg:=jN w1 w0.heap.size (.slice A2 n2 c2) (.int .i64 (zZ ra));have hsz0:w.heap.size≤w0.heap.size:=B0.out.size;have B2:=hi9 (zaN B1.out hsz0 (.slice A2 n2 c2) (.int .i64 (zZ ra)));have V2:=Vs;have R2:=hi9 (R1.out.but hg (fun e=>by injection e with e;omega));have C2:=hi9 (C1.out.set (.slice A2 n2 c2) (.int .i64 (zZ ra)));have HC2:=hi9 (Nat.le_refl w0.heap.size);have N2:=hi9 (N1.out.but hg (fun _ a e q=>by rcases F1.out a e with h1|h1 <;>(have:=HSW.out;have:=HZX.out;omega)));have F2:=hi9 (show∀a,A2=some a→(a.block<W.heap.size∨w0.heap.size≤a.block) from fun a e=>(F1.out a e).imp id (fun q=>by have:=HZX.out;omega));have Q2:=hi9 (zaN Q1.out (Nat.le_refl _) (.slice A2 n2 c2) (.int .i64 (zZ ra)));have U2:=Us;have Y2:=Ys;obtain⟨cb2,hcb⟩:∃cb,w0.heap.size=cb:=⟨_,rfl⟩
  obtain⟨w2,hw2⟩:∃w2,((w1.setCell ⟨w0.heap.size,0,none⟩ (.slice A2 n2 c2)).setCell ⟨w0.heap.size,1,none⟩ (.int .i64 (zZ ra)))=w2:=⟨_,rfl⟩
  rw [hw2] at B2 V2 R2 C2 N2 Q2 U2 Y2 ⊢;rw [hcb] at C2 ⊢;replace HC2:=hi9 (show w0.heap.size≤cb2 from Nat.le_of_eq hcb);clear hg hw2 hcb hsz0 Vs y0 y1 y2 y3 C1
 rotate_left
 all_goals
  clear V1 B1 R1 N1 F1 Q1 Vd Vx Bd Bx Rd Rx Cx K0 K1 HZX hrb hpb hn1 hn2 b1 hN hf V0 B0 R0 Qd Qx U0 Ud Ux U1 hn_U Y0 Yd Yx Y1 hn_Y;by_cases hu:zZ ra=0
  case neg =>
   have hf:(zZ ra != 0)=true:=by simpa using hu
   obtain⟨y0,y1,y2,y3⟩:=C2.out;have FX:=hi9 (show∀a,A2=some a→(a.block<W.heap.size∨w.heap.size≤a.block)∧a.block≠w.heap.size+1 from fun a e=>by
    have h2:w.heap.size+1<w0.heap.size:=HRB0.out
    have h3:=HSW.out
    rcases F2.out a e with h1|h1
    ·exact⟨.inl h1,by omega⟩
    ·exact⟨.inr (by omega),by omega⟩)
   have RS:=R2.out.set (.slice A2 n2 c2) (.int .i64 (zZ ra));obtain⟨s0,s1,-,-⟩:=RS;have GF:=hi9 (zA (S:=fun b=>b<W.heap.size) (r:=ra) N2.out FX.out B2.out (show w.heap.size≤w.heap.size+1 by omega));obtain⟨r0,r1,z0,z1⟩:=R2.out;go_wp2_with fail;exact bodyPost_ret (v := .agg #[.slice A2 n2 c2,.int .i64 (zZ ra)]) (by simp [results,Tryz.results28,go_sem,s0,s1]) rfl (by rw [HL.out.err hu];exact GF.out)
  obtain⟨V,rfl,vV⟩:=HL.out.val hu;replace C2:=hi9 (show Vr2 w2 cb2 (.slice A2 n2 c2) (.int .i64 0) from C2.out);replace N2:=hi9 (show Ns w2 A2 n2 c2 V from N2.out);clear hu;by_cases g:zf V=1
  case neg =>
   obtain⟨y0,y1,y2,y3⟩:=C2.out;have K:=hi9 (zS A2 n2 c2 (V) 1 w2 N2.out (zm vV));rw [show(zf (V)==1)=false from beq_eq_false_iff_ne.2 g] at K;go_wp2_with fail;refine(K.out).mono ?_;rintro e w3 ⟨rfl,b3⟩;have B3:=bh B2 b3;have R3:=hi9 (R2.out.keep b3);clear y0 y1 y2 y3;clear b3 B2 R2 K;go_wp2_with fail;refine(jA 2 _).mono ?_;rintro e w4 ⟨rfl,b4⟩;have B4:=bh B3 b4;have R4:=hi9 (R3.out.keep b4);clear b4 B3 R3;have RS:=R4.out.set (.slice none 0 0) (.int .i64 2);obtain⟨s0,s1,-,-⟩:=RS;have GF:=hi9 (zA (S:=fun b=>b<W.heap.size) (r := .error 2) (jv _) (jB (S:=fun b=>b<W.heap.size)) B4.out (show w.heap.size≤w.heap.size+1 by omega));obtain⟨r0,r1,z0,z1⟩:=R4.out;go_wp2_with fail;exact bodyPost_ret (v := .agg #[.slice none 0 0,.int .i64 2]) (by simp [results,Tryz.results28,go_sem,s0,s1]) rfl (by rw [HL.out.no V rfl g];exact GF.out)
  obtain⟨v,rfl⟩:∃v,V=zt v:=(zc1 vV g).elim (fun e=>⟨_,e⟩) (fun e=>⟨_,e⟩);obtain⟨y0,y1,y2,y3⟩:=C2.out;have K:=hi9 (zS A2 n2 c2 (zt v) 1 w2 N2.out (by cases v <;> decide));rw [zit] at K;go_wp2_with fail;refine(K.out).mono ?_;rintro e w3 ⟨rfl,b3⟩;have B3:=bh B2 b3;have R3:=hi9 (R2.out.keep b3);have C3:=hi9 (C2.out.keep b3);have N3:=hi9 (N2.out.keep b3);have U3:=hi9 (U2.out.keep b3);have Y3:=hi9 (Y2.out.keep b3);clear y0 y1 y2 y3;clear b3 B2 R2 C2 N2 U2 Y2 K;obtain⟨y0,y1,y2,y3⟩:=C3.out;obtain⟨a2,rfl,hn0,hn1,d1⟩:=zl2 N3.out;cases v
  case true =>
   have HRE:=HL.out.yes rfl;rw [←HRE] at KB2;clear HRE HL;have V3:=U3;go_wp2_with fail;clear y0 y1 y2 y3 d1 hn0 hn1;have bd:=zG w3;have Vd:=hi9 (V3.out.keep bd);have Bd:=bh B3 bd;have Rd:=hi9 (R3.out.keep bd);have K0:=hi9 (KB2.out w3.drew Bd.out);have hrb:w.heap.size+1<w3.heap.size:=block_lt_of_cell R3.out.c0;have hpb:a'.block<w.heap.size:=HPB.out;have hn1:w.heap.size≠w.heap.size+1:=by omega
   have hn2:((⟨a'.block,a'.off+1,none⟩:Addr):Addr).block≠w.heap.size+1:=show a'.block≠w.heap.size+1 by omega
   clear bd;go_region_held3 (fun w':World=>w'.cell? ⟨w.heap.size,0,none⟩=some (.string k.q.who.1)∧w'.cell? ⟨w.heap.size,1,none⟩=some (.string k.q.who.2)∧w'.cell? ⟨w.heap.size,2,none⟩=some (.string k.q.act.1)∧w'.cell? ⟨w.heap.size,3,none⟩=some (.string k.q.act.2)∧w'.cell? ⟨w.heap.size,4,none⟩=some (.string k.q.what.1)∧w'.cell? ⟨w.heap.size,5,none⟩=some (.string k.q.what.2)∧w'.cell? ⟨w.heap.size,6,none⟩=some (.slice k.q.NA k.q.nn k.q.nc)∧w'.cell? (⟨a'.block,a'.off+1,none⟩:Addr)=some (.int .i64 ((p1:Int):Int))) (first|(with_reducible exact jg Vs.out)|(with_reducible exact jg V4.out)|(with_reducible exact jg Vd.out)|(with_reducible exact jg V3.out)) (first
    |(go_at_call 12;(with_reducible refine K0.out.mono ?_);rintro e w4 ⟨A4,n4,c4,rfl,hN,hf,b4⟩;have N4:=hi9 hN;have F4:=hi9 hf;have B4:=bh Bd b4;have V4:=hi9 (Vd.out.keep b4);have R4:=hi9 (Rd.out.keep b4);have Vs:=hi9 (V4.out.but (jN w4 (w.heap.size+1) (.slice A4 n4 c4) (.int .i64 (zZ rr))) hn1 hn2);obtain⟨r0,r1,z0,z1⟩:=R4.out))
   have RS:=R4.out.set (.slice A4 n4 c4) (.int .i64 (zZ rr));obtain⟨s0,s1,-,-⟩:=RS;have FX:∀a,A4=some a→(a.block<W.heap.size∨w.heap.size≤a.block)∧a.block≠w.heap.size+1:=fun a e=>by
    have h3:=HSW.out;have h4:w.heap.size+1<w3.drew.heap.size:=hrb;rcases F4.out a e with h1|h1
    ·exact⟨.inl h1,by omega⟩
    ·exact⟨.inr (by omega),by omega⟩
   have GF:=hi9 (zA (S:=fun b=>b<W.heap.size) (r:=rr) N4.out FX B4.out (show w.heap.size≤w.heap.size+1 by omega));go_wp2_with fail;exact bodyPost_ret (v := .agg #[.slice A4 n4 c4,.int .i64 (zZ rr)]) (by simp [results,Tryz.results28,go_sem,s0,s1]) rfl GF.out
  case false =>
   have HRE:=HL.out.els rfl;rw [←HRE] at KX;clear HRE HL;have V3:=Y3;go_wp2_with fail;clear y0 y1 y2 y3 d1 hn0 hn1;have bd:=zG w3;have Vd:=hi9 (V3.out.keep bd);have Bd:=bh B3 bd;have Rd:=hi9 (R3.out.keep bd);have K0:=hi9 (KX.out w3.drew Bd.out);have hrb:w.heap.size+1<w3.heap.size:=block_lt_of_cell R3.out.c0;have hpb:a'.block<w.heap.size:=HPB.out;have hn1:w.heap.size≠w.heap.size+1:=by omega
   have hn2:((⟨a'.block,a'.off+2,none⟩:Addr):Addr).block≠w.heap.size+1:=show a'.block≠w.heap.size+1 by omega
   clear bd;go_region_held3 (fun w':World=>w'.cell? ⟨w.heap.size,0,none⟩=some (.string k.q.who.1)∧w'.cell? ⟨w.heap.size,1,none⟩=some (.string k.q.who.2)∧w'.cell? ⟨w.heap.size,2,none⟩=some (.string k.q.act.1)∧w'.cell? ⟨w.heap.size,3,none⟩=some (.string k.q.act.2)∧w'.cell? ⟨w.heap.size,4,none⟩=some (.string k.q.what.1)∧w'.cell? ⟨w.heap.size,5,none⟩=some (.string k.q.what.2)∧w'.cell? ⟨w.heap.size,6,none⟩=some (.slice k.q.NA k.q.nn k.q.nc)∧w'.cell? (⟨a'.block,a'.off+2,none⟩:Addr)=some (.int .i64 ((p2:Int):Int))) (first|(with_reducible exact jg Vs.out)|(with_reducible exact jg V4.out)|(with_reducible exact jg Vd.out)|(with_reducible exact jg V3.out)) (first
    |(go_at_call 12;(with_reducible refine K0.out.mono ?_);rintro e w4 ⟨A4,n4,c4,rfl,hN,hf,b4⟩;have N4:=hi9 hN;have F4:=hi9 hf;have B4:=bh Bd b4;have V4:=hi9 (Vd.out.keep b4);have R4:=hi9 (Rd.out.keep b4);have Vs:=hi9 (V4.out.but (jN w4 (w.heap.size+1) (.slice A4 n4 c4) (.int .i64 (zZ rr))) hn1 hn2);obtain⟨r0,r1,z0,z1⟩:=R4.out))
   have RS:=R4.out.set (.slice A4 n4 c4) (.int .i64 (zZ rr));obtain⟨s0,s1,-,-⟩:=RS;have FX:∀a,A4=some a→(a.block<W.heap.size∨w.heap.size≤a.block)∧a.block≠w.heap.size+1:=fun a e=>by
    have h3:=HSW.out;have h4:w.heap.size+1<w3.drew.heap.size:=hrb;rcases F4.out a e with h1|h1
    ·exact⟨.inl h1,by omega⟩
    ·exact⟨.inr (by omega),by omega⟩
   have GF:=hi9 (zA (S:=fun b=>b<W.heap.size) (r:=rr) N4.out FX B4.out (show w.heap.size≤w.heap.size+1 by omega));go_wp2_with fail;exact bodyPost_ret (v := .agg #[.slice A4 n4 c4,.int .i64 (zZ rr)]) (by simp [results,Tryz.results28,go_sem,s0,s1]) rfl GF.out
def zcL(S:Nat→Prop)(w:World)(r:Option (List Nd))(e:Ending)(w':World):Prop :=
 ∃(A':Option Addr) (n' c':Nat),e = .returned (.tuple #[.slice A' n' c',.bool r.isNone])∧(∀V,r=some V→Ns w' A' n' c' V∧∀a,A'=some a→S a.block)∧Below w.heap.size w w'
theorem ztb(S:Nat→Prop)(EA:Option Addr)(en ec:Nat)(A:Option Addr)(n c:Nat)(V:List Nd)(w:World)(hv:Ns w A n c V)(h0:0<V.length)(h6:zf V=6)(hS:∀a,A=some a→S a.block):
 Calls Tryz.prog 63 #[.slice EA en ec,.agg #[.slice A n c,.int .i64 0]] w (zcL S w (some V)):=by
 have B0:=hi9 (zb w (.cells #[.slice A n c,.int .i64 0] 30));have G0:=hi9 (zf4 w A n c 0 30);have K:=hi9 (zS A n c V 6 _ (hv.keep B0.out) h0);have f1:(zf V==6)=true:=beq_iff_eq.2 h6;rw [f1] at K;have HV:=hi9 hv;have HSS:=hi9 hS;obtain⟨g0,g1⟩:=G0.out;clear hv h0 h6 f1 hS;go_enter Tryz.func63,Tryz.ntmps63;go_wp2_with fail;refine K.out.mono ?_;rintro e w1 ⟨rfl,b1⟩;have B1:=bh B0 b1;have G1:=hi9 (G0.out.keep b1);clear b1 K g0 g1 G0 B0;obtain⟨g0,g1⟩:=G1.out;go_wp2_with fail;go_ret2;exact⟨A,n,c,rfl,fun U e=>by injection e with e;subst e;exact⟨HV.out.keep B1.out,HSS.out⟩,B1.out⟩
theorem ztn(S:Nat→Prop)(EA:Option Addr)(en ec:Nat)(E:List En)(A:Option Addr)(n c:Nat)(V:List Nd)(w:World)(hE:Es w EA en ec E)(hv:Ns w A n c V)(h0:0<V.length)(h4:zf V=4)(hS:∀x∈E,∀a,x.NA=some a→S a.block):
 Calls Tryz.prog 63 #[.slice EA en ec,.agg #[.slice A n c,.int .i64 0]] w (zcL S w ((E.find? fun x=>decide (x.u=jd V)).map En.P)):=by
 have B0:=hi9 (zb w (.cells #[.slice A n c,.int .i64 0] 30));have G0:=hi9 (zf4 w A n c 0 30);have K:=hi9 (zS A n c V 6 _ (hv.keep B0.out) h0);have f1:(zf V==6)=false:=by rw [h4];rfl
 rw [f1] at K;have HE:=hi9 hE;have HLN:=hi9 hE.len;have HSS:=hi9 hS;have hmE:=hE.max;unfold maxLen at hmE;obtain⟨a,rfl,hn1,D,-,-⟩:=jm hv h0;have HD:=hi9 D;have hn0:0<n:=hn1;have hi:(0:Int)<(n:Int):=by omega
 have HU:=hi9 (show jd V=((hdN V).s,(hdN V).t) from rfl);obtain⟨g0,g1⟩:=G0.out;clear hE hv h4 f1 D hS;generalize jd V=u at *;generalize hdN V=y at *;go_enter Tryz.func63,Tryz.ntmps63;go_wp2_with fail;refine K.out.mono ?_;rintro e w1 ⟨rfl,b1⟩;have B1:=bh B0 b1;have G1:=hi9 (G0.out.keep b1);clear b1 K g0 g1 G0 B0;go_wp2_with fail;go_loopw [6] (fun i wr=>∃j:Nat,i = .int .i64 j∧j≤en∧Hid ((E.find? fun x=>decide (x.u=u))=(E.drop j).find? fun x=>decide (x.u=u))∧Hid (Below w1.heap.size w1 wr)) (fun i _=>en-(intOf i).toNat)
 case atStart=>exact⟨0,rfl,Nat.zero_le _,hi9 rfl,Below.refl _ _⟩
 case round =>
  obtain⟨j,rfl,hj,hF,hB⟩:=hrel;have BW:=bh B1 hB.out;have GW:=hi9 (G1.out.keep hB.out);have DW:=hi9 (HD.out.keep BW.out);by_cases hlt:j<en
  ·have hjl:j<E.length:=by rw [←HLN.out];exact hlt
   obtain⟨a0,rfl,q0,q1,q2,q3,hok⟩:=(HE.out.keep BW.out).at_ j E[j] (List.getElem?_eq_getElem hjl);have hF2:=hF.out.trans (zkb hjl);have HSX:=hi9 (HSS.out E[j] (List.getElem_mem hjl));generalize E[j]=x at *;obtain⟨g0,-⟩:=GW.out;obtain⟨d0,d1,d2,d3⟩:=DW.out;have R1:=rq (w:=wr) (v := .agg #[.string y.s,.string y.t]) (fun w' _=>zcy y w');have HOK:=hi9 hok;have k0:=cell_regrown q0;have k1:=cell_regrown q1;have k2:=cell_regrown g0;have k3:=cell_regrown d0;have k4:=cell_regrown d1;have k5:=cell_regrown d2;have k6:=cell_regrown d3;by_cases he:x.u=u
   ·rw [if_pos he] at hF2;have HN:=hi9 hF2;have he2:x.u=(y.s,y.t):=by rw [he,HU.out]
    have hb1:(x.u.1.toList==y.s.toList)=true:=by rw [he2];exact beq_self_eq_true _
    have hb2:(x.u.2.toList==y.t.toList)=true:=by rw [he2];exact beq_self_eq_true _
    have Q2:=hi9 q3;clear he he2 hF hF2 q0 q1 g0 d0 d1 d2 d3 hok q3 q2;go_wp2_with fail;refine wp_region_quiet_below (by kernel_rfl) (by kernel_rfl) ?_
    repeat (first|go_big_quiet_step (with_reducible exact R1 _ _)|quiet_step (with_reducible exact R1 _ _))
    refine wpQuiet_nil ?_;intro w4 hw';have b4:=hi9 (show Below wr.heap.size wr w4 by obtain⟨⟨d,os⟩,rfl⟩:=hw';exact below_regrown _ _ _);clear hw';have B4:=bh BW b4.out;have q3:=za b4.out Q2.out;have HO4:=hi9 (HOK.out.keep b4.out);clear k0 k1 k2 k3 k4 k5 k6 R1;go_wp2_with fail;go_ret2;rw [HN.out];exact⟨x.NA,x.nn,x.nc,rfl,fun U e=>by injection e with e;subst e;exact⟨HO4.out.ns,HSX.out⟩,B4.out⟩
   ·rw [if_neg he] at hF2;have HN:=hi9 hF2;have he2:x.u≠(y.s,y.t):=by rw [←HU.out];exact he
    have hne:=zcq he2;dsimp only at hne;clear he he2 hF hF2 q0 q1 g0 d0 d1 d2 d3 hok q3 q2 HOK;rcases hne with h1|⟨h1,h2⟩
    all_goals
     go_wp2_with fail;refine wp_region_quiet_below (by kernel_rfl) (by kernel_rfl) ?_
     repeat (first|go_big_quiet_step (with_reducible exact R1 _ _)|quiet_step (with_reducible exact R1 _ _))
     refine wpQuiet_nil ?_;intro w4 hw';have b4:=hi9 (show Below wr.heap.size wr w4 by obtain⟨⟨d,os⟩,rfl⟩:=hw';exact below_regrown _ _ _);clear hw';have B4:=bh hB b4.out;clear k0 k1 k2 k3 k4 k5 k6 R1;go_wp2_with fail;go_roundw
     case rel=>exact⟨j+1,by go_num,by omega,HN,B4⟩
     case measure=>simp [intOf];omega
  ·have hF2:=hF.out;rw [List.drop_of_length_le (by rw [←HLN.out];omega)] at hF2;have HN:=hi9 hF2;clear hF hF2;go_wp2_with fail;go_ret2;rw [HN.out];exact⟨none,0,0,rfl,fun U e=>(by simp at e),BW.out⟩
end Go.Proofs.YtkfgabdnppmglaaGreatDoor
namespace Go.Wk
def zfD(P:List Nd):List ByteArray:=if zf P=5 then(zl P).map (fun _=>⟨#[]⟩) else(zR P).map (·.1)
end Go.Wk
namespace Go.Proofs.YtkfgabdnppmglaaGreatDoor
open Go.RowKit Go.Wk Go.Sort
def zb8(w:World)(L:List (List Nd))(N:List ByteArray)(e:Ending)(w':World):Prop :=
 ∃(v v':Value) (V:List Sl),e = .returned (.tuple #[v,v'])∧jl w' w.heap.size v v' V N∧V.map Sl.P=L∧Below w.heap.size w w'
def zjQ(A:Option Addr)(r:Sl):Prop:=∀a',r.A=some a'→∃a0,A=some a0∧a'.block=a0.block
def zev(A:Option Addr)(w:World)(L:List (List Nd))(N:List ByteArray)(e:Ending)(w':World):Prop :=
 ∃(v v':Value) (V:List Sl),e = .returned (.tuple #[v,v'])∧jl w' w.heap.size v v' V N∧V.map Sl.P=L∧Below w.heap.size w w'∧∀r∈V,zjQ A r
theorem zhF(a:Addr)(k:Nat):(a.add k).block=a.block:=by unfold Addr.add;split <;> rfl
theorem zcg{w w1:World}{B n:Nat}{e:TypeId}{size:Nat}{v:Value}{xs:List Value}(h:w1.ownsRow B e size v n xs){r:Sl}(hr:Ns w r.A r.n r.c r.P)(hB:w.heap.size≤B):zaC r v.ownBlock:=by
 intro h0 a ea q;have:=zW h a.block q;have:=hr.at_.lt h0 a ea;omega
theorem zeu(A:Option Addr)(n c:Nat)(P:List Nd)(w:World)(h:Ns w A n c P)(hv:zc P=0)(h5:zf P=5):
 Calls Tryz.prog 106 #[.slice A n c] w (zev A w (zl P) (zfD P)):=by
 obtain⟨i0,hi,hz0,hz1,hz2⟩:=info_parts zcP;obtain⟨j0,hj,jz0,jz1,jz2⟩:=info_parts zdk;obtain⟨h200,hV⟩:=zP.1 hv;have hpos:=hV.pos;obtain⟨a,rfl,D⟩:=h.at_.nd hpos;have hn:=h.len;obtain⟨hs0,_,hop,hx0,hN⟩:=znf hV h5;have hE:zl P=zaa P (zn P (P.length+1)) P[0].n.toNat 1:=by unfold zl;rw [hN]
 rw [hN] at hs0;obtain⟨-,-,-,hhi⟩:=h.ok.at hpos;have K:=hi9 (fun q w' (hb:Below w.heap.size w w')=>(zkI (some a) P n c hn h.cap h.max h.ok (P.length+1)).1 q w' (h.at_.keep hb) (by omega));have HPN:=hi9 (show zfD P=(zl P).map (fun _=>⟨#[]⟩) by unfold zfD;rw [if_pos h5]);have HN:=hi9 h;have HL:=hi9 hn;have H0:=hi9 hs0;have HE:=hi9 hE;rw [show a.add (0*4)=a from rfl] at D;obtain⟨d0,d1,d2,d3⟩:=D;rw [hop] at d0;have hcap:=h.cap;generalize P[0]=x at *;have hn200:n≤200:=by omega
 have hn1:0<n:=by omega
 clear h hv h5 hV hn hs0 hE hN h200 hop d2 d3;go_enter Tryz.func106,Tryz.ntmps106;go_wp2_with fail;go_loopw [4,5,6,7,8,9] (fun v v' at_ i _ _ wr=>∃(k q:Nat) (V:List Sl),i = .int .i64 k∧at_ = .int .i64 q∧(k:Int)≤x.n∧q≤n∧k+1≤q∧V.length=k∧Hid (zl P=V.map Sl.P ++ zaa P (zn P (P.length+1)) (x.n.toNat-k) q)∧
  Hid (∃lo,z7 P (zn P (P.length+1)) (x.n.toNat-k) lo q=some P.length)∧Hid (jl wr w.heap.size v v' V (V.map fun _=>⟨#[]⟩))∧Hid (Below w.heap.size w wr)∧Hid (∀r∈V,zjQ (some a) r)) (fun _ _ _ i _ _ _=>(x.n-intOf i).toNat)
 case atStart=>exact⟨0,1,[],rfl,rfl,hx0,hn1,by omega,rfl,HE.out,⟨none,H0.out⟩,⟨zT.nil _ _,World.ownsRow_nil _ _ _ 1,.inl rfl,(by intro r hr;cases hr)⟩,Below.refl _ _,(by intro r hr;cases hr)⟩
 case round =>
  obtain⟨k,q,V,rfl,rfl,hk,hq,hkq,hVl,hE,hS,hT,hB,hOld⟩:=hrel;have e0:=za hB.out d0;have e1:=za hB.out d1;by_cases hlt:(k:Int)<x.n
  ·obtain⟨e,hf,hS',hsp⟩:=zgq (by omega) hS.out;have hle:=jG _ _ _ hf;rw [←HL.out] at hle;have C:=hi9 (K.out q wr hB.out);rw [hf] at C;simp only [zb2] at C;have HE2:=hi9 (hE.out.trans (by rw [hsp]:_=V.map Sl.P ++(seg P q e :: zaa P (zn P (P.length+1)) (x.n.toNat-(k+1)) e)));have HS2:=hi9 hS';have hns:=hi9 (zkP HN.out (show q≤e by omega) hle.2);clear hE hS hS' hsp hf;go_wp2_with fail;refine(C.out).mono ?_;rintro e w1 ⟨rfl,b1⟩;have B1:=bh hB b1;have T1:=hi9 (hT.out.keep b1);have A1:=hi9 (zcg (r:=⟨some (a.add (q*4)),e-q,c-q,seg P q e⟩) T1.out.a.own hns.out (Nat.le_refl _));have A2:=hi9 (zcg (r:=⟨some (a.add (q*4)),e-q,c-q,seg P q e⟩) T1.out.b hns.out (Nat.le_refl _));have hsz1:=B1.out.size;clear b1 hT hB e0 e1;go_wp2_with (at_builtin;refine wpList_append_own_at _ rfl _ _ 69 rfl w.heap.size 25 i0 _ 1 24 Tryz.underlying69 hi hz0 hz1 hz2 rfl (by decide) _ V.length (V.map Sl.v) rfl (T1.out.a.own.alloc _) ⟨_,0,none⟩ 1 1 [.slice (some (a.add (q*4))) (e-q) (c-q)] rfl rfl (cell_one_new _ _ _) (by intro u hu;simp only [List.mem_cons,List.not_mem_nil,or_false] at hu;subst hu;rfl) ?c1 ?c2 ?c3 ?_)
   case c1=>unfold maxLen;omega
   case c2=>omega
   case c3=>simp;omega
   intro v1 w2 hown hgrow _ hat;have T2:=hi9 (T1.out.part (r:=⟨some (a.add (q*4)),e-q,c-q,seg P q e⟩) (hns.out.keep B1.out) A1.out A2.out (by rw [hVl];exact hown) hgrow (by simpa using hat));have B2:=hi9 ((B1.out.alloc B1.out.size _).grown hgrow (by simp;omega) (fun g hg=>by have:=zW T1.out.a.own g hg;omega));have hsz2:=B2.out.size;clear hown hgrow hat A1 A2 T1 B1;go_wp2_with (at_builtin;refine wpList_append_own_at _ rfl _ _ 70 rfl w.heap.size 9 j0 _ 1 16 Tryz.underlying70 hj jz0 jz1 jz2 rfl (by decide) _ (V.map fun _=>(⟨#[]⟩:ByteArray)).length ((V.map fun _=>(⟨#[]⟩:ByteArray)).map Value.string) rfl (T2.out.b.alloc _) ⟨_,0,none⟩ 1 1 [.string ⟨#[]⟩] rfl rfl (cell_one_new _ _ _) (by intro u hu;simp only [List.mem_cons,List.not_mem_nil,or_false] at hu;subst hu;rfl) ?d1 ?d2 ?d3 ?_)
   case d1=>simp;unfold maxLen;omega
   case d2=>simp;omega
   case d3=>simp;omega
   intro v2 w3 hown hgrow _ hat;have T3:=hi9 (T2.out.name (s:=⟨#[]⟩) (by simpa [hVl] using hown) hgrow (by simpa using hat));have B3:=hi9 ((B2.out.alloc B2.out.size _).grown hgrow (by simp;omega) (fun g hg=>by have:=zW T2.out.b g hg;omega));have HE3:=hi9 (HE2.out.trans (show _=(V ++ [(⟨some (a.add (q*4)),e-q,c-q,seg P q e⟩:Sl)]).map Sl.P ++ zaa P (zn P (P.length+1)) (x.n.toNat-(k+1)) e by simp));have T4:=hi9 (show jl w3 w.heap.size v1 v2 (V ++ [(⟨some (a.add (q*4)),e-q,c-q,seg P q e⟩:Sl)]) ((V ++ [(⟨some (a.add (q*4)),e-q,c-q,seg P q e⟩:Sl)]).map fun _=>⟨#[]⟩) by
    rw [List.map_append];exact T3.out)
   have hl4:(V ++ [(⟨some (a.add (q*4)),e-q,c-q,seg P q e⟩:Sl)]).length=k+1:=by simp [hVl]
   have HO4:=hi9 (show∀r∈V ++ [(⟨some (a.add (q*4)),e-q,c-q,seg P q e⟩:Sl)],zjQ (some a) r from fun r hr=>by
    rcases List.mem_append.1 hr with h1|h1
    ·exact hOld.out r h1
    ·simp only [List.mem_cons,List.not_mem_nil,or_false] at h1
     subst h1
     intro a' ea
     injection ea with ea
     subst ea
     exact⟨a,rfl,zhF _ _⟩)
   clear hown hgrow hat HE2 B2 T2 T3 hOld;go_wp2_with fail;go_roundw
   case rel=>exact⟨k+1,e,_,by go_num,rfl,by omega,by omega,by omega,hl4,HE3,HS2,T4,B3,HO4⟩
   case measure=>simp [intOf];omega
  ·have HG:=hi9 (hE.out.trans (show _=V.map Sl.P by rw [show x.n.toNat-k=0 by omega];simp [zaa]));have HT:=hi9 (show jl wr w.heap.size u4 u5 V (zfD P) by
    rw [HPN.out,HG.out,List.map_map];exact hT.out)
   clear hE hS hT;go_wp2_with fail;go_ret2;exact⟨_,_,V,rfl,HT.out,HG.out.symm,hB.out,hOld.out⟩
theorem zfH(A:Option Addr)(n c:Nat)(P:List Nd)(w:World)(h:Ns w A n c P)(hv:zc P=0)(h5:zf P=5):
 Calls Tryz.prog 106 #[.slice A n c] w (zb8 w (zl P) (zfD P)):=
 (zeu A n c P w h hv h5).mono fun _ _ ⟨v,v',V,q1,q2,q3,q4,_⟩=>⟨v,v',V,q1,q2,q3,q4⟩
theorem zer(A:Option Addr)(n c:Nat)(P:List Nd)(w:World)(h:Ns w A n c P)(hv:zc P=0)(h6:zf P=6):
 Calls Tryz.prog 106 #[.slice A n c] w (zev A w ((zR P).map (·.2)) (zfD P)):=by
 obtain⟨i0,hi,hz0,hz1,hz2⟩:=info_parts zcP;obtain⟨j0,hj,jz0,jz1,jz2⟩:=info_parts zdk;obtain⟨h200,hV⟩:=zP.1 hv;have hpos:=hV.pos;obtain⟨a,rfl,D⟩:=h.at_.nd hpos;have hn:=h.len;obtain⟨hs0,_,hop,hx0,hN⟩:=zl6 hV h6;have hE:zR P=zac P (zn P (P.length+1)) P[0].n.toNat 1:=by unfold zR;rw [hN]
 rw [hN] at hs0;obtain⟨-,-,-,hhi⟩:=h.ok.at hpos;have K:=hi9 (fun q w' (hb:Below w.heap.size w w')=>(zkI (some a) P n c hn h.cap h.max h.ok (P.length+1)).1 q w' (h.at_.keep hb) (by omega));have HPN:=hi9 (show zfD P=(zR P).map (·.1) by unfold zfD;rw [if_neg (by omega)]);have HN:=hi9 h;have HL:=hi9 hn;have H0:=hi9 hs0;have HE:=hi9 hE;rw [show a.add (0*4)=a from rfl] at D;obtain⟨d0,d1,d2,d3⟩:=D;rw [hop] at d0;have hcap:=h.cap;generalize P[0]=x at *;have hn200:n≤200:=by omega
 have hn1:0<n:=by omega
 clear h hv h6 hV hn hs0 hE hN h200 hop d2 d3;go_enter Tryz.func106,Tryz.ntmps106;go_wp2_with fail;go_loopw [4,5,6,7,8,9] (fun v v' at_ i _ _ wr=>∃(k q:Nat) (V:List Sl) (X:List (ByteArray × List Nd)),i = .int .i64 k∧at_ = .int .i64 q∧(k:Int)≤x.n∧q≤n∧k+1≤q∧V.length=k∧X.length=k∧Hid (V.map Sl.P=X.map (·.2))∧Hid (zR P=X ++ zac P (zn P (P.length+1)) (x.n.toNat-k) q)∧
  Hid (∃lo,zY P (zn P (P.length+1)) (x.n.toNat-k) lo q=some P.length)∧Hid (jl wr w.heap.size v v' V (X.map (·.1)))∧Hid (Below w.heap.size w wr)∧Hid (∀r∈V,zjQ (some a) r)) (fun _ _ _ i _ _ _=>(x.n-intOf i).toNat)
 case atStart=>exact⟨0,1,[],[],rfl,rfl,hx0,hn1,by omega,rfl,rfl,rfl,HE.out,⟨_,H0.out⟩,⟨zT.nil _ _,World.ownsRow_nil _ _ _ 1,.inl rfl,(by intro r hr;cases hr)⟩,Below.refl _ _,(by intro r hr;cases hr)⟩
 case round =>
  obtain⟨k,q,V,X,rfl,rfl,hk,hq,hkq,hVl,hXl,hVX,hE,hS,hT,hB,hOld⟩:=hrel;have e0:=za hB.out d0;have e1:=za hB.out d1;by_cases hlt:(k:Int)<x.n
  ·obtain⟨hq',e,hf,hS',hsp⟩:=zgz (by omega) hS.out;have hle:=jG _ _ _ hf;rw [←HL.out] at hle;have hqn:q<n:=by omega
   obtain⟨a',ha',⟨-,-,q2,-⟩⟩:=(HN.out.at_.keep hB.out).nd hq';injection ha' with ha';subst ha';have C:Hid (Calls Tryz.prog 52 #[.slice (some a) n c,.int .i64 ((q:Int)+1),.bool false] wr fun e' w'=>e' = .returned (.int .i64 e)∧Below wr.heap.size wr w'):=hi9 (by
    have:=K.out (q+1) wr hB.out
    rw [hf] at this
    simpa [zb2] using this)
   have HE2:=hi9 (hE.out.trans (by rw [hsp]:_=X ++((P[q].s,seg P (q+1) e):: zac P (zn P (P.length+1)) (x.n.toNat-(k+1)) e)));have HS2:=hi9 hS';have hns:=hi9 (zkP HN.out (show q+1≤e by omega) hle.2);generalize P[q].s=nm at *;clear hE hS hS' hsp hf;go_wp2_with fail;refine(C.out).mono ?_;rintro e w1 ⟨rfl,b1⟩;have B1:=bh hB b1;have T1:=hi9 (hT.out.keep b1);have A1:=hi9 (zcg (r:=⟨some (a.add ((q+1)*4)),e-(q+1),c-(q+1),seg P (q+1) e⟩) T1.out.a.own hns.out (Nat.le_refl _));have A2:=hi9 (zcg (r:=⟨some (a.add ((q+1)*4)),e-(q+1),c-(q+1),seg P (q+1) e⟩) T1.out.b hns.out (Nat.le_refl _));have hsz1:=B1.out.size;clear b1 hT hB e0 e1 q2;go_wp2_with (at_builtin;refine wpList_append_own_at _ rfl _ _ 69 rfl w.heap.size 25 i0 _ 1 24 Tryz.underlying69 hi hz0 hz1 hz2 rfl (by decide) _ V.length (V.map Sl.v) rfl (T1.out.a.own.alloc _) ⟨_,0,none⟩ 1 1 [.slice (some (a.add ((q+1)*4))) (e-(q+1)) (c-(q+1))] rfl rfl (cell_one_new _ _ _) (by intro u hu;simp only [List.mem_cons,List.not_mem_nil,or_false] at hu;subst hu;rfl) ?c1 ?c2 ?c3 ?_)
   case c1=>unfold maxLen;omega
   case c2=>omega
   case c3=>simp;omega
   intro v1 w2 hown hgrow _ hat;have T2:=hi9 (T1.out.part (r:=⟨some (a.add ((q+1)*4)),e-(q+1),c-(q+1),seg P (q+1) e⟩) (hns.out.keep B1.out) A1.out A2.out (by rw [hVl];exact hown) hgrow (by simpa using hat));have B2:=hi9 ((B1.out.alloc B1.out.size _).grown hgrow (by simp;omega) (fun g hg=>by have:=zW T1.out.a.own g hg;omega));have hsz2:=B2.out.size;clear hown hgrow hat A1 A2 T1 B1;go_wp2_with (at_builtin;refine wpList_append_own_at _ rfl _ _ 70 rfl w.heap.size 9 j0 _ 1 16 Tryz.underlying70 hj jz0 jz1 jz2 rfl (by decide) _ (X.map (·.1)).length ((X.map (·.1)).map Value.string) rfl (T2.out.b.alloc _) ⟨_,0,none⟩ 1 1 [.string nm] rfl rfl (cell_one_new _ _ _) (by intro u hu;simp only [List.mem_cons,List.not_mem_nil,or_false] at hu;subst hu;rfl) ?d1 ?d2 ?d3 ?_)
   case d1=>simp;unfold maxLen;omega
   case d2=>simp;omega
   case d3=>simp;omega
   intro v2 w3 hown hgrow _ hat;have T3:=hi9 (T2.out.name (s:=nm) (by simpa [hXl] using hown) hgrow (by simpa using hat));have B3:=hi9 ((B2.out.alloc B2.out.size _).grown hgrow (by simp;omega) (fun g hg=>by have:=zW T2.out.b g hg;omega));have HE3:=hi9 (HE2.out.trans (show _=(X ++ [(nm,seg P (q+1) e)])++ zac P (zn P (P.length+1)) (x.n.toNat-(k+1)) e by simp));have T4:=hi9 (show jl w3 w.heap.size v1 v2 (V ++ [(⟨some (a.add ((q+1)*4)),e-(q+1),c-(q+1),seg P (q+1) e⟩:Sl)]) ((X ++ [(nm,seg P (q+1) e)]).map (·.1)) by
    rw [List.map_append];exact T3.out)
   have hl4:(V ++ [(⟨some (a.add ((q+1)*4)),e-(q+1),c-(q+1),seg P (q+1) e⟩:Sl)]).length=k+1:=by simp [hVl]
   have hl6:(X ++ [(nm,seg P (q+1) e)]).length=k+1:=by simp [hXl]
   have HV5:=hi9 (show(V ++ [(⟨some (a.add ((q+1)*4)),e-(q+1),c-(q+1),seg P (q+1) e⟩:Sl)]).map Sl.P=(X ++ [(nm,seg P (q+1) e)]).map (·.2) by
    rw [List.map_append,List.map_append,hVX.out];rfl)
   have HO4:=hi9 (show∀r∈V ++ [(⟨some (a.add ((q+1)*4)),e-(q+1),c-(q+1),seg P (q+1) e⟩:Sl)],zjQ (some a) r from fun r hr=>by
    rcases List.mem_append.1 hr with h1|h1
    ·exact hOld.out r h1
    ·simp only [List.mem_cons,List.not_mem_nil,or_false] at h1
     subst h1
     intro a' ea
     injection ea with ea
     subst ea
     exact⟨a,rfl,zhF _ _⟩)
   clear hown hgrow hat HE2 B2 T2 T3 hOld;go_wp2_with fail;go_roundw
   case rel=>exact⟨k+1,e,_,_,by go_num,rfl,by omega,by omega,by omega,hl4,hl6,HV5,HE3,HS2,T4,B3,HO4⟩
   case measure=>simp [intOf];omega
  ·have HG:=hi9 (hE.out.trans (show _=X by rw [show x.n.toNat-k=0 by omega];simp [zac]));have HT:=hi9 (show jl wr w.heap.size u4 u5 V (zfD P) by
    rw [HPN.out,HG.out];exact hT.out)
   clear hE hS hT;go_wp2_with fail;go_ret2;exact⟨_,_,V,rfl,HT.out,by rw [HG.out];exact hVX.out,hB.out,hOld.out⟩
theorem zkU(A:Option Addr)(n c:Nat)(P:List Nd)(w:World)(h:Ns w A n c P)(hv:zc P=0)(h6:zf P=6):
 Calls Tryz.prog 106 #[.slice A n c] w (zb8 w ((zR P).map (·.2)) (zfD P)):=
 (zer A n c P w h hv h6).mono fun _ _ ⟨v,v',V,q1,q2,q3,q4,_⟩=>⟨v,v',V,q1,q2,q3,q4⟩
theorem zqH(A:Option Addr)(n c:Nat)(P:List Nd)(w:World)(h:Ns w A n c P)(hE:zbj P=0):
 Calls Tryz.prog 106 #[.slice A n c] w (zb8 w (zb7 P) (zfD P)):=by
 have hv:zc P=0:=by
  unfold zbj at hE;by_cases h0:zc P=0
  ·exact h0
  ·rw [if_neg h0] at hE;exact absurd hE h0
 by_cases h5:zf P=5
 ·have:zb7 P=zl P:=by unfold zb7;rw [if_pos hE,if_pos h5]
  rw [this];exact zfH A n c P w h hv h5
 ·have h6:zf P=6:=by
   unfold zbj at hE;rw [if_pos hv] at hE;by_cases h6:zf P=6
   ·exact h6
   ·rw [if_neg (by omega)] at hE;omega
  have:zb7 P=(zR P).map (·.2):=by unfold zb7;rw [if_pos hE,if_neg h5]
  rw [this];exact zkU A n c P w h hv h6
def zhd(w:World)(A:Option Addr)(N:List ByteArray):Prop:=∀(k:Nat) (x:ByteArray),N[k]?=some x→∃a,A=some a∧w.cell? (a.add k)=some (.string x)
theorem zhd.keep{w w':World}{A:Option Addr}{N:List ByteArray}(h:zhd w A N)(hb:Below w.heap.size w w'):zhd w' A N:=fun k x hx=>by
 obtain⟨a,e,q⟩:=h k x hx;exact⟨a,e,za hb q⟩
theorem zmO{w:World}{B:Nat}{v:Value}{N:List ByteArray}(h:w.ownsRow B 9 1 v N.length (N.map Value.string)):∃A c,v = .slice A N.length c∧zhd w A N:=by
 rcases h.2 with ⟨rfl,h0⟩|⟨g,cap,cur,rfl,_⟩
 ·have:N = []:=List.eq_nil_of_length_eq_zero h0;subst this;exact⟨none,0,rfl,fun k x hx=>by simp at hx⟩
 ·refine⟨some ⟨g,0,none⟩,cap,rfl,fun k x hx=>⟨_,rfl,h.cells (g:=g) rfl _ _ ?_⟩⟩;rw [List.getElem?_map,hx];rfl
def zfX(S:Nat→Prop)(w:World)(P:List Nd)(s:ByteArray)(e:Ending)(w':World):Prop :=
 ∃(A':Option Addr) (n' c':Nat),e = .returned (.tuple #[.slice A' n' c',.bool (decide (zah P s=0))])∧(zah P s=0→Ns w' A' n' c' (zb0 P s)∧∀a,A'=some a→S a.block)∧Below w.heap.size w w'
theorem zdi(S:Nat→Prop)(A:Option Addr)(n c:Nat)(P:List Nd)(s:ByteArray)(w:World)(h:Ns w A n c P)(hv:zc P=0)(h6:zf P=6)(hS:∀a,A=some a→S a.block):
 Calls Tryz.prog 64 #[.slice A n c,.string s] w (zfX S w P s):=by
 have C:=hi9 (zer A n c P w h hv h6);have HPN:=hi9 (show zfD P=(zR P).map (·.1) by unfold zfD;rw [if_neg (by omega)]);have HLN:=hi9 (show(zR P).length≤200 from zfs hv h6);have HGE:=hi9 (show zah P s=if(((zR P).find? fun x=>decide (jk x.1 s=0)).map (·.2)).isSome then 0 else 3 by unfold zah zjm;rw [if_pos hv,if_pos h6]);have HGV:=hi9 (show zah P s=0→zb0 P s=(((zR P).find? fun x=>decide (jk x.1 s=0)).map (·.2)).getD [] from fun q=>by unfold zb0;rw [if_pos q];rfl);have HSS:=hi9 hS;unfold zfX;clear h hv h6 hS;generalize zR P=R at *;generalize zah P s=ge at *;generalize zb0 P s=gv at *;go_enter Tryz.func64,Tryz.ntmps64;go_wp2_with fail;refine C.out.mono ?_;rintro e w1 ⟨v,v',V,rfl,hT,hV,b1,hO⟩;obtain⟨A1,c1,e1,-,hSl⟩:=hT.a.at
 obtain⟨A2,c2,e2,hN⟩:=zmO hT.b;subst e1;subst e2;have B1:=hi9 b1;have HS:=hi9 hSl;have HT:=hi9 hN;have HVP:=hi9 hV;have HSB:=hi9 (show∀r∈V,∀a,r.A=some a→S a.block from fun r hr a e=>by
  obtain⟨a0,e0,eb⟩:=hO r hr a e
  rw [eb]
  exact HSS.out a0 e0)
 have hVl:V.length=R.length:=by have:=congrArg List.length hV;simpa using this
 have hPl:(zfD P).length=R.length:=by rw [HPN.out];simp
 have HVL:=hi9 hVl;rw [hVl,hPl];have hR200:=HLN.out;clear b1 hSl hN hV hT C hVl hPl hO;go_wp2_with fail;go_loopw [8] (fun i wr=>∃k:Nat,i = .int .i64 k∧k≤R.length∧Hid (∀x∈R.take k,x.1≠s)∧Hid (Below w1.heap.size w1 wr)) (fun i _=>R.length-(intOf i).toNat)
 case atStart=>exact⟨0,rfl,Nat.zero_le _,(by intro x hx;simp at hx),Below.refl _ _⟩
 case round =>
  obtain⟨k,rfl,hk,hno,hB⟩:=hrel;have BW:=hi9 (B1.out.trans (hB.out.mono B1.out.size));by_cases hlt:k<R.length
  ·have hkv:k<V.length:=by rw [HVL.out];exact hlt
   obtain⟨a1,rfl,q1,n1⟩:=(HS.out.keep hB.out).at hkv;obtain⟨a2,rfl,q2⟩:=(HT.out.keep hB.out) k R[k].1 (by rw [HPN.out,List.getElem?_map,List.getElem?_eq_getElem hlt];rfl);by_cases hs:R[k].1=s
   ·have hf:(R.find? fun x=>decide (jk x.1 s=0))=some R[k]:=zo4 hlt (by rw [hs];exact decide_eq_true (jx.self s)) (fun j hj=>by
     refine decide_eq_false fun q=>hno.out (R[j]'(by omega)) ?_ ((jx.zero _ _).1 q)
     exact List.mem_take_iff_getElem.2 ⟨j,by omega,rfl⟩)
    rw [hf] at HGE HGV
    have HE:=hi9 (show ge=0 from HGE.out)
    have HX:=hi9 (show Ns wr V[k].A V[k].n V[k].c gv from by
     have:=congrArg (fun l=>l[k]?) HVP.out
     simp only [List.getElem?_map,List.getElem?_eq_getElem hkv,List.getElem?_eq_getElem hlt,Option.map_some,Option.some.injEq] at this
     rw [HGV.out HE.out]
     show Ns wr _ _ _ R[k].2
     rw [←this];exact n1)
    have HSR:=hi9 (HSB.out V[k] (List.getElem_mem hkv))
    rw [hs] at q2
    clear n1 hs hno hf HGE HGV
    generalize V[k]=r at *
    go_wp2_with fail
    go_ret2
    exact⟨_,_,_,by rw [HE.out];rfl,fun _=>⟨HX.out,HSR.out⟩,BW.out⟩
   ·have HNO:=hi9 (show∀x∈R.take (k+1),x.1≠s from fun x hx=>by
     rw [List.take_succ_eq_append_getElem hlt,List.mem_append] at hx
     rcases hx with hx|hx
     ·exact hno.out x hx
     ·simp only [List.mem_cons,List.not_mem_nil,or_false] at hx
      subst hx;exact hs)
    have f6:(R[k].1.toList==s.toList)=false:=beq_eq_false_iff_ne.2 (fun q=>hs (toList_inj q))
    generalize R[k].1=y at *
    clear hs hno n1 q1
    go_wp2_with fail
    go_roundw
    case rel=>exact⟨k+1,by go_num,hlt,HNO,hB⟩
    case measure=>simp [intOf];omega
  ·have HX:=hi9 (show(R.find? fun x=>decide (jk x.1 s=0))=none from by
    rw [List.find?_eq_none]
    intro x hx q
    exact hno.out x (by rw [List.take_of_length_le (by omega)];exact hx) ((jx.zero _ _).1 (of_decide_eq_true q)))
   rw [HX.out] at HGE
   have HE:=hi9 (show ge=3 from HGE.out)
   clear hno HX HGE HGV
   go_wp2_with fail
   go_ret2
   exact⟨none,0,0,by rw [HE.out];rfl,fun q=>(by rw [HE.out] at q;cases q),BW.out⟩
end Go.Proofs.YtkfgabdnppmglaaGreatDoor
