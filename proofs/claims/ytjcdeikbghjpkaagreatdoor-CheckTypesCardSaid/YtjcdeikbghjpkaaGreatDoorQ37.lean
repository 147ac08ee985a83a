/-
  The document's KindAt: And, If. (gen_reftyk.py)
-/
import Derived.Test.YtjcdeikbghjpkaaGreatDoorQ36
set_option maxRecDepth 100000
set_option maxHeartbeats 40000000
namespace Go.Proofs.YtjcdeikbghjpkaaGreatDoor
open Go.RowKit Go.Wk Go.Sort
theorem zs1{W wb w5:World}{A B C:Option Addr}(h:∀x,C=some x→w5.heap.size≤x.block∨(InB A x.block∨InB B x.block))(hA:∀a,A=some a→a.block<W.heap.size∨wb.heap.size≤a.block)(hB:∀a,B=some a→a.block<W.heap.size∨wb.heap.size≤a.block)(hz:wb.heap.size≤w5.heap.size)(a:Addr)(e:C=some a):a.block<W.heap.size∨wb.heap.size≤a.block:=by
 rcases h a e with h1|⟨x,e1,e2⟩|⟨x,e1,e2⟩
 ·exact .inr (Nat.le_trans hz h1)
 ·rw [←e2];exact hA x e1
 ·rw [←e2];exact hB x e1
theorem zsQ(W:World)(k:Kx)(N:Nat)(hW:KaC W k N)(n:Nd)(ps:Exs)(p:Nat)(FA:Option Addr)(fn fc:Nat)(L:List Ft)(w:World)(hCW:zfD W k)(h:zfD w k)(hb:Below W.heap.size W w)(hk:k.n≤4000)(hx:XAt k.P p false (.node n ps))(hN:ps.flat.length≤N)(hF:zdg W w FA fn fc L (ps.flat.length+1))(h11:n.op=11)(xa xb:Ex)(hps0:ps = .cons xa (.cons xb .nil)):
 Calls Tryz.prog 15 #[k.x.v,.slice k.A k.n k.c,.int .i64 p,.slice FA fn fc] w (zR (fun b=>b<W.heap.size) w (tyX k.x.t (.node n ps) (ftK L))):=by
 obtain⟨i0,hi,hz0',hz1,hz2'⟩:=info_parts zkB;have KPo:=hi9 (fun w' (hb':Below w.heap.size w w')=>zbA k.A k.n k.c k.P p false (.node n ps) w' (h.ns.keep hb') hk hx);have HSW:=hi9 hb.size;have HCX:=hi9 (fun w' (hb':Below w.heap.size w w')=>h.keep hb');have HFA:=hi9 (fun w' (hb':Below w.heap.size w w')=>hF.keep hb');have HBW:=hi9 (fun w' (hb':Below w.heap.size w w')=>hb.trans (hb'.mono hb.size));have HST0:=hi9 h.rs.ok;have HHX:=hi9 (show zad false n=true from hx.valid.1);have HPN:=hi9 (show(ps.len:Int)=zp n from hx.valid.2.1);have HPA:=hi9 (show zcB k.P (p+1) (zA n) ps from hx.parts);have HPF:=hi9 hF.len;have HCT:=hi9 (show∀a,k.x.a.NA=some a→a.block<W.heap.size from fun a e=>Nat.lt_of_lt_of_le (hCW.rs.ctx a e) hCW.rs.d);have HKB:=hi9 (show∀y∈k.x.s.K,∀a,y.NA=some a→a.block<W.heap.size from fun y hy a e=>Nat.lt_of_lt_of_le (hCW.rs.kds y hy a e) hCW.rs.d);have HLE:=hi9 (show p+1+ps.flat.length≤k.n from by
  have h1:=hx.le
  have h3:(Ex.node n ps).flat.length=ps.flat.length+1:=by simp [Ex.flat]
  rw [h.ns.len];omega)
 have HNS:=hi9 (show n.s.size≤maxLen from(h.ns.ok _ (List.mem_of_getElem? hx.head)).s);have hps:ps.len≤4000:=by
  have h2:=zam ps;have h1:=HLE.out;omega
 obtain⟨PL,hPL⟩:∃PL:List (Ex × zy),PL = [(xa,ftK L),(xb,ftK L ++ zeO xa)]:=⟨_,rfl⟩
 have HLL:=hi9 (show PL.length=ps.len from by rw [hPL,hps0];rfl);have hr:zA n=false:=decide_eq_false (by omega);have HPT:=hi9 (show∀(j:Nat) (hj:j<PL.length),∃q,(zaK (zA n) (p+1) ps)[j]?=some q∧XAt k.P q false PL[j].1∧PL[j].1.flat.length≤N∧PL[j].2=(if j=1 then ftK L ++ zeO xa else ftK L)∧(if j=1 then xa.flat.length else 0)+PL[j].1.flat.length≤ps.flat.length+1 from by
  intro j hj
  have hp:zcB k.P (p+1) (zA n) ps:=hx.parts
  rw [hr] at hp ⊢
  subst hPL
  subst hps0
  have hc:∀(i:Nat) (x:Ex),(Exs.cons xa (.cons xb .nil)).list[i]?=some x→∃q,(zaK false (p+1) (.cons xa (.cons xb .nil)))[i]?=some q∧XAt k.P q false x∧x.flat.length≤N:=fun i x e=>ziW hp hN (by rw [List.getElem?_map,e];exact congrArg some (ze7 _))
  have hfl:(Exs.cons xa (.cons xb .nil)).flat.length=xa.flat.length+xb.flat.length:=by simp [Exs.flat]
  match j,hj with
  | 0,_ =>
   obtain⟨q,z,h1,h2⟩:=hc 0 xa rfl
   exact⟨q,z,h1,h2,(if_neg (by decide)).symm,by rw [if_neg (by decide),hfl];show 0+xa.flat.length≤_;omega⟩
  | 1,_ =>
   obtain⟨q,z,h1,h2⟩:=hc 1 xb rfl
   exact⟨q,z,h1,h2,(if_pos rfl).symm,by rw [if_pos rfl,hfl];show xa.flat.length+xb.flat.length≤_;omega⟩)
 have HXA:=hi9 (show XAt k.P (p+1) false xa∧xa.flat.length≤N∧xa.flat.length≤ps.flat.length∧(zaK (zA n) (p+1) ps)[0]?=some (p+1) from by
  have hp:zcB k.P (p+1) (zA n) ps:=hx.parts
  rw [hr] at hp ⊢
  subst hps0
  have h1:=hp.head.1
  have h2:xa.flat.length≤(Exs.cons xa (.cons xb .nil)).flat.length:=by simp [Exs.flat]
  exact⟨h1,Nat.le_trans h2 hN,h2,rfl⟩)
 have HBEH:=hi9 (fun w' (hb':Below w.heap.size w w')=>zfe W k.A k.n k.c k.P hk hCW.ns _ xa (p+1) w' (hb.trans (hb'.mono hb.size)) HXA.out.1 (Nat.le_refl _));have HVA:=hi9 (show∀y∈PL,y.1.valid false from by
  intro y hy
  obtain⟨j,hj,rfl⟩:=List.getElem_of_mem hy
  obtain⟨q,-,xa,-⟩:=HPT.out j hj
  exact xa.valid)
 have KW:=hi9 (fun(x:Ex) (q:Nat) (FA':Option Addr) (fn' fc':Nat) (L':List Ft) (e:XAt k.P q false x) (l:x.flat.length≤N) w' (hb':Below w.heap.size w w') (hf:zdg W w' FA' fn' fc' L' x.flat.length)=>hW x q FA' fn' fc' L' w' (h.keep hb') (hb.trans (hb'.mono hb.size)) e l hf);unfold zR Rs.v at KW;obtain⟨a,ea,d0,d1,d2,d3⟩:=h.ns.at_ p n hx.head;have hpn:p<k.n:=by rw [h.ns.len];exact(List.getElem?_eq_some_iff.1 hx.head).1
 have hok:zcP n:=h.ns.ok _ (List.mem_of_getElem? hx.head);have B1':Below w.heap.size w (w.alloc (.cells #[.slice k.x.s.KA k.x.s.kn k.x.s.kc,.slice k.x.s.AA k.x.s.an k.x.s.ac,.string k.x.who,.string k.x.what,.int .i64 k.x.i] 52)):=za w _;have B2':Below w.heap.size w ((w.alloc (.cells #[.slice k.x.s.KA k.x.s.kn k.x.s.kc,.slice k.x.s.AA k.x.s.an k.x.s.ac,.string k.x.who,.string k.x.what,.int .i64 k.x.i] 52)).alloc (.cells #[.slice none 0 0,.int .i64 0] 30)):=B1'.trans ((za (w.alloc (.cells #[.slice k.x.s.KA k.x.s.kn k.x.s.kc,.slice k.x.s.AA k.x.s.an k.x.s.ac,.string k.x.who,.string k.x.what,.int .i64 k.x.i] 52)) _).mono B1'.size);have B0:=hi9 (show Below w.heap.size w (((w.alloc (.cells #[.slice k.x.s.KA k.x.s.kn k.x.s.kc,.slice k.x.s.AA k.x.s.an k.x.s.ac,.string k.x.who,.string k.x.what,.int .i64 k.x.i] 52)).alloc (.cells #[.slice none 0 0,.int .i64 0] 30)).alloc (.cells #[.int .i64 n.op,.int .i64 n.n,.string n.s,.string n.t] 41)) from B2'.trans ((za ((w.alloc (.cells #[.slice k.x.s.KA k.x.s.kn k.x.s.kc,.slice k.x.s.AA k.x.s.an k.x.s.ac,.string k.x.who,.string k.x.what,.int .i64 k.x.i] 52)).alloc (.cells #[.slice none 0 0,.int .i64 0] 30)) _).mono B2'.size));have hz2:((w.alloc (.cells #[.slice k.x.s.KA k.x.s.kn k.x.s.kc,.slice k.x.s.AA k.x.s.an k.x.s.ac,.string k.x.who,.string k.x.what,.int .i64 k.x.i] 52)).alloc (.cells #[.slice none 0 0,.int .i64 0] 30)).heap.size=w.heap.size+1+1:=by simp [go_sem]
 have V0:=hi9 (((zbf w k.x).keep (za _ (.cells #[.slice none 0 0,.int .i64 0] 30))).keep (za _ (.cells #[.int .i64 n.op,.int .i64 n.n,.string n.s,.string n.t] 41)));have X0:=zfj ((w.alloc (.cells #[.slice k.x.s.KA k.x.s.kn k.x.s.kc,.slice k.x.s.AA k.x.s.an k.x.s.ac,.string k.x.who,.string k.x.what,.int .i64 k.x.i] 52)).alloc (.cells #[.slice none 0 0,.int .i64 0] 30)) n 41;rw [hz2] at X0;have HX0:=hi9 X0;have R0:=hi9 ((zeH w (.cells #[.slice k.x.s.KA k.x.s.kn k.x.s.kc,.slice k.x.s.AA k.x.s.an k.x.s.ac,.string k.x.who,.string k.x.what,.int .i64 k.x.i] 52) 30).keep (za ((w.alloc (.cells #[.slice k.x.s.KA k.x.s.kn k.x.s.kc,.slice k.x.s.AA k.x.s.an k.x.s.ac,.string k.x.who,.string k.x.what,.int .i64 k.x.i] 52)).alloc (.cells #[.slice none 0 0,.int .i64 0] 30)) (.cells #[.int .i64 n.op,.int .i64 n.n,.string n.s,.string n.t] 41)));replace d0:=zb B2' d0;replace d1:=zb B2' d1;replace d2:=zb B2' d2;replace d3:=zb B2' d3;obtain⟨rr,hrr⟩:∃rr,rr=tyX k.x.t (.node n ps) (ftK L):=⟨_,rfl⟩
 have HEV:=hi9 (show tyX k.x.t (.node n ps) (ftK L)=(match tyM k.x.t PL with
  | .error e => .error e
  | .ok M=>if M.all (zj [41])=true then .ok (.base 41) else .error 2) from by rw [hPL,hps0];exact zrl h11 (zkn xa (ftK L)))
 have H11:=hi9 h11;have g11:(n.op==11)=true:=beq_iff_eq.2 h11;have g6:(n.op==6)=false:=beq_eq_false_iff_ne.2 (by omega);have g8:(n.op==8)=false:=beq_eq_false_iff_ne.2 (by omega);have g4:(n.op==4)=false:=beq_eq_false_iff_ne.2 (by omega);have g5:(n.op==5)=false:=beq_eq_false_iff_ne.2 (by omega);have g13:(n.op==13)=false:=beq_eq_false_iff_ne.2 (by omega);have g22:(n.op==22)=false:=beq_eq_false_iff_ne.2 (by omega);rw [←hrr] at HEV ⊢;rw [ea] at KPo KW;rw [ea];have HEA:=hi9 ea;unfold Rs.v;unfold Rs.o at V0;dsimp only [Ex.parts,Ex.head] at KPo;clear h hx hok hrr hb hW X0 hN hCW hF B1' B2' hz2;clear h11 hps0 hr;go_enter Tryz.func15,Tryz.ntmps15;go_wp2_with fail;refine(KPo.out _ B0.out).mono ?_;rintro e w1 ⟨A',c',rfl,hc',hI,hIF,b1⟩;have B1:=bh B0 b1;have V1:=hi9 (V0.out.keep b1);have R1:=hi9 (R0.out.keep b1);have X1:=hi9 (HX0.out.keep b1);have HI1:=hi9 hI;have HIF:=hi9 (show∀a,A'=some a→w.heap.size+1<a.block from fun a e=>by
  have h1:=hIF a e
  have h2:w.heap.size+1<(((w.alloc (.cells #[.slice k.x.s.KA k.x.s.kn k.x.s.kc,.slice k.x.s.AA k.x.s.an k.x.s.ac,.string k.x.who,.string k.x.what,.int .i64 k.x.i] 52)).alloc (.cells #[.slice none 0 0,.int .i64 0] 30)).alloc (.cells #[.int .i64 n.op,.int .i64 n.n,.string n.s,.string n.t] 41)).heap.size:=block_lt_of_cell R0.out.c0
  omega)
 clear hI hIF b1 B0 V0 R0 HX0 KPo d0 d1 d2 d3;obtain⟨x0,x1,x2,x3⟩:=X1.out;obtain⟨pl,hpl⟩:∃pl,pl=ps.len:=⟨_,rfl⟩
 obtain⟨m,hm⟩:∃m,m=pl+1:=⟨_,rfl⟩
 have HPL:=hi9 hpl;rw [←hpl] at hps hc' ⊢;rw [←hm] at hc' ⊢;have HCM:=hi9 hc';have hmm:(m:Int)-1=(pl:Int):=by omega
 have hm4:m≤4001:=by omega
 have HM:=hi9 hm;have HLL2:=hi9 (show PL.length=pl by rw [hpl];exact HLL.out);clear hpl hm HLL hc';go_wp2_with fail;refine(jV _ _ _ _).mono ?_;rintro e w2 ⟨rfl,b2⟩;have bl:=za w1 (.cells #[.int .i64 46,.int .i64 n.n,.string ⟨#[]⟩,.string ⟨#[]⟩] 41);have b12:=bl.trans (b2.mono bl.size);have B2:=bh B1 b12;have V2:=hi9 (V1.out.keep b12);have R2:=hi9 (R1.out.keep b12);have X2:=hi9 (X1.out.keep b12);have HI2:=hi9 (HI1.out.keep b12);clear bl b12 b2 B1 V1 R1 X1 HI1 x0 x1 x2 x3;obtain⟨x0,x1,x2,x3⟩:=X2.out;go_wp2_with fail;have bo:=za w2 (.cells #[.slice (some ⟨w1.heap.size,0,none⟩) 1 1,.int .i64 0] 30);have Bb:=bh B2 bo;have Vb:=hi9 (V2.out.keep bo);have Rb:=hi9 (R2.out.keep bo);have Xb:=hi9 (X2.out.keep bo);have HI:=hi9 (HI2.out.keep bo);obtain⟨wb,hwb⟩:∃wb,w2.alloc (.cells #[.slice (some ⟨w1.heap.size,0,none⟩) 1 1,.int .i64 0] 30)=wb:=⟨_,rfl⟩
 rw [hwb] at Bb Vb Rb Xb HI ⊢;clear bo hwb B2 V2 R2 X2 HI2 x0 x1 x2 x3;obtain⟨x0,x1,x2,x3⟩:=Xb.out;have G0:=hi9 (zbI.nil wb wb.heap.size);have HRb:=hi9 (show w.heap.size+1<wb.heap.size from block_lt_of_cell Rb.out.c0);have HWW:=hi9 (show w.heap.size≤wb.heap.size from Bb.out.size);go_loopw [11,13] (fun v i wr=>∃(j:Nat) (Vs:List Sl) (Ks:List Kd) (A8:Option Addr) (c8:Nat),i = .int .i64 j∧j≤pl∧v = .slice A8 j c8∧Vs.length=j∧Hid (tyM k.x.t (PL.take j)= .ok Ks)∧Hid (jX Vs Ks)∧Hid (zbI wr wb.heap.size v Vs)∧Hid (∀r∈Vs,∀a,r.A=some a→a.block<W.heap.size∨wb.heap.size≤a.block)∧Hid (Below wb.heap.size wb wr)) (fun _ i _=>pl-(intOf i).toNat)
 case atStart=>exact⟨0,[],[],none,0,rfl,Nat.zero_le _,rfl,rfl,hi9 rfl,hi9 zgv,G0,hi9 (by intro r hr;cases hr),hi9 (Below.refl _ _)⟩
 case round =>
  clear G0;obtain⟨j,Vs,Ks,A8,c8,rfl,hj,rfl,hVl,hE,hKA,hG,hF,hB⟩:=hrel;obtain⟨w3,rfl⟩:∃w3:World,w3=wr:=⟨_,rfl⟩
  have B3:=bh Bb hB.out;have R3:=hi9 (Rb.out.keep hB.out);have X3:=hi9 (Xb.out.keep hB.out);clear x0 x1 x2 x3;obtain⟨x0,x1,x2,x3⟩:=X3.out;by_cases hlt:j<pl
  ·have hjl:j<PL.length:=by rw [HLL2.out];exact hlt
   obtain⟨q,e1,hqx,hql,hq2,hqn⟩:=HPT.out j hjl;obtain⟨a',ea',qc⟩:=(HI.out.keep hB.out) j q e1;have HST:=zfz hjl hE.out;have V3:=hi9 (⟨Vb.out.keep hB.out,qc⟩:Vxi w3 w.heap.size k.x (a'.add j) (q:Int));have HFX:=hi9 (show(tyE (tyX k.x.t PL[j].1 PL[j].2)≠0→rr=tyX k.x.t PL[j].1 PL[j].2)∧(tyE (tyX k.x.t PL[j].1 PL[j].2)=0→∃kk,tyX k.x.t PL[j].1 PL[j].2 = .ok kk∧KOk kk∧tyM k.x.t (PL.take (j+1))= .ok (Ks ++ [kk])) from by
    have h1:=zdW k.x.t PL[j].1 false PL[j].2 hqx.valid
    have h2:=zc2 HST0.out PL[j].1 false PL[j].2 hqx.valid
    rcases qx:tyX k.x.t PL[j].1 PL[j].2 with u|kk
    ·exact⟨fun _=>by rw [HEV.out,HST.2 u qx],fun h0=>absurd (by rw [qx];exact congrArg Except.error h0) h1⟩
    ·rw [qx] at h2
     exact⟨fun h0=>absurd rfl h0,fun _=>⟨kk,rfl,h2,HST.1 kk qx⟩⟩)
   have hjm:(j:Int)<(m:Int):=by omega
   have hjm':j<m:=by have:=HM.out;omega
   by_cases hj1:j=1
   ·have f1:((j:Int)==1)=true:=beq_iff_eq.2 (by omega);rw [if_pos hj1] at hq2 hqn;have KW1:=hi9 (fun(FA':Option Addr) (fn' fc':Nat) (L':List Ft) w' (hb':Below w.heap.size w w') (hf:zdg W w' FA' fn' fc' L' PL[j].1.flat.length)=>KW.out PL[j].1 q FA' fn' fc' L' hqx hql w' hb' hf);have HLN:=hi9 hqn;have HQ2:=hi9 hq2;obtain⟨pa,epa,i0'⟩:=(HI.out.keep hB.out) 0 (p+1) HXA.out.2.2.2;have hpa:=Option.some.inj (ea'.symm.trans epa);subst hpa;rw [show a'.add 0=a' from rfl] at i0';have IB:=hi9 (fun w' (hb':Below w3.heap.size w3 w')=>HBEH.out w' (bh B3 hb').out);rw [HEA.out] at IB;have FK:=hi9 (fun w' (hb':Below w3.heap.size w3 w')=>(HFA.out w' (bh B3 hb').out).at_);have ZN:=hi9 (HFA.out w (Below.refl _ _)).nil;have HFW:=hi9 (HFA.out w (Below.refl _ _)).ok;have hpf:=HPF.out;have HL8:=hi9 (show L.length≤8000 by omega);have HZ0:=hi9 (zbr (HFA.out w (Below.refl _ _)).at_ (Nat.le_refl _) HL8.out);have HB9:=hi9 (show xa.flat.length≤8000 by have:=HXA.out.2.2.1;omega);have hm0:(0:Int)<(m:Int):=by omega
    have hm00:0<m:=by omega
    obtain⟨s0,hs0⟩:∃s0,s0=p+1:=⟨_,rfl⟩
    rw [←hs0] at i0' IB;have KK:∀w':World,Below w3.heap.size w3 w'→w'.cell? a'=some (.int .i64 ((s0:Nat):Int)):=fun w' hb'=>zb hb' i0';have PX:=hi9 (zU w3);have PY:=hi9 (show Below w3.heap.size w3 (w3.alloc (.cells #[] 111)).drew from(za w3 _).trans ((zU _).mono (za w3 _).size));generalize PL[j]=y at *;clear hs0 HST e1 hqx hql hq2 hqn qc hpf epa hj1;subst ea';go_wp2_with fail;go_region_held3 (fun w':World=>w'.cell? a'=some (.int .i64 ((s0:Nat):Int))) (first|(with_reducible exact KK _ PX.out)|(with_reducible exact KK _ (bhA PX (.cells #[] 111)).out)|(with_reducible exact KK _ PY.out)) (first
     |(go_at_call 29;(with_reducible refine(IB.out _ PX.out).mono ?_);rintro e w9 ⟨A9,n9,c9,L9,rfl,F9,W9,K9,l9,z9,b9⟩;have hs9:=zbj F9 l9 (Nat.le_refl L.length) HB9.out HL8.out;have PX:=bh PX b9;(try have O6:=O6.keep b9))
     |(go_at_call 29;(with_reducible refine(IB.out _ (bhA PX (.cells #[] 111)).out).mono ?_);rintro e w9 ⟨A9,n9,c9,L9,rfl,F9,W9,K9,l9,z9,b9⟩;have hs9:=zbj F9 l9 (Nat.le_refl L.length) HB9.out HL8.out;have PX:=bh (bhA PX (.cells #[] 111)) b9)
     |(go_at_call 29;(with_reducible refine(IB.out _ PY.out).mono ?_);rintro e w9 ⟨A9,n9,c9,L9,rfl,F9,W9,K9,l9,z9,b9⟩;have hs9:=zbj F9 l9 (Nat.le_refl L.length) HB9.out HL8.out;have PX:=bh PY b9)
     |((with_reducible refine zkN rfl (.tmp 52) (.tmp 57) ?_ w3.heap.size _ L A9 n9 c9 L9 ?_ ?_ O6 F9 z9 hs9 PX.out.size ?_);(all_goals try rfl);intro v12 w3 O12 b12;have PX:=hi9 (PX.out.trans b12))
     |((with_reducible refine zbJ rfl (.tmp 50) (.tmp 51) ?_ w3.heap.size ?_ FA fn fc L ?_ ?_ (FK.out _ PX.out) ZN.out HZ0.out PX.out.size ?_);(all_goals try rfl);intro v6 w6 O6 b6;(try have F9:=F9.keep b6);have PX:=bh PX b6)
     |((with_reducible refine zbJ rfl (.tmp 50) (.tmp 51) ?_ w3.heap.size ?_ FA fn fc L ?_ ?_ (FK.out _ (bhA PX (.cells #[] 111)).out) ZN.out HZ0.out (bhA PX (.cells #[] 111)).out.size ?_);(all_goals try rfl);intro v6 w6 O6 b6;(try have F9:=(F9.keep (zbn PX (.cells #[] 111))).keep b6);have PX:=bh (bhA PX (.cells #[] 111)) b6)
     |((with_reducible refine zbJ rfl (.tmp 50) (.tmp 51) ?_ w3.heap.size ?_ FA fn fc L ?_ ?_ (FK.out _ PY.out) ZN.out HZ0.out PY.out.size ?_);(all_goals try rfl);intro v6 w6 O6 b6;have PX:=bh PY b6)
     | fail)
    all_goals
     have hB:=hi9 (hB.out.trans (PX.out.mono hB.out.size));have hG:=hi9 (hG.out.keep PX.out);have B3:=bh B3 PX.out;have V3:=hi9 (V3.out.keep PX.out);have R3:=hi9 (R3.out.keep PX.out);have X3:=hi9 (X3.out.keep PX.out);have hWL:∀z∈L ++ L9,zhi W z:=fun z hz=>(List.mem_append.1 hz).elim (HFW.out z) (W9 z);have hln:=HLN.out;have hpf:=HPF.out;obtain⟨A10,n10,c10,rfl,F10,z10⟩:=O12.fts (fun z hz=>(hWL z hz).keep (HBW.out _ B3.out)) (by have h1:=HXA.out.2.2.1;rw [List.length_append];unfold maxLen;omega);have HFO:=hi9 (⟨F10,z10,by rw [List.length_append];omega,hWL⟩:zdg W _ A10 n10 c10 (L ++ L9) y.1.flat.length);have heq:ftK (L ++ L9)=y.2:=by rw [HQ2.out,←K9];unfold ftK;rw [List.map_append]
     have KX:=hi9 (fun w' (hb':Below w3.heap.size w3 w')=>KW1.out A10 n10 c10 (L ++ L9) w' (bh B3 hb').out (HFO.out.keep hb'));rw [heq] at KX;generalize tyX k.x.t y.1 y.2=rx at *;clear x0 x1 x2 x3 i0' KK PX PY IB FK HFO heq F10 z10 hWL hln hpf O12 F9 W9 K9 l9 z9 b9 b12 O6 b6 hs9;obtain⟨x0,x1,x2,x3⟩:=X3.out;go_wp2_with fail;have bd:=zU w3;have bx:RowKit.Below w3.heap.size w3 (w3.alloc (.cells #[.slice none 0 0,.int .i64 0] 30)).drew:=(za w3 _).trans ((zU _).mono (za w3 _).size);have Vd:=hi9 (V3.out.keep bd);have Vx:=hi9 (V3.out.keep bx);have Bd:=bh B3 bd;have Bx:=bh B3 bx;have Qd:=hi9 bd;have Qx:=hi9 bx;have Rd:=hi9 (R3.out.keep bd);have Rx:=hi9 (R3.out.keep bx);have Cx:=hi9 ((zQ w3 (.slice none 0 0) (.int .i64 0) 30).keep (zU _));have K0:=hi9 (KX.out w3.drew Qd.out);have K1:=hi9 (KX.out (w3.alloc (.cells #[.slice none 0 0,.int .i64 0] 30)).drew Qx.out);have hzx:(w3.alloc (.cells #[.slice none 0 0,.int .i64 0] 30)).drew.heap.size=w3.heap.size+1:=by simp [go_sem]
     have HZX:=hi9 hzx;have hrb:w.heap.size+1<w3.heap.size:=block_lt_of_cell R3.out.c0;have HRB3:=hi9 hrb;have hpb:((a'.add j):Addr).block<w3.heap.size:=block_lt_of_cell V3.out.i;have hn1:w.heap.size≠w3.heap.size:=by omega
     have hn2:((a'.add j):Addr).block≠w3.heap.size:=Nat.ne_of_lt hpb;clear bd bx hzx;go_region_held3 (fun w':World=>w'.cell? ⟨w.heap.size,0,none⟩=some (.slice k.x.s.KA k.x.s.kn k.x.s.kc)∧w'.cell? ⟨w.heap.size,1,none⟩=some (.slice k.x.s.AA k.x.s.an k.x.s.ac)∧w'.cell? ⟨w.heap.size,2,none⟩=some (.string k.x.who)∧w'.cell? ⟨w.heap.size,3,none⟩=some (.string k.x.what)∧w'.cell? ⟨w.heap.size,4,none⟩=some (.int .i64 k.x.i)∧w'.cell? (a'.add j)=some (.int .i64 (q:Int))) (first|(with_reducible exact zL Vs.out)|(with_reducible exact zL Vz.out)|(with_reducible exact zL Vy.out)|(with_reducible exact zL V4.out)|(with_reducible exact zL Vx.out)|(with_reducible exact zL Vd.out)|(with_reducible exact zL V3.out)) (first
      |(go_at_call 15;(with_reducible refine K1.out.mono ?_);rintro e w4 ⟨A5,n5,c5,rfl,hN,hf,b4⟩;have N4:=hi9 hN;have F4:=hi9 hf;have B4:=bh Bx b4;have Q4:=bh Qx b4;have V4:=hi9 (Vx.out.keep b4);have R4:=hi9 (Rx.out.keep b4);have C4:=hi9 (Cx.out.keep b4);have Vs:=hi9 (V4.out.but (jH w4 w3.heap.size (.slice A5 n5 c5) (.int .i64 (tyE rx))) hn1 hn2);obtain⟨y0,y1,y2,y3⟩:=C4.out)
      |(go_at_call 15;(with_reducible refine K0.out.mono ?_);rintro e w4 ⟨A5,n5,c5,rfl,hN,hf,b4⟩;have N4:=hi9 hN;have F4:=hi9 hf;have B4:=bh Bd b4;have Q4:=bh Qd b4;have V4:=hi9 (Vd.out.keep b4);have R4:=hi9 (Rd.out.keep b4);have Vy:=hi9 (V4.out.keep (za w4 (.cells #[.slice none 0 0,.int .i64 0] 30)));have Vz:=hi9 (V4.out.keep (za w4 (.cells #[.slice A5 n5 c5,.int .i64 (tyE rx)] 30)))))
     focus
      have bz:=za w4 (.cells #[.slice A5 n5 c5,.int .i64 (tyE rx)] 30);have B5:=bh B4 bz;have V5:=hi9 (V4.out.keep bz);have R5:=hi9 (R4.out.keep bz);have C5:=hi9 (zQ w4 (.slice A5 n5 c5) (.int .i64 (tyE rx)) 30);have N5:=hi9 (N4.out.keep bz);have hwj:w3.heap.size≤w4.heap.size:=Q4.out.size;have HC5:=hi9 (show w3.heap.size≤w4.heap.size from hwj);have F5:=hi9 (show∀a,A5=some a→(a.block<W.heap.size∨w3.heap.size≤a.block) from fun a e=>(F4.out a e).imp id (fun q=>by simpa [go_sem] using q));have Q5:=bh Q4 bz;obtain⟨cb5,hcb⟩:∃cb,w4.heap.size=cb:=⟨_,rfl⟩
      obtain⟨w5,hw5⟩:∃w2,(w4.alloc (.cells #[.slice A5 n5 c5,.int .i64 (tyE rx)] 30))=w2:=⟨_,rfl⟩
      rw [hw5] at B5 V5 R5 C5 N5 Q5 ⊢;rw [hcb] at C5 HC5 ⊢;clear bz hw5 hcb hwj Vy Vz
     rotate_left
     focus
      have hg:=jH w4 w3.heap.size (.slice A5 n5 c5) (.int .i64 (tyE rx));have hsz0:w.heap.size≤w3.heap.size:=B3.out.size;have B5:=hi9 (jy B4.out hsz0 (.slice A5 n5 c5) (.int .i64 (tyE rx)));have V5:=Vs;have R5:=hi9 (R4.out.but hg (fun e=>by injection e with e;omega));have C5:=hi9 (C4.out.set (.slice A5 n5 c5) (.int .i64 (tyE rx)));have HC5:=hi9 (Nat.le_refl w3.heap.size);have N5:=hi9 (N4.out.but hg (fun _ a e q=>by rcases F4.out a e with h1|h1 <;>(have:=HSW.out;have:=HZX.out;omega)));have F5:=hi9 (show∀a,A5=some a→(a.block<W.heap.size∨w3.heap.size≤a.block) from fun a e=>(F4.out a e).imp id (fun q=>by have:=HZX.out;omega));have Q5:=hi9 (jy Q4.out (Nat.le_refl _) (.slice A5 n5 c5) (.int .i64 (tyE rx)));obtain⟨cb5,hcb⟩:∃cb,w3.heap.size=cb:=⟨_,rfl⟩
      obtain⟨w5,hw5⟩:∃w2,((w4.setCell ⟨w3.heap.size,0,none⟩ (.slice A5 n5 c5)).setCell ⟨w3.heap.size,1,none⟩ (.int .i64 (tyE rx)))=w2:=⟨_,rfl⟩
      rw [hw5] at B5 V5 R5 C5 N5 Q5 ⊢;rw [hcb] at C5 ⊢;replace HC5:=hi9 (show w3.heap.size≤cb5 from Nat.le_of_eq hcb);clear hg hw5 hcb hsz0 Vs y0 y1 y2 y3 C4
     rotate_left
     all_goals
      clear V4 B4 R4 N4 F4 Q4 Vd Vx Bd Bx Rd Rx Cx K0 K1 HZX hrb hpb hn1 hn2 b4 hN hf V3 B3 R3 Qd Qx;by_cases hu:tyE rx=0
      case neg =>
       have hf:(tyE rx != 0)=true:=by simpa using hu
       obtain⟨y0,y1,y2,y3⟩:=C5.out;have FX:=hi9 (show∀a,A5=some a→(a.block<W.heap.size∨w.heap.size≤a.block)∧a.block≠w.heap.size+1 from fun a e=>by
        have h2:w.heap.size+1<w3.heap.size:=HRB3.out
        have h3:=HSW.out
        rcases F5.out a e with h1|h1
        ·exact⟨.inl h1,by omega⟩
        ·exact⟨.inr (by omega),by omega⟩)
       have RS:=R5.out.set (.slice A5 n5 c5) (.int .i64 (tyE rx));obtain⟨s0,s1,-,-⟩:=RS;have GF:=hi9 (zq (S:=fun b=>b<W.heap.size) (r:=rx) N5.out FX.out B5.out (show w.heap.size≤w.heap.size+1 by omega));obtain⟨r0,r1,z0,z1⟩:=R5.out;go_wp2_with fail;exact bodyPost_ret (v := .agg #[.slice A5 n5 c5,.int .i64 (tyE rx)]) (by simp [results,Tryz.results15,go_sem,s0,s1]) rfl (by rw [HFX.out.1 hu];exact GF.out)
      obtain⟨kk,rfl,hkk,hst⟩:=HFX.out.2 hu;have HKK:=hi9 hkk;have HE6:=hi9 hst;have HST2:=HE6;replace C5:=hi9 (show Vr2 w5 cb5 (.slice A5 n5 c5) (.int .i64 0) from C5.out);replace N5:=hi9 (show Ns w5 A5 n5 c5 kk.flat from N5.out);clear hu hkk hst HFX x0 x1 x2 x3;obtain⟨x0,x1,x2,x3⟩:=X3.out.keep Q5.out;obtain⟨y0,y1,y2,y3⟩:=C5.out;have hgl:∀g,(Value.slice A8 j c8).ownBlock=some g→wb.heap.size≤g∧g<w3.heap.size:=zbt hG.out.own;have G5:=hi9 (hG.out.keep Q5.out);have AP:=hi9 (show za3 ⟨A5,n5,c5,kk.flat⟩ (Value.slice A8 j c8).ownBlock from fun _ a e q=>by
       have h1:=hgl _ q
       have h2:=HRb.out
       have h3:=HSW.out
       have h4:=HWW.out
       rcases F5.out a e with h4|h4 <;> omega)
      have FN:=hi9 (show∀a,A5=some a→a.block<W.heap.size∨wb.heap.size≤a.block from fun a e=>(F5.out a e).imp id (fun q=>Nat.le_trans hB.out.size q));have HB5:=hi9 (hB.out.trans (Q5.out.mono hB.out.size));have hsz5:=HB5.out.size;have hvl4:Vs.length≤4000:=by omega
      clear hgl;go_wp2_with (at_builtin;go_loud (refine wpList_append_own_at _ rfl _ _ 69 rfl wb.heap.size 30 i0 _ 2 32 Tryz.underlying69 hi hz0' hz1 hz2' rfl (by decide) (.slice A8 j c8) Vs.length (zaw Vs) rfl (G5.out.own.alloc _) ⟨_,0,none⟩ 1 1 [.slice A5 n5 c5,.int .i64 0] rfl rfl (zV _ _ _) (by intro u hu;simp only [List.mem_cons,List.not_mem_nil,or_false] at hu;rcases hu with rfl|rfl <;> rfl) ?c1 ?c2 ?c3 ?_))
      case c1=>unfold maxLen;omega
      case c2=>omega
      case c3=>simp;omega
      intro v1 w6 hown hgrow _ hat;have G6:=hi9 (G5.out.snoc (r:=⟨A5,n5,c5,kk.flat⟩) N5.out AP.out (by rw [hVl];exact hown) hgrow (by simpa using hat));have HB6:=hi9 ((HB5.out.alloc HB5.out.size _).grown hgrow (by simp;omega) (zD G5.out.own));obtain⟨A9,c9,e9,-⟩:=G6.out.at
      subst e9;have hl9:(Vs ++ [(⟨A5,n5,c5,kk.flat⟩:Sl)]).length=j+1:=by simp [hVl]
      have KA6:=hi9 (hKA.out.snoc (r:=⟨A5,n5,c5,kk.flat⟩) (k:=kk) rfl HKK.out.1);have HF6:=hi9 (show∀r∈Vs ++ [(⟨A5,n5,c5,kk.flat⟩:Sl)],∀a,r.A=some a→a.block<W.heap.size∨wb.heap.size≤a.block from fun r hr=>by
       rcases List.mem_append.1 hr with h1|h1
       ·exact hF.out r h1
       ·simp only [List.mem_cons,List.not_mem_nil,or_false] at h1
        subst h1
        exact FN.out)
      rw [hl9] at G6 ⊢;clear hown hgrow hat AP FN hG hF hE hB HB5 G5 N5 C5 y0 y1 y2 y3 B5 V5 R5 F5 HC5 Q5 HST2 KX hsz5 hKA;go_wp2_with fail;go_roundw
      case rel=>exact⟨j+1,_,Ks ++ [kk],A9,c9,by go_num,by omega,rfl,hl9,HE6,KA6,G6,HF6,HB6⟩
      case measure=>simp [intOf];omega
   ·have f1:((j:Int)==1)=false:=beq_eq_false_iff_ne.2 (by omega);rw [if_neg hj1] at hq2 hqn;have KX:=hi9 (fun w' (hb':Below w3.heap.size w3 w')=>KW.out PL[j].1 q FA fn fc L hqx hql w' (bh B3 hb').out ((HFA.out w' (bh B3 hb').out).less (by omega)));rw [←hq2] at KX;generalize tyX k.x.t PL[j].1 PL[j].2=rx at *;clear HST e1 hqx hql hq2 hqn qc hj1;subst ea';go_wp2_with fail;have bd:=zU w3;have bx:RowKit.Below w3.heap.size w3 (w3.alloc (.cells #[.slice none 0 0,.int .i64 0] 30)).drew:=(za w3 _).trans ((zU _).mono (za w3 _).size);have Vd:=hi9 (V3.out.keep bd);have Vx:=hi9 (V3.out.keep bx);have Bd:=bh B3 bd;have Bx:=bh B3 bx;have Qd:=hi9 bd;have Qx:=hi9 bx;have Rd:=hi9 (R3.out.keep bd);have Rx:=hi9 (R3.out.keep bx);have Cx:=hi9 ((zQ w3 (.slice none 0 0) (.int .i64 0) 30).keep (zU _));have K0:=hi9 (KX.out w3.drew Qd.out);have K1:=hi9 (KX.out (w3.alloc (.cells #[.slice none 0 0,.int .i64 0] 30)).drew Qx.out);have hzx:(w3.alloc (.cells #[.slice none 0 0,.int .i64 0] 30)).drew.heap.size=w3.heap.size+1:=by simp [go_sem]
    have HZX:=hi9 hzx;have hrb:w.heap.size+1<w3.heap.size:=block_lt_of_cell R3.out.c0;have HRB3:=hi9 hrb;have hpb:((a'.add j):Addr).block<w3.heap.size:=block_lt_of_cell V3.out.i;have hn1:w.heap.size≠w3.heap.size:=by omega
    have hn2:((a'.add j):Addr).block≠w3.heap.size:=Nat.ne_of_lt hpb;clear bd bx hzx;go_region_held3 (fun w':World=>w'.cell? ⟨w.heap.size,0,none⟩=some (.slice k.x.s.KA k.x.s.kn k.x.s.kc)∧w'.cell? ⟨w.heap.size,1,none⟩=some (.slice k.x.s.AA k.x.s.an k.x.s.ac)∧w'.cell? ⟨w.heap.size,2,none⟩=some (.string k.x.who)∧w'.cell? ⟨w.heap.size,3,none⟩=some (.string k.x.what)∧w'.cell? ⟨w.heap.size,4,none⟩=some (.int .i64 k.x.i)∧w'.cell? (a'.add j)=some (.int .i64 (q:Int))) (first|(with_reducible exact zL Vs.out)|(with_reducible exact zL Vz.out)|(with_reducible exact zL Vy.out)|(with_reducible exact zL V4.out)|(with_reducible exact zL Vx.out)|(with_reducible exact zL Vd.out)|(with_reducible exact zL V3.out)) (first
     |(go_at_call 15;(with_reducible refine K1.out.mono ?_);rintro e w4 ⟨A5,n5,c5,rfl,hN,hf,b4⟩;have N4:=hi9 hN;have F4:=hi9 hf;have B4:=bh Bx b4;have Q4:=bh Qx b4;have V4:=hi9 (Vx.out.keep b4);have R4:=hi9 (Rx.out.keep b4);have C4:=hi9 (Cx.out.keep b4);have Vs:=hi9 (V4.out.but (jH w4 w3.heap.size (.slice A5 n5 c5) (.int .i64 (tyE rx))) hn1 hn2);obtain⟨y0,y1,y2,y3⟩:=C4.out)
     |(go_at_call 15;(with_reducible refine K0.out.mono ?_);rintro e w4 ⟨A5,n5,c5,rfl,hN,hf,b4⟩;have N4:=hi9 hN;have F4:=hi9 hf;have B4:=bh Bd b4;have Q4:=bh Qd b4;have V4:=hi9 (Vd.out.keep b4);have R4:=hi9 (Rd.out.keep b4);have Vy:=hi9 (V4.out.keep (za w4 (.cells #[.slice none 0 0,.int .i64 0] 30)));have Vz:=hi9 (V4.out.keep (za w4 (.cells #[.slice A5 n5 c5,.int .i64 (tyE rx)] 30)))))
    focus
     have bz:=za w4 (.cells #[.slice A5 n5 c5,.int .i64 (tyE rx)] 30);have B5:=bh B4 bz;have V5:=hi9 (V4.out.keep bz);have R5:=hi9 (R4.out.keep bz);have C5:=hi9 (zQ w4 (.slice A5 n5 c5) (.int .i64 (tyE rx)) 30);have N5:=hi9 (N4.out.keep bz);have hwj:w3.heap.size≤w4.heap.size:=Q4.out.size;have HC5:=hi9 (show w3.heap.size≤w4.heap.size from hwj);have F5:=hi9 (show∀a,A5=some a→(a.block<W.heap.size∨w3.heap.size≤a.block) from fun a e=>(F4.out a e).imp id (fun q=>by simpa [go_sem] using q));have Q5:=bh Q4 bz;obtain⟨cb5,hcb⟩:∃cb,w4.heap.size=cb:=⟨_,rfl⟩
     obtain⟨w5,hw5⟩:∃w2,(w4.alloc (.cells #[.slice A5 n5 c5,.int .i64 (tyE rx)] 30))=w2:=⟨_,rfl⟩
     rw [hw5] at B5 V5 R5 C5 N5 Q5 ⊢;rw [hcb] at C5 HC5 ⊢;clear bz hw5 hcb hwj Vy Vz
    rotate_left
    focus
     have hg:=jH w4 w3.heap.size (.slice A5 n5 c5) (.int .i64 (tyE rx));have hsz0:w.heap.size≤w3.heap.size:=B3.out.size;have B5:=hi9 (jy B4.out hsz0 (.slice A5 n5 c5) (.int .i64 (tyE rx)));have V5:=Vs;have R5:=hi9 (R4.out.but hg (fun e=>by injection e with e;omega));have C5:=hi9 (C4.out.set (.slice A5 n5 c5) (.int .i64 (tyE rx)));have HC5:=hi9 (Nat.le_refl w3.heap.size);have N5:=hi9 (N4.out.but hg (fun _ a e q=>by rcases F4.out a e with h1|h1 <;>(have:=HSW.out;have:=HZX.out;omega)));have F5:=hi9 (show∀a,A5=some a→(a.block<W.heap.size∨w3.heap.size≤a.block) from fun a e=>(F4.out a e).imp id (fun q=>by have:=HZX.out;omega));have Q5:=hi9 (jy Q4.out (Nat.le_refl _) (.slice A5 n5 c5) (.int .i64 (tyE rx)));obtain⟨cb5,hcb⟩:∃cb,w3.heap.size=cb:=⟨_,rfl⟩
     obtain⟨w5,hw5⟩:∃w2,((w4.setCell ⟨w3.heap.size,0,none⟩ (.slice A5 n5 c5)).setCell ⟨w3.heap.size,1,none⟩ (.int .i64 (tyE rx)))=w2:=⟨_,rfl⟩
     rw [hw5] at B5 V5 R5 C5 N5 Q5 ⊢;rw [hcb] at C5 ⊢;replace HC5:=hi9 (show w3.heap.size≤cb5 from Nat.le_of_eq hcb);clear hg hw5 hcb hsz0 Vs y0 y1 y2 y3 C4
    rotate_left
    all_goals
     clear V4 B4 R4 N4 F4 Q4 Vd Vx Bd Bx Rd Rx Cx K0 K1 HZX hrb hpb hn1 hn2 b4 hN hf V3 B3 R3 Qd Qx;by_cases hu:tyE rx=0
     case neg =>
      have hf:(tyE rx != 0)=true:=by simpa using hu
      obtain⟨y0,y1,y2,y3⟩:=C5.out;have FX:=hi9 (show∀a,A5=some a→(a.block<W.heap.size∨w.heap.size≤a.block)∧a.block≠w.heap.size+1 from fun a e=>by
       have h2:w.heap.size+1<w3.heap.size:=HRB3.out
       have h3:=HSW.out
       rcases F5.out a e with h1|h1
       ·exact⟨.inl h1,by omega⟩
       ·exact⟨.inr (by omega),by omega⟩)
      have RS:=R5.out.set (.slice A5 n5 c5) (.int .i64 (tyE rx));obtain⟨s0,s1,-,-⟩:=RS;have GF:=hi9 (zq (S:=fun b=>b<W.heap.size) (r:=rx) N5.out FX.out B5.out (show w.heap.size≤w.heap.size+1 by omega));obtain⟨r0,r1,z0,z1⟩:=R5.out;go_wp2_with fail;exact bodyPost_ret (v := .agg #[.slice A5 n5 c5,.int .i64 (tyE rx)]) (by simp [results,Tryz.results15,go_sem,s0,s1]) rfl (by rw [HFX.out.1 hu];exact GF.out)
     obtain⟨kk,rfl,hkk,hst⟩:=HFX.out.2 hu;have HKK:=hi9 hkk;have HE6:=hi9 hst;have HST2:=HE6;replace C5:=hi9 (show Vr2 w5 cb5 (.slice A5 n5 c5) (.int .i64 0) from C5.out);replace N5:=hi9 (show Ns w5 A5 n5 c5 kk.flat from N5.out);clear hu hkk hst HFX x0 x1 x2 x3;obtain⟨x0,x1,x2,x3⟩:=X3.out.keep Q5.out;obtain⟨y0,y1,y2,y3⟩:=C5.out;have hgl:∀g,(Value.slice A8 j c8).ownBlock=some g→wb.heap.size≤g∧g<w3.heap.size:=zbt hG.out.own;have G5:=hi9 (hG.out.keep Q5.out);have AP:=hi9 (show za3 ⟨A5,n5,c5,kk.flat⟩ (Value.slice A8 j c8).ownBlock from fun _ a e q=>by
      have h1:=hgl _ q
      have h2:=HRb.out
      have h3:=HSW.out
      have h4:=HWW.out
      rcases F5.out a e with h4|h4 <;> omega)
     have FN:=hi9 (show∀a,A5=some a→a.block<W.heap.size∨wb.heap.size≤a.block from fun a e=>(F5.out a e).imp id (fun q=>Nat.le_trans hB.out.size q));have HB5:=hi9 (hB.out.trans (Q5.out.mono hB.out.size));have hsz5:=HB5.out.size;have hvl4:Vs.length≤4000:=by omega
     clear hgl;go_wp2_with (at_builtin;go_loud (refine wpList_append_own_at _ rfl _ _ 69 rfl wb.heap.size 30 i0 _ 2 32 Tryz.underlying69 hi hz0' hz1 hz2' rfl (by decide) (.slice A8 j c8) Vs.length (zaw Vs) rfl (G5.out.own.alloc _) ⟨_,0,none⟩ 1 1 [.slice A5 n5 c5,.int .i64 0] rfl rfl (zV _ _ _) (by intro u hu;simp only [List.mem_cons,List.not_mem_nil,or_false] at hu;rcases hu with rfl|rfl <;> rfl) ?c1 ?c2 ?c3 ?_))
     case c1=>unfold maxLen;omega
     case c2=>omega
     case c3=>simp;omega
     intro v1 w6 hown hgrow _ hat;have G6:=hi9 (G5.out.snoc (r:=⟨A5,n5,c5,kk.flat⟩) N5.out AP.out (by rw [hVl];exact hown) hgrow (by simpa using hat));have HB6:=hi9 ((HB5.out.alloc HB5.out.size _).grown hgrow (by simp;omega) (zD G5.out.own));obtain⟨A9,c9,e9,-⟩:=G6.out.at
     subst e9;have hl9:(Vs ++ [(⟨A5,n5,c5,kk.flat⟩:Sl)]).length=j+1:=by simp [hVl]
     have KA6:=hi9 (hKA.out.snoc (r:=⟨A5,n5,c5,kk.flat⟩) (k:=kk) rfl HKK.out.1);have HF6:=hi9 (show∀r∈Vs ++ [(⟨A5,n5,c5,kk.flat⟩:Sl)],∀a,r.A=some a→a.block<W.heap.size∨wb.heap.size≤a.block from fun r hr=>by
      rcases List.mem_append.1 hr with h1|h1
      ·exact hF.out r h1
      ·simp only [List.mem_cons,List.not_mem_nil,or_false] at h1
       subst h1
       exact FN.out)
     rw [hl9] at G6 ⊢;clear hown hgrow hat AP FN hG hF hE hB HB5 G5 N5 C5 y0 y1 y2 y3 B5 V5 R5 F5 HC5 Q5 HST2 KX hsz5 hKA;go_wp2_with fail;go_roundw
     case rel=>exact⟨j+1,_,Ks ++ [kk],A9,c9,by go_num,by omega,rfl,hl9,HE6,KA6,G6,HF6,HB6⟩
     case measure=>simp [intOf];omega
  ·have hjp:j=pl:=by omega
   subst hjp;have HAL:=hi9 (show PL.take j=PL from List.take_of_length_le (by rw [HLL2.out];exact Nat.le_refl _));have hE2:=hE.out;rw [HAL.out] at hE2;have HRR:=HEV.out;rw [hE2] at HRR;simp only at HRR;have HRX:=hi9 HRR;have HOK:=hi9 (zkm HST0.out HVA.out hE2);obtain⟨A9,c9,e9,hGs⟩:=hG.out.at
   injection e9 with e91 e92 e93;subst e91;subst e93;have HGs:=hi9 hGs;have V3:=hi9 (Vb.out.keep hB.out);have HRB3:=hi9 (show w.heap.size+1<w3.heap.size from block_lt_of_cell R3.out.c0);have HWB:=hi9 (show wb.heap.size≤w3.heap.size from hB.out.size);have HKN:=hi9 (show(Ks.length:Int)=zp n from by rw [←hKA.out.len,hVl,HPL.out];exact HPN.out);have hj4:j≤4000:=hps;clear e92 hGs hE2 HRR HEV hE HAL hG;have HRT:=hi9 (show rr=zC n.op Ks from by rw [HRX.out,H11.out];unfold zC;simp);have KT:=hi9 (zjw (fun _=>False) n A8 j c8 Vs Ks w3 hVl hj4 HGs.out hKA.out HHX.out HKN.out (by have:=H11.out;omega) (by have:=H11.out;omega) (by have:=H11.out;omega) (by have:=H11.out;omega) (by have:=H11.out;omega) (by have:=H11.out;omega));rw [←HRT.out] at KT;unfold zR at KT;clear HRT HRX hF hKA HGs;go_wp2_with fail;refine(KT.out).mono ?_;rintro e w5 ⟨A5,n5,c5,rfl,hN5,hf5,b5⟩;have B5:=bh B3 b5;have R5:=hi9 (R3.out.keep b5);have N5:=hi9 hN5;have F5:=hi9 (show∀a,A5=some a→a.block<W.heap.size∨w3.heap.size≤a.block from fun a e=>(hf5 a e).elim False.elim .inr);clear b5 hN5 hf5;have FX:=hi9 (show∀a,A5=some a→(a.block<W.heap.size∨w.heap.size≤a.block)∧a.block≠w.heap.size+1 from fun a e=>by
    have h2:w.heap.size+1<w3.heap.size:=HRB3.out
    have h3:=HSW.out
    rcases F5.out a e with h1|h1
    ·exact⟨.inl h1,by omega⟩
    ·exact⟨.inr (by omega),by omega⟩)
   have RS:=R5.out.set (.slice A5 n5 c5) (.int .i64 (tyE rr));obtain⟨s0,s1,-,-⟩:=RS;have GF:=hi9 (zq (S:=fun b=>b<W.heap.size) (r:=rr) N5.out FX.out B5.out (show w.heap.size≤w.heap.size+1 by omega));obtain⟨r0,r1,z0,z1⟩:=R5.out;go_wp2_with fail;exact bodyPost_ret (v := .agg #[.slice A5 n5 c5,.int .i64 (tyE rr)]) (by simp [results,Tryz.results15,go_sem,s0,s1]) rfl GF.out
theorem zs5(W:World)(k:Kx)(N:Nat)(hW:KaC W k N)(n:Nd)(ps:Exs)(p:Nat)(FA:Option Addr)(fn fc:Nat)(L:List Ft)(w:World)(hCW:zfD W k)(h:zfD w k)(hb:Below W.heap.size W w)(hk:k.n≤4000)(hx:XAt k.P p false (.node n ps))(hN:ps.flat.length≤N)(hF:zdg W w FA fn fc L (ps.flat.length+1))(h13:n.op=13)(xa xb xc:Ex)(hps0:ps = .cons xa (.cons xb (.cons xc .nil))):
 Calls Tryz.prog 15 #[k.x.v,.slice k.A k.n k.c,.int .i64 p,.slice FA fn fc] w (zR (fun b=>b<W.heap.size) w (tyX k.x.t (.node n ps) (ftK L))):=by
 obtain⟨i0,hi,hz0',hz1,hz2'⟩:=info_parts zkB;have KPo:=hi9 (fun w' (hb':Below w.heap.size w w')=>zbA k.A k.n k.c k.P p false (.node n ps) w' (h.ns.keep hb') hk hx);have HSW:=hi9 hb.size;have HCX:=hi9 (fun w' (hb':Below w.heap.size w w')=>h.keep hb');have HFA:=hi9 (fun w' (hb':Below w.heap.size w w')=>hF.keep hb');have HBW:=hi9 (fun w' (hb':Below w.heap.size w w')=>hb.trans (hb'.mono hb.size));have HST0:=hi9 h.rs.ok;have HHX:=hi9 (show zad false n=true from hx.valid.1);have HPN:=hi9 (show(ps.len:Int)=zp n from hx.valid.2.1);have HPA:=hi9 (show zcB k.P (p+1) (zA n) ps from hx.parts);have HPF:=hi9 hF.len;have HCT:=hi9 (show∀a,k.x.a.NA=some a→a.block<W.heap.size from fun a e=>Nat.lt_of_lt_of_le (hCW.rs.ctx a e) hCW.rs.d);have HKB:=hi9 (show∀y∈k.x.s.K,∀a,y.NA=some a→a.block<W.heap.size from fun y hy a e=>Nat.lt_of_lt_of_le (hCW.rs.kds y hy a e) hCW.rs.d);have HLE:=hi9 (show p+1+ps.flat.length≤k.n from by
  have h1:=hx.le
  have h3:(Ex.node n ps).flat.length=ps.flat.length+1:=by simp [Ex.flat]
  rw [h.ns.len];omega)
 have HNS:=hi9 (show n.s.size≤maxLen from(h.ns.ok _ (List.mem_of_getElem? hx.head)).s);have hps:ps.len≤4000:=by
  have h2:=zam ps;have h1:=HLE.out;omega
 obtain⟨PL,hPL⟩:∃PL:List (Ex × zy),PL = [(xa,ftK L),(xb,ftK L ++ zeO xa),(xc,ftK L)]:=⟨_,rfl⟩
 have HLL:=hi9 (show PL.length=ps.len from by rw [hPL,hps0];rfl);have hr:zA n=false:=decide_eq_false (by omega);have HPT:=hi9 (show∀(j:Nat) (hj:j<PL.length),∃q,(zaK (zA n) (p+1) ps)[j]?=some q∧XAt k.P q false PL[j].1∧PL[j].1.flat.length≤N∧PL[j].2=(if j=1 then ftK L ++ zeO xa else ftK L)∧(if j=1 then xa.flat.length else 0)+PL[j].1.flat.length≤ps.flat.length+1 from by
  intro j hj
  have hp:zcB k.P (p+1) (zA n) ps:=hx.parts
  rw [hr] at hp ⊢
  subst hPL
  subst hps0
  have hc:∀(i:Nat) (x:Ex),(Exs.cons xa (.cons xb (.cons xc .nil))).list[i]?=some x→∃q,(zaK false (p+1) (.cons xa (.cons xb (.cons xc .nil))))[i]?=some q∧XAt k.P q false x∧x.flat.length≤N:=fun i x e=>ziW hp hN (by rw [List.getElem?_map,e];exact congrArg some (ze7 _))
  have hfl:(Exs.cons xa (.cons xb (.cons xc .nil))).flat.length=xa.flat.length+xb.flat.length+xc.flat.length:=by simp [Exs.flat,Nat.add_assoc]
  match j,hj with
  | 0,_ =>
   obtain⟨q,z,h1,h2⟩:=hc 0 xa rfl
   exact⟨q,z,h1,h2,(if_neg (by decide)).symm,by rw [if_neg (by decide),hfl];show 0+xa.flat.length≤_;omega⟩
  | 1,_ =>
   obtain⟨q,z,h1,h2⟩:=hc 1 xb rfl
   exact⟨q,z,h1,h2,(if_pos rfl).symm,by rw [if_pos rfl,hfl];show xa.flat.length+xb.flat.length≤_;omega⟩
  | 2,_ =>
   obtain⟨q,z,h1,h2⟩:=hc 2 xc rfl
   exact⟨q,z,h1,h2,(if_neg (by decide)).symm,by rw [if_neg (by decide),hfl];show 0+xc.flat.length≤_;omega⟩)
 have HXA:=hi9 (show XAt k.P (p+1) false xa∧xa.flat.length≤N∧xa.flat.length≤ps.flat.length∧(zaK (zA n) (p+1) ps)[0]?=some (p+1) from by
  have hp:zcB k.P (p+1) (zA n) ps:=hx.parts
  rw [hr] at hp ⊢
  subst hps0
  have h1:=hp.head.1
  have h2:xa.flat.length≤(Exs.cons xa (.cons xb (.cons xc .nil))).flat.length:=by simp [Exs.flat]
  exact⟨h1,Nat.le_trans h2 hN,h2,rfl⟩)
 have HBEH:=hi9 (fun w' (hb':Below w.heap.size w w')=>zfe W k.A k.n k.c k.P hk hCW.ns _ xa (p+1) w' (hb.trans (hb'.mono hb.size)) HXA.out.1 (Nat.le_refl _));have HVA:=hi9 (show∀y∈PL,y.1.valid false from by
  intro y hy
  obtain⟨j,hj,rfl⟩:=List.getElem_of_mem hy
  obtain⟨q,-,xa,-⟩:=HPT.out j hj
  exact xa.valid)
 have KW:=hi9 (fun(x:Ex) (q:Nat) (FA':Option Addr) (fn' fc':Nat) (L':List Ft) (e:XAt k.P q false x) (l:x.flat.length≤N) w' (hb':Below w.heap.size w w') (hf:zdg W w' FA' fn' fc' L' x.flat.length)=>hW x q FA' fn' fc' L' w' (h.keep hb') (hb.trans (hb'.mono hb.size)) e l hf);unfold zR Rs.v at KW;obtain⟨a,ea,d0,d1,d2,d3⟩:=h.ns.at_ p n hx.head;have hpn:p<k.n:=by rw [h.ns.len];exact(List.getElem?_eq_some_iff.1 hx.head).1
 have hok:zcP n:=h.ns.ok _ (List.mem_of_getElem? hx.head);have B1':Below w.heap.size w (w.alloc (.cells #[.slice k.x.s.KA k.x.s.kn k.x.s.kc,.slice k.x.s.AA k.x.s.an k.x.s.ac,.string k.x.who,.string k.x.what,.int .i64 k.x.i] 52)):=za w _;have B2':Below w.heap.size w ((w.alloc (.cells #[.slice k.x.s.KA k.x.s.kn k.x.s.kc,.slice k.x.s.AA k.x.s.an k.x.s.ac,.string k.x.who,.string k.x.what,.int .i64 k.x.i] 52)).alloc (.cells #[.slice none 0 0,.int .i64 0] 30)):=B1'.trans ((za (w.alloc (.cells #[.slice k.x.s.KA k.x.s.kn k.x.s.kc,.slice k.x.s.AA k.x.s.an k.x.s.ac,.string k.x.who,.string k.x.what,.int .i64 k.x.i] 52)) _).mono B1'.size);have B0:=hi9 (show Below w.heap.size w (((w.alloc (.cells #[.slice k.x.s.KA k.x.s.kn k.x.s.kc,.slice k.x.s.AA k.x.s.an k.x.s.ac,.string k.x.who,.string k.x.what,.int .i64 k.x.i] 52)).alloc (.cells #[.slice none 0 0,.int .i64 0] 30)).alloc (.cells #[.int .i64 n.op,.int .i64 n.n,.string n.s,.string n.t] 41)) from B2'.trans ((za ((w.alloc (.cells #[.slice k.x.s.KA k.x.s.kn k.x.s.kc,.slice k.x.s.AA k.x.s.an k.x.s.ac,.string k.x.who,.string k.x.what,.int .i64 k.x.i] 52)).alloc (.cells #[.slice none 0 0,.int .i64 0] 30)) _).mono B2'.size));have hz2:((w.alloc (.cells #[.slice k.x.s.KA k.x.s.kn k.x.s.kc,.slice k.x.s.AA k.x.s.an k.x.s.ac,.string k.x.who,.string k.x.what,.int .i64 k.x.i] 52)).alloc (.cells #[.slice none 0 0,.int .i64 0] 30)).heap.size=w.heap.size+1+1:=by simp [go_sem]
 have V0:=hi9 (((zbf w k.x).keep (za _ (.cells #[.slice none 0 0,.int .i64 0] 30))).keep (za _ (.cells #[.int .i64 n.op,.int .i64 n.n,.string n.s,.string n.t] 41)));have X0:=zfj ((w.alloc (.cells #[.slice k.x.s.KA k.x.s.kn k.x.s.kc,.slice k.x.s.AA k.x.s.an k.x.s.ac,.string k.x.who,.string k.x.what,.int .i64 k.x.i] 52)).alloc (.cells #[.slice none 0 0,.int .i64 0] 30)) n 41;rw [hz2] at X0;have HX0:=hi9 X0;have R0:=hi9 ((zeH w (.cells #[.slice k.x.s.KA k.x.s.kn k.x.s.kc,.slice k.x.s.AA k.x.s.an k.x.s.ac,.string k.x.who,.string k.x.what,.int .i64 k.x.i] 52) 30).keep (za ((w.alloc (.cells #[.slice k.x.s.KA k.x.s.kn k.x.s.kc,.slice k.x.s.AA k.x.s.an k.x.s.ac,.string k.x.who,.string k.x.what,.int .i64 k.x.i] 52)).alloc (.cells #[.slice none 0 0,.int .i64 0] 30)) (.cells #[.int .i64 n.op,.int .i64 n.n,.string n.s,.string n.t] 41)));replace d0:=zb B2' d0;replace d1:=zb B2' d1;replace d2:=zb B2' d2;replace d3:=zb B2' d3;obtain⟨rr,hrr⟩:∃rr,rr=tyX k.x.t (.node n ps) (ftK L):=⟨_,rfl⟩
 have HEV:=hi9 (show tyX k.x.t (.node n ps) (ftK L)=(match tyM k.x.t PL with
  | .error e => .error e
  | .ok M=>match M with
   | [k,i,j]=>if zj [41] k=true then za6 (zm i j) else .error 2
   | _ => .error 2) from by rw [hPL,hps0];exact zsZ h13 (zkn xa (ftK L)))
 have H13:=hi9 h13;have g13:(n.op==13)=true:=beq_iff_eq.2 h13;have g6:(n.op==6)=false:=beq_eq_false_iff_ne.2 (by omega);have g8:(n.op==8)=false:=beq_eq_false_iff_ne.2 (by omega);have g4:(n.op==4)=false:=beq_eq_false_iff_ne.2 (by omega);have g5:(n.op==5)=false:=beq_eq_false_iff_ne.2 (by omega);have g11:(n.op==11)=false:=beq_eq_false_iff_ne.2 (by omega);have g22:(n.op==22)=false:=beq_eq_false_iff_ne.2 (by omega);rw [←hrr] at HEV ⊢;rw [ea] at KPo KW;rw [ea];have HEA:=hi9 ea;unfold Rs.v;unfold Rs.o at V0;dsimp only [Ex.parts,Ex.head] at KPo;clear h hx hok hrr hb hW X0 hN hCW hF B1' B2' hz2;clear h13 hps0 hr;go_enter Tryz.func15,Tryz.ntmps15;go_wp2_with fail;refine(KPo.out _ B0.out).mono ?_;rintro e w1 ⟨A',c',rfl,hc',hI,hIF,b1⟩;have B1:=bh B0 b1;have V1:=hi9 (V0.out.keep b1);have R1:=hi9 (R0.out.keep b1);have X1:=hi9 (HX0.out.keep b1);have HI1:=hi9 hI;have HIF:=hi9 (show∀a,A'=some a→w.heap.size+1<a.block from fun a e=>by
  have h1:=hIF a e
  have h2:w.heap.size+1<(((w.alloc (.cells #[.slice k.x.s.KA k.x.s.kn k.x.s.kc,.slice k.x.s.AA k.x.s.an k.x.s.ac,.string k.x.who,.string k.x.what,.int .i64 k.x.i] 52)).alloc (.cells #[.slice none 0 0,.int .i64 0] 30)).alloc (.cells #[.int .i64 n.op,.int .i64 n.n,.string n.s,.string n.t] 41)).heap.size:=block_lt_of_cell R0.out.c0
  omega)
 clear hI hIF b1 B0 V0 R0 HX0 KPo d0 d1 d2 d3;obtain⟨x0,x1,x2,x3⟩:=X1.out;obtain⟨pl,hpl⟩:∃pl,pl=ps.len:=⟨_,rfl⟩
 obtain⟨m,hm⟩:∃m,m=pl+1:=⟨_,rfl⟩
 have HPL:=hi9 hpl;rw [←hpl] at hps hc' ⊢;rw [←hm] at hc' ⊢;have HCM:=hi9 hc';have hmm:(m:Int)-1=(pl:Int):=by omega
 have hm4:m≤4001:=by omega
 have HM:=hi9 hm;have HLL2:=hi9 (show PL.length=pl by rw [hpl];exact HLL.out);clear hpl hm HLL hc';go_wp2_with fail;refine(jV _ _ _ _).mono ?_;rintro e w2 ⟨rfl,b2⟩;have bl:=za w1 (.cells #[.int .i64 46,.int .i64 n.n,.string ⟨#[]⟩,.string ⟨#[]⟩] 41);have b12:=bl.trans (b2.mono bl.size);have B2:=bh B1 b12;have V2:=hi9 (V1.out.keep b12);have R2:=hi9 (R1.out.keep b12);have X2:=hi9 (X1.out.keep b12);have HI2:=hi9 (HI1.out.keep b12);clear bl b12 b2 B1 V1 R1 X1 HI1 x0 x1 x2 x3;obtain⟨x0,x1,x2,x3⟩:=X2.out;go_wp2_with fail;have bo:=za w2 (.cells #[.slice (some ⟨w1.heap.size,0,none⟩) 1 1,.int .i64 0] 30);have Bb:=bh B2 bo;have Vb:=hi9 (V2.out.keep bo);have Rb:=hi9 (R2.out.keep bo);have Xb:=hi9 (X2.out.keep bo);have HI:=hi9 (HI2.out.keep bo);obtain⟨wb,hwb⟩:∃wb,w2.alloc (.cells #[.slice (some ⟨w1.heap.size,0,none⟩) 1 1,.int .i64 0] 30)=wb:=⟨_,rfl⟩
 rw [hwb] at Bb Vb Rb Xb HI ⊢;clear bo hwb B2 V2 R2 X2 HI2 x0 x1 x2 x3;obtain⟨x0,x1,x2,x3⟩:=Xb.out;have G0:=hi9 (zbI.nil wb wb.heap.size);have HRb:=hi9 (show w.heap.size+1<wb.heap.size from block_lt_of_cell Rb.out.c0);have HWW:=hi9 (show w.heap.size≤wb.heap.size from Bb.out.size);go_loopw [11,13] (fun v i wr=>∃(j:Nat) (Vs:List Sl) (Ks:List Kd) (A8:Option Addr) (c8:Nat),i = .int .i64 j∧j≤pl∧v = .slice A8 j c8∧Vs.length=j∧Hid (tyM k.x.t (PL.take j)= .ok Ks)∧Hid (jX Vs Ks)∧Hid (zbI wr wb.heap.size v Vs)∧Hid (∀r∈Vs,∀a,r.A=some a→a.block<W.heap.size∨wb.heap.size≤a.block)∧Hid (Below wb.heap.size wb wr)) (fun _ i _=>pl-(intOf i).toNat)
 case atStart=>exact⟨0,[],[],none,0,rfl,Nat.zero_le _,rfl,rfl,hi9 rfl,hi9 zgv,G0,hi9 (by intro r hr;cases hr),hi9 (Below.refl _ _)⟩
 case round =>
  clear G0;obtain⟨j,Vs,Ks,A8,c8,rfl,hj,rfl,hVl,hE,hKA,hG,hF,hB⟩:=hrel;obtain⟨w3,rfl⟩:∃w3:World,w3=wr:=⟨_,rfl⟩
  have B3:=bh Bb hB.out;have R3:=hi9 (Rb.out.keep hB.out);have X3:=hi9 (Xb.out.keep hB.out);clear x0 x1 x2 x3;obtain⟨x0,x1,x2,x3⟩:=X3.out;by_cases hlt:j<pl
  ·have hjl:j<PL.length:=by rw [HLL2.out];exact hlt
   obtain⟨q,e1,hqx,hql,hq2,hqn⟩:=HPT.out j hjl;obtain⟨a',ea',qc⟩:=(HI.out.keep hB.out) j q e1;have HST:=zfz hjl hE.out;have V3:=hi9 (⟨Vb.out.keep hB.out,qc⟩:Vxi w3 w.heap.size k.x (a'.add j) (q:Int));have HFX:=hi9 (show(tyE (tyX k.x.t PL[j].1 PL[j].2)≠0→rr=tyX k.x.t PL[j].1 PL[j].2)∧(tyE (tyX k.x.t PL[j].1 PL[j].2)=0→∃kk,tyX k.x.t PL[j].1 PL[j].2 = .ok kk∧KOk kk∧tyM k.x.t (PL.take (j+1))= .ok (Ks ++ [kk])) from by
    have h1:=zdW k.x.t PL[j].1 false PL[j].2 hqx.valid
    have h2:=zc2 HST0.out PL[j].1 false PL[j].2 hqx.valid
    rcases qx:tyX k.x.t PL[j].1 PL[j].2 with u|kk
    ·exact⟨fun _=>by rw [HEV.out,HST.2 u qx],fun h0=>absurd (by rw [qx];exact congrArg Except.error h0) h1⟩
    ·rw [qx] at h2
     exact⟨fun h0=>absurd rfl h0,fun _=>⟨kk,rfl,h2,HST.1 kk qx⟩⟩)
   have hjm:(j:Int)<(m:Int):=by omega
   have hjm':j<m:=by have:=HM.out;omega
   by_cases hj1:j=1
   ·have f1:((j:Int)==1)=true:=beq_iff_eq.2 (by omega);rw [if_pos hj1] at hq2 hqn;have KW1:=hi9 (fun(FA':Option Addr) (fn' fc':Nat) (L':List Ft) w' (hb':Below w.heap.size w w') (hf:zdg W w' FA' fn' fc' L' PL[j].1.flat.length)=>KW.out PL[j].1 q FA' fn' fc' L' hqx hql w' hb' hf);have HLN:=hi9 hqn;have HQ2:=hi9 hq2;obtain⟨pa,epa,i0'⟩:=(HI.out.keep hB.out) 0 (p+1) HXA.out.2.2.2;have hpa:=Option.some.inj (ea'.symm.trans epa);subst hpa;rw [show a'.add 0=a' from rfl] at i0';have IB:=hi9 (fun w' (hb':Below w3.heap.size w3 w')=>HBEH.out w' (bh B3 hb').out);rw [HEA.out] at IB;have FK:=hi9 (fun w' (hb':Below w3.heap.size w3 w')=>(HFA.out w' (bh B3 hb').out).at_);have ZN:=hi9 (HFA.out w (Below.refl _ _)).nil;have HFW:=hi9 (HFA.out w (Below.refl _ _)).ok;have hpf:=HPF.out;have HL8:=hi9 (show L.length≤8000 by omega);have HZ0:=hi9 (zbr (HFA.out w (Below.refl _ _)).at_ (Nat.le_refl _) HL8.out);have HB9:=hi9 (show xa.flat.length≤8000 by have:=HXA.out.2.2.1;omega);have hm0:(0:Int)<(m:Int):=by omega
    have hm00:0<m:=by omega
    obtain⟨s0,hs0⟩:∃s0,s0=p+1:=⟨_,rfl⟩
    rw [←hs0] at i0' IB;have KK:∀w':World,Below w3.heap.size w3 w'→w'.cell? a'=some (.int .i64 ((s0:Nat):Int)):=fun w' hb'=>zb hb' i0';have PX:=hi9 (zU w3);have PY:=hi9 (show Below w3.heap.size w3 (w3.alloc (.cells #[] 111)).drew from(za w3 _).trans ((zU _).mono (za w3 _).size));generalize PL[j]=y at *;clear hs0 HST e1 hqx hql hq2 hqn qc hpf epa hj1;subst ea';go_wp2_with fail;go_region_held3 (fun w':World=>w'.cell? a'=some (.int .i64 ((s0:Nat):Int))) (first|(with_reducible exact KK _ PX.out)|(with_reducible exact KK _ (bhA PX (.cells #[] 111)).out)|(with_reducible exact KK _ PY.out)) (first
     |(go_at_call 29;(with_reducible refine(IB.out _ PX.out).mono ?_);rintro e w9 ⟨A9,n9,c9,L9,rfl,F9,W9,K9,l9,z9,b9⟩;have hs9:=zbj F9 l9 (Nat.le_refl L.length) HB9.out HL8.out;have PX:=bh PX b9;(try have O6:=O6.keep b9))
     |(go_at_call 29;(with_reducible refine(IB.out _ (bhA PX (.cells #[] 111)).out).mono ?_);rintro e w9 ⟨A9,n9,c9,L9,rfl,F9,W9,K9,l9,z9,b9⟩;have hs9:=zbj F9 l9 (Nat.le_refl L.length) HB9.out HL8.out;have PX:=bh (bhA PX (.cells #[] 111)) b9)
     |(go_at_call 29;(with_reducible refine(IB.out _ PY.out).mono ?_);rintro e w9 ⟨A9,n9,c9,L9,rfl,F9,W9,K9,l9,z9,b9⟩;have hs9:=zbj F9 l9 (Nat.le_refl L.length) HB9.out HL8.out;have PX:=bh PY b9)
     |((with_reducible refine zkN rfl (.tmp 52) (.tmp 57) ?_ w3.heap.size _ L A9 n9 c9 L9 ?_ ?_ O6 F9 z9 hs9 PX.out.size ?_);(all_goals try rfl);intro v12 w3 O12 b12;have PX:=hi9 (PX.out.trans b12))
     |((with_reducible refine zbJ rfl (.tmp 50) (.tmp 51) ?_ w3.heap.size ?_ FA fn fc L ?_ ?_ (FK.out _ PX.out) ZN.out HZ0.out PX.out.size ?_);(all_goals try rfl);intro v6 w6 O6 b6;(try have F9:=F9.keep b6);have PX:=bh PX b6)
     |((with_reducible refine zbJ rfl (.tmp 50) (.tmp 51) ?_ w3.heap.size ?_ FA fn fc L ?_ ?_ (FK.out _ (bhA PX (.cells #[] 111)).out) ZN.out HZ0.out (bhA PX (.cells #[] 111)).out.size ?_);(all_goals try rfl);intro v6 w6 O6 b6;(try have F9:=(F9.keep (zbn PX (.cells #[] 111))).keep b6);have PX:=bh (bhA PX (.cells #[] 111)) b6)
     |((with_reducible refine zbJ rfl (.tmp 50) (.tmp 51) ?_ w3.heap.size ?_ FA fn fc L ?_ ?_ (FK.out _ PY.out) ZN.out HZ0.out PY.out.size ?_);(all_goals try rfl);intro v6 w6 O6 b6;have PX:=bh PY b6)
     | fail)
    all_goals
     have hB:=hi9 (hB.out.trans (PX.out.mono hB.out.size));have hG:=hi9 (hG.out.keep PX.out);have B3:=bh B3 PX.out;have V3:=hi9 (V3.out.keep PX.out);have R3:=hi9 (R3.out.keep PX.out);have X3:=hi9 (X3.out.keep PX.out);have hWL:∀z∈L ++ L9,zhi W z:=fun z hz=>(List.mem_append.1 hz).elim (HFW.out z) (W9 z);have hln:=HLN.out;have hpf:=HPF.out;obtain⟨A10,n10,c10,rfl,F10,z10⟩:=O12.fts (fun z hz=>(hWL z hz).keep (HBW.out _ B3.out)) (by have h1:=HXA.out.2.2.1;rw [List.length_append];unfold maxLen;omega);have HFO:=hi9 (⟨F10,z10,by rw [List.length_append];omega,hWL⟩:zdg W _ A10 n10 c10 (L ++ L9) y.1.flat.length);have heq:ftK (L ++ L9)=y.2:=by rw [HQ2.out,←K9];unfold ftK;rw [List.map_append]
     have KX:=hi9 (fun w' (hb':Below w3.heap.size w3 w')=>KW1.out A10 n10 c10 (L ++ L9) w' (bh B3 hb').out (HFO.out.keep hb'));rw [heq] at KX;generalize tyX k.x.t y.1 y.2=rx at *;clear x0 x1 x2 x3 i0' KK PX PY IB FK HFO heq F10 z10 hWL hln hpf O12 F9 W9 K9 l9 z9 b9 b12 O6 b6 hs9;obtain⟨x0,x1,x2,x3⟩:=X3.out;go_wp2_with fail;have bd:=zU w3;have bx:RowKit.Below w3.heap.size w3 (w3.alloc (.cells #[.slice none 0 0,.int .i64 0] 30)).drew:=(za w3 _).trans ((zU _).mono (za w3 _).size);have Vd:=hi9 (V3.out.keep bd);have Vx:=hi9 (V3.out.keep bx);have Bd:=bh B3 bd;have Bx:=bh B3 bx;have Qd:=hi9 bd;have Qx:=hi9 bx;have Rd:=hi9 (R3.out.keep bd);have Rx:=hi9 (R3.out.keep bx);have Cx:=hi9 ((zQ w3 (.slice none 0 0) (.int .i64 0) 30).keep (zU _));have K0:=hi9 (KX.out w3.drew Qd.out);have K1:=hi9 (KX.out (w3.alloc (.cells #[.slice none 0 0,.int .i64 0] 30)).drew Qx.out);have hzx:(w3.alloc (.cells #[.slice none 0 0,.int .i64 0] 30)).drew.heap.size=w3.heap.size+1:=by simp [go_sem]
     have HZX:=hi9 hzx;have hrb:w.heap.size+1<w3.heap.size:=block_lt_of_cell R3.out.c0;have HRB3:=hi9 hrb;have hpb:((a'.add j):Addr).block<w3.heap.size:=block_lt_of_cell V3.out.i;have hn1:w.heap.size≠w3.heap.size:=by omega
     have hn2:((a'.add j):Addr).block≠w3.heap.size:=Nat.ne_of_lt hpb;clear bd bx hzx;go_region_held3 (fun w':World=>w'.cell? ⟨w.heap.size,0,none⟩=some (.slice k.x.s.KA k.x.s.kn k.x.s.kc)∧w'.cell? ⟨w.heap.size,1,none⟩=some (.slice k.x.s.AA k.x.s.an k.x.s.ac)∧w'.cell? ⟨w.heap.size,2,none⟩=some (.string k.x.who)∧w'.cell? ⟨w.heap.size,3,none⟩=some (.string k.x.what)∧w'.cell? ⟨w.heap.size,4,none⟩=some (.int .i64 k.x.i)∧w'.cell? (a'.add j)=some (.int .i64 (q:Int))) (first|(with_reducible exact zL Vs.out)|(with_reducible exact zL Vz.out)|(with_reducible exact zL Vy.out)|(with_reducible exact zL V4.out)|(with_reducible exact zL Vx.out)|(with_reducible exact zL Vd.out)|(with_reducible exact zL V3.out)) (first
      |(go_at_call 15;(with_reducible refine K1.out.mono ?_);rintro e w4 ⟨A5,n5,c5,rfl,hN,hf,b4⟩;have N4:=hi9 hN;have F4:=hi9 hf;have B4:=bh Bx b4;have Q4:=bh Qx b4;have V4:=hi9 (Vx.out.keep b4);have R4:=hi9 (Rx.out.keep b4);have C4:=hi9 (Cx.out.keep b4);have Vs:=hi9 (V4.out.but (jH w4 w3.heap.size (.slice A5 n5 c5) (.int .i64 (tyE rx))) hn1 hn2);obtain⟨y0,y1,y2,y3⟩:=C4.out)
      |(go_at_call 15;(with_reducible refine K0.out.mono ?_);rintro e w4 ⟨A5,n5,c5,rfl,hN,hf,b4⟩;have N4:=hi9 hN;have F4:=hi9 hf;have B4:=bh Bd b4;have Q4:=bh Qd b4;have V4:=hi9 (Vd.out.keep b4);have R4:=hi9 (Rd.out.keep b4);have Vy:=hi9 (V4.out.keep (za w4 (.cells #[.slice none 0 0,.int .i64 0] 30)));have Vz:=hi9 (V4.out.keep (za w4 (.cells #[.slice A5 n5 c5,.int .i64 (tyE rx)] 30)))))
     focus
      have bz:=za w4 (.cells #[.slice A5 n5 c5,.int .i64 (tyE rx)] 30);have B5:=bh B4 bz;have V5:=hi9 (V4.out.keep bz);have R5:=hi9 (R4.out.keep bz);have C5:=hi9 (zQ w4 (.slice A5 n5 c5) (.int .i64 (tyE rx)) 30);have N5:=hi9 (N4.out.keep bz);have hwj:w3.heap.size≤w4.heap.size:=Q4.out.size;have HC5:=hi9 (show w3.heap.size≤w4.heap.size from hwj);have F5:=hi9 (show∀a,A5=some a→(a.block<W.heap.size∨w3.heap.size≤a.block) from fun a e=>(F4.out a e).imp id (fun q=>by simpa [go_sem] using q));have Q5:=bh Q4 bz;obtain⟨cb5,hcb⟩:∃cb,w4.heap.size=cb:=⟨_,rfl⟩
      obtain⟨w5,hw5⟩:∃w2,(w4.alloc (.cells #[.slice A5 n5 c5,.int .i64 (tyE rx)] 30))=w2:=⟨_,rfl⟩
      rw [hw5] at B5 V5 R5 C5 N5 Q5 ⊢;rw [hcb] at C5 HC5 ⊢;clear bz hw5 hcb hwj Vy Vz
     rotate_left
     focus
      have hg:=jH w4 w3.heap.size (.slice A5 n5 c5) (.int .i64 (tyE rx));have hsz0:w.heap.size≤w3.heap.size:=B3.out.size;have B5:=hi9 (jy B4.out hsz0 (.slice A5 n5 c5) (.int .i64 (tyE rx)));have V5:=Vs;have R5:=hi9 (R4.out.but hg (fun e=>by injection e with e;omega));have C5:=hi9 (C4.out.set (.slice A5 n5 c5) (.int .i64 (tyE rx)));have HC5:=hi9 (Nat.le_refl w3.heap.size);have N5:=hi9 (N4.out.but hg (fun _ a e q=>by rcases F4.out a e with h1|h1 <;>(have:=HSW.out;have:=HZX.out;omega)));have F5:=hi9 (show∀a,A5=some a→(a.block<W.heap.size∨w3.heap.size≤a.block) from fun a e=>(F4.out a e).imp id (fun q=>by have:=HZX.out;omega));have Q5:=hi9 (jy Q4.out (Nat.le_refl _) (.slice A5 n5 c5) (.int .i64 (tyE rx)));obtain⟨cb5,hcb⟩:∃cb,w3.heap.size=cb:=⟨_,rfl⟩
      obtain⟨w5,hw5⟩:∃w2,((w4.setCell ⟨w3.heap.size,0,none⟩ (.slice A5 n5 c5)).setCell ⟨w3.heap.size,1,none⟩ (.int .i64 (tyE rx)))=w2:=⟨_,rfl⟩
      rw [hw5] at B5 V5 R5 C5 N5 Q5 ⊢;rw [hcb] at C5 ⊢;replace HC5:=hi9 (show w3.heap.size≤cb5 from Nat.le_of_eq hcb);clear hg hw5 hcb hsz0 Vs y0 y1 y2 y3 C4
     rotate_left
     all_goals
      clear V4 B4 R4 N4 F4 Q4 Vd Vx Bd Bx Rd Rx Cx K0 K1 HZX hrb hpb hn1 hn2 b4 hN hf V3 B3 R3 Qd Qx;by_cases hu:tyE rx=0
      case neg =>
       have hf:(tyE rx != 0)=true:=by simpa using hu
       obtain⟨y0,y1,y2,y3⟩:=C5.out;have FX:=hi9 (show∀a,A5=some a→(a.block<W.heap.size∨w.heap.size≤a.block)∧a.block≠w.heap.size+1 from fun a e=>by
        have h2:w.heap.size+1<w3.heap.size:=HRB3.out
        have h3:=HSW.out
        rcases F5.out a e with h1|h1
        ·exact⟨.inl h1,by omega⟩
        ·exact⟨.inr (by omega),by omega⟩)
       have RS:=R5.out.set (.slice A5 n5 c5) (.int .i64 (tyE rx));obtain⟨s0,s1,-,-⟩:=RS;have GF:=hi9 (zq (S:=fun b=>b<W.heap.size) (r:=rx) N5.out FX.out B5.out (show w.heap.size≤w.heap.size+1 by omega));obtain⟨r0,r1,z0,z1⟩:=R5.out;go_wp2_with fail;exact bodyPost_ret (v := .agg #[.slice A5 n5 c5,.int .i64 (tyE rx)]) (by simp [results,Tryz.results15,go_sem,s0,s1]) rfl (by rw [HFX.out.1 hu];exact GF.out)
      obtain⟨kk,rfl,hkk,hst⟩:=HFX.out.2 hu;have HKK:=hi9 hkk;have HE6:=hi9 hst;have HST2:=HE6;replace C5:=hi9 (show Vr2 w5 cb5 (.slice A5 n5 c5) (.int .i64 0) from C5.out);replace N5:=hi9 (show Ns w5 A5 n5 c5 kk.flat from N5.out);clear hu hkk hst HFX x0 x1 x2 x3;obtain⟨x0,x1,x2,x3⟩:=X3.out.keep Q5.out;obtain⟨y0,y1,y2,y3⟩:=C5.out;have hgl:∀g,(Value.slice A8 j c8).ownBlock=some g→wb.heap.size≤g∧g<w3.heap.size:=zbt hG.out.own;have G5:=hi9 (hG.out.keep Q5.out);have AP:=hi9 (show za3 ⟨A5,n5,c5,kk.flat⟩ (Value.slice A8 j c8).ownBlock from fun _ a e q=>by
       have h1:=hgl _ q
       have h2:=HRb.out
       have h3:=HSW.out
       have h4:=HWW.out
       rcases F5.out a e with h4|h4 <;> omega)
      have FN:=hi9 (show∀a,A5=some a→a.block<W.heap.size∨wb.heap.size≤a.block from fun a e=>(F5.out a e).imp id (fun q=>Nat.le_trans hB.out.size q));have HB5:=hi9 (hB.out.trans (Q5.out.mono hB.out.size));have hsz5:=HB5.out.size;have hvl4:Vs.length≤4000:=by omega
      clear hgl;go_wp2_with (at_builtin;go_loud (refine wpList_append_own_at _ rfl _ _ 69 rfl wb.heap.size 30 i0 _ 2 32 Tryz.underlying69 hi hz0' hz1 hz2' rfl (by decide) (.slice A8 j c8) Vs.length (zaw Vs) rfl (G5.out.own.alloc _) ⟨_,0,none⟩ 1 1 [.slice A5 n5 c5,.int .i64 0] rfl rfl (zV _ _ _) (by intro u hu;simp only [List.mem_cons,List.not_mem_nil,or_false] at hu;rcases hu with rfl|rfl <;> rfl) ?c1 ?c2 ?c3 ?_))
      case c1=>unfold maxLen;omega
      case c2=>omega
      case c3=>simp;omega
      intro v1 w6 hown hgrow _ hat;have G6:=hi9 (G5.out.snoc (r:=⟨A5,n5,c5,kk.flat⟩) N5.out AP.out (by rw [hVl];exact hown) hgrow (by simpa using hat));have HB6:=hi9 ((HB5.out.alloc HB5.out.size _).grown hgrow (by simp;omega) (zD G5.out.own));obtain⟨A9,c9,e9,-⟩:=G6.out.at
      subst e9;have hl9:(Vs ++ [(⟨A5,n5,c5,kk.flat⟩:Sl)]).length=j+1:=by simp [hVl]
      have KA6:=hi9 (hKA.out.snoc (r:=⟨A5,n5,c5,kk.flat⟩) (k:=kk) rfl HKK.out.1);have HF6:=hi9 (show∀r∈Vs ++ [(⟨A5,n5,c5,kk.flat⟩:Sl)],∀a,r.A=some a→a.block<W.heap.size∨wb.heap.size≤a.block from fun r hr=>by
       rcases List.mem_append.1 hr with h1|h1
       ·exact hF.out r h1
       ·simp only [List.mem_cons,List.not_mem_nil,or_false] at h1
        subst h1
        exact FN.out)
      rw [hl9] at G6 ⊢;clear hown hgrow hat AP FN hG hF hE hB HB5 G5 N5 C5 y0 y1 y2 y3 B5 V5 R5 F5 HC5 Q5 HST2 KX hsz5 hKA;go_wp2_with fail;go_roundw
      case rel=>exact⟨j+1,_,Ks ++ [kk],A9,c9,by go_num,by omega,rfl,hl9,HE6,KA6,G6,HF6,HB6⟩
      case measure=>simp [intOf];omega
   ·have f1:((j:Int)==1)=false:=beq_eq_false_iff_ne.2 (by omega);rw [if_neg hj1] at hq2 hqn;have KX:=hi9 (fun w' (hb':Below w3.heap.size w3 w')=>KW.out PL[j].1 q FA fn fc L hqx hql w' (bh B3 hb').out ((HFA.out w' (bh B3 hb').out).less (by omega)));rw [←hq2] at KX;generalize tyX k.x.t PL[j].1 PL[j].2=rx at *;clear HST e1 hqx hql hq2 hqn qc hj1;subst ea';go_wp2_with fail;have bd:=zU w3;have bx:RowKit.Below w3.heap.size w3 (w3.alloc (.cells #[.slice none 0 0,.int .i64 0] 30)).drew:=(za w3 _).trans ((zU _).mono (za w3 _).size);have Vd:=hi9 (V3.out.keep bd);have Vx:=hi9 (V3.out.keep bx);have Bd:=bh B3 bd;have Bx:=bh B3 bx;have Qd:=hi9 bd;have Qx:=hi9 bx;have Rd:=hi9 (R3.out.keep bd);have Rx:=hi9 (R3.out.keep bx);have Cx:=hi9 ((zQ w3 (.slice none 0 0) (.int .i64 0) 30).keep (zU _));have K0:=hi9 (KX.out w3.drew Qd.out);have K1:=hi9 (KX.out (w3.alloc (.cells #[.slice none 0 0,.int .i64 0] 30)).drew Qx.out);have hzx:(w3.alloc (.cells #[.slice none 0 0,.int .i64 0] 30)).drew.heap.size=w3.heap.size+1:=by simp [go_sem]
    have HZX:=hi9 hzx;have hrb:w.heap.size+1<w3.heap.size:=block_lt_of_cell R3.out.c0;have HRB3:=hi9 hrb;have hpb:((a'.add j):Addr).block<w3.heap.size:=block_lt_of_cell V3.out.i;have hn1:w.heap.size≠w3.heap.size:=by omega
    have hn2:((a'.add j):Addr).block≠w3.heap.size:=Nat.ne_of_lt hpb;clear bd bx hzx;go_region_held3 (fun w':World=>w'.cell? ⟨w.heap.size,0,none⟩=some (.slice k.x.s.KA k.x.s.kn k.x.s.kc)∧w'.cell? ⟨w.heap.size,1,none⟩=some (.slice k.x.s.AA k.x.s.an k.x.s.ac)∧w'.cell? ⟨w.heap.size,2,none⟩=some (.string k.x.who)∧w'.cell? ⟨w.heap.size,3,none⟩=some (.string k.x.what)∧w'.cell? ⟨w.heap.size,4,none⟩=some (.int .i64 k.x.i)∧w'.cell? (a'.add j)=some (.int .i64 (q:Int))) (first|(with_reducible exact zL Vs.out)|(with_reducible exact zL Vz.out)|(with_reducible exact zL Vy.out)|(with_reducible exact zL V4.out)|(with_reducible exact zL Vx.out)|(with_reducible exact zL Vd.out)|(with_reducible exact zL V3.out)) (first
     |(go_at_call 15;(with_reducible refine K1.out.mono ?_);rintro e w4 ⟨A5,n5,c5,rfl,hN,hf,b4⟩;have N4:=hi9 hN;have F4:=hi9 hf;have B4:=bh Bx b4;have Q4:=bh Qx b4;have V4:=hi9 (Vx.out.keep b4);have R4:=hi9 (Rx.out.keep b4);have C4:=hi9 (Cx.out.keep b4);have Vs:=hi9 (V4.out.but (jH w4 w3.heap.size (.slice A5 n5 c5) (.int .i64 (tyE rx))) hn1 hn2);obtain⟨y0,y1,y2,y3⟩:=C4.out)
     |(go_at_call 15;(with_reducible refine K0.out.mono ?_);rintro e w4 ⟨A5,n5,c5,rfl,hN,hf,b4⟩;have N4:=hi9 hN;have F4:=hi9 hf;have B4:=bh Bd b4;have Q4:=bh Qd b4;have V4:=hi9 (Vd.out.keep b4);have R4:=hi9 (Rd.out.keep b4);have Vy:=hi9 (V4.out.keep (za w4 (.cells #[.slice none 0 0,.int .i64 0] 30)));have Vz:=hi9 (V4.out.keep (za w4 (.cells #[.slice A5 n5 c5,.int .i64 (tyE rx)] 30)))))
    focus
     have bz:=za w4 (.cells #[.slice A5 n5 c5,.int .i64 (tyE rx)] 30);have B5:=bh B4 bz;have V5:=hi9 (V4.out.keep bz);have R5:=hi9 (R4.out.keep bz);have C5:=hi9 (zQ w4 (.slice A5 n5 c5) (.int .i64 (tyE rx)) 30);have N5:=hi9 (N4.out.keep bz);have hwj:w3.heap.size≤w4.heap.size:=Q4.out.size;have HC5:=hi9 (show w3.heap.size≤w4.heap.size from hwj);have F5:=hi9 (show∀a,A5=some a→(a.block<W.heap.size∨w3.heap.size≤a.block) from fun a e=>(F4.out a e).imp id (fun q=>by simpa [go_sem] using q));have Q5:=bh Q4 bz;obtain⟨cb5,hcb⟩:∃cb,w4.heap.size=cb:=⟨_,rfl⟩
     obtain⟨w5,hw5⟩:∃w2,(w4.alloc (.cells #[.slice A5 n5 c5,.int .i64 (tyE rx)] 30))=w2:=⟨_,rfl⟩
     rw [hw5] at B5 V5 R5 C5 N5 Q5 ⊢;rw [hcb] at C5 HC5 ⊢;clear bz hw5 hcb hwj Vy Vz
    rotate_left
    focus
     have hg:=jH w4 w3.heap.size (.slice A5 n5 c5) (.int .i64 (tyE rx));have hsz0:w.heap.size≤w3.heap.size:=B3.out.size;have B5:=hi9 (jy B4.out hsz0 (.slice A5 n5 c5) (.int .i64 (tyE rx)));have V5:=Vs;have R5:=hi9 (R4.out.but hg (fun e=>by injection e with e;omega));have C5:=hi9 (C4.out.set (.slice A5 n5 c5) (.int .i64 (tyE rx)));have HC5:=hi9 (Nat.le_refl w3.heap.size);have N5:=hi9 (N4.out.but hg (fun _ a e q=>by rcases F4.out a e with h1|h1 <;>(have:=HSW.out;have:=HZX.out;omega)));have F5:=hi9 (show∀a,A5=some a→(a.block<W.heap.size∨w3.heap.size≤a.block) from fun a e=>(F4.out a e).imp id (fun q=>by have:=HZX.out;omega));have Q5:=hi9 (jy Q4.out (Nat.le_refl _) (.slice A5 n5 c5) (.int .i64 (tyE rx)));obtain⟨cb5,hcb⟩:∃cb,w3.heap.size=cb:=⟨_,rfl⟩
     obtain⟨w5,hw5⟩:∃w2,((w4.setCell ⟨w3.heap.size,0,none⟩ (.slice A5 n5 c5)).setCell ⟨w3.heap.size,1,none⟩ (.int .i64 (tyE rx)))=w2:=⟨_,rfl⟩
     rw [hw5] at B5 V5 R5 C5 N5 Q5 ⊢;rw [hcb] at C5 ⊢;replace HC5:=hi9 (show w3.heap.size≤cb5 from Nat.le_of_eq hcb);clear hg hw5 hcb hsz0 Vs y0 y1 y2 y3 C4
    rotate_left
    all_goals
     clear V4 B4 R4 N4 F4 Q4 Vd Vx Bd Bx Rd Rx Cx K0 K1 HZX hrb hpb hn1 hn2 b4 hN hf V3 B3 R3 Qd Qx;by_cases hu:tyE rx=0
     case neg =>
      have hf:(tyE rx != 0)=true:=by simpa using hu
      obtain⟨y0,y1,y2,y3⟩:=C5.out;have FX:=hi9 (show∀a,A5=some a→(a.block<W.heap.size∨w.heap.size≤a.block)∧a.block≠w.heap.size+1 from fun a e=>by
       have h2:w.heap.size+1<w3.heap.size:=HRB3.out
       have h3:=HSW.out
       rcases F5.out a e with h1|h1
       ·exact⟨.inl h1,by omega⟩
       ·exact⟨.inr (by omega),by omega⟩)
      have RS:=R5.out.set (.slice A5 n5 c5) (.int .i64 (tyE rx));obtain⟨s0,s1,-,-⟩:=RS;have GF:=hi9 (zq (S:=fun b=>b<W.heap.size) (r:=rx) N5.out FX.out B5.out (show w.heap.size≤w.heap.size+1 by omega));obtain⟨r0,r1,z0,z1⟩:=R5.out;go_wp2_with fail;exact bodyPost_ret (v := .agg #[.slice A5 n5 c5,.int .i64 (tyE rx)]) (by simp [results,Tryz.results15,go_sem,s0,s1]) rfl (by rw [HFX.out.1 hu];exact GF.out)
     obtain⟨kk,rfl,hkk,hst⟩:=HFX.out.2 hu;have HKK:=hi9 hkk;have HE6:=hi9 hst;have HST2:=HE6;replace C5:=hi9 (show Vr2 w5 cb5 (.slice A5 n5 c5) (.int .i64 0) from C5.out);replace N5:=hi9 (show Ns w5 A5 n5 c5 kk.flat from N5.out);clear hu hkk hst HFX x0 x1 x2 x3;obtain⟨x0,x1,x2,x3⟩:=X3.out.keep Q5.out;obtain⟨y0,y1,y2,y3⟩:=C5.out;have hgl:∀g,(Value.slice A8 j c8).ownBlock=some g→wb.heap.size≤g∧g<w3.heap.size:=zbt hG.out.own;have G5:=hi9 (hG.out.keep Q5.out);have AP:=hi9 (show za3 ⟨A5,n5,c5,kk.flat⟩ (Value.slice A8 j c8).ownBlock from fun _ a e q=>by
      have h1:=hgl _ q
      have h2:=HRb.out
      have h3:=HSW.out
      have h4:=HWW.out
      rcases F5.out a e with h4|h4 <;> omega)
     have FN:=hi9 (show∀a,A5=some a→a.block<W.heap.size∨wb.heap.size≤a.block from fun a e=>(F5.out a e).imp id (fun q=>Nat.le_trans hB.out.size q));have HB5:=hi9 (hB.out.trans (Q5.out.mono hB.out.size));have hsz5:=HB5.out.size;have hvl4:Vs.length≤4000:=by omega
     clear hgl;go_wp2_with (at_builtin;go_loud (refine wpList_append_own_at _ rfl _ _ 69 rfl wb.heap.size 30 i0 _ 2 32 Tryz.underlying69 hi hz0' hz1 hz2' rfl (by decide) (.slice A8 j c8) Vs.length (zaw Vs) rfl (G5.out.own.alloc _) ⟨_,0,none⟩ 1 1 [.slice A5 n5 c5,.int .i64 0] rfl rfl (zV _ _ _) (by intro u hu;simp only [List.mem_cons,List.not_mem_nil,or_false] at hu;rcases hu with rfl|rfl <;> rfl) ?c1 ?c2 ?c3 ?_))
     case c1=>unfold maxLen;omega
     case c2=>omega
     case c3=>simp;omega
     intro v1 w6 hown hgrow _ hat;have G6:=hi9 (G5.out.snoc (r:=⟨A5,n5,c5,kk.flat⟩) N5.out AP.out (by rw [hVl];exact hown) hgrow (by simpa using hat));have HB6:=hi9 ((HB5.out.alloc HB5.out.size _).grown hgrow (by simp;omega) (zD G5.out.own));obtain⟨A9,c9,e9,-⟩:=G6.out.at
     subst e9;have hl9:(Vs ++ [(⟨A5,n5,c5,kk.flat⟩:Sl)]).length=j+1:=by simp [hVl]
     have KA6:=hi9 (hKA.out.snoc (r:=⟨A5,n5,c5,kk.flat⟩) (k:=kk) rfl HKK.out.1);have HF6:=hi9 (show∀r∈Vs ++ [(⟨A5,n5,c5,kk.flat⟩:Sl)],∀a,r.A=some a→a.block<W.heap.size∨wb.heap.size≤a.block from fun r hr=>by
      rcases List.mem_append.1 hr with h1|h1
      ·exact hF.out r h1
      ·simp only [List.mem_cons,List.not_mem_nil,or_false] at h1
       subst h1
       exact FN.out)
     rw [hl9] at G6 ⊢;clear hown hgrow hat AP FN hG hF hE hB HB5 G5 N5 C5 y0 y1 y2 y3 B5 V5 R5 F5 HC5 Q5 HST2 KX hsz5 hKA;go_wp2_with fail;go_roundw
     case rel=>exact⟨j+1,_,Ks ++ [kk],A9,c9,by go_num,by omega,rfl,hl9,HE6,KA6,G6,HF6,HB6⟩
     case measure=>simp [intOf];omega
  ·have hjp:j=pl:=by omega
   subst hjp;have HAL:=hi9 (show PL.take j=PL from List.take_of_length_le (by rw [HLL2.out];exact Nat.le_refl _));have hE2:=hE.out;rw [HAL.out] at hE2;have HRR:=HEV.out;rw [hE2] at HRR;simp only at HRR;have HRX:=hi9 HRR;have HOK:=hi9 (zkm HST0.out HVA.out hE2);obtain⟨A9,c9,e9,hGs⟩:=hG.out.at
   injection e9 with e91 e92 e93;subst e91;subst e93;have HGs:=hi9 hGs;have V3:=hi9 (Vb.out.keep hB.out);have HRB3:=hi9 (show w.heap.size+1<w3.heap.size from block_lt_of_cell R3.out.c0);have HWB:=hi9 (show wb.heap.size≤w3.heap.size from hB.out.size);have HKN:=hi9 (show(Ks.length:Int)=zp n from by rw [←hKA.out.len,hVl,HPL.out];exact HPN.out);have hj4:j≤4000:=hps;have HGB:=hi9 (show∀ga,A8=some ga→wb.heap.size≤ga.block from fun ga e=>(zbt hG.out.own ga.block (by rw [e];rfl)).1);clear e92 hGs hE2 HRR HEV hE HAL hG;have hj3:j=3:=by
    have h1:=hKA.out.len;have h2:=HKN.out;unfold zp at h2;rw [if_neg (by have:=H13.out;omega),if_neg (by have:=H13.out;omega),if_neg (by have:=H13.out;omega),if_pos H13.out] at h2;omega
   subst hj3;obtain⟨r0,r1,r2,rfl⟩:∃r0 r1 r2,Vs = [r0,r1,r2]:=by
    match Vs,hVl with
    | [r0,r1,r2],_=>exact⟨r0,r1,r2,rfl⟩
   obtain⟨k0,k1,k2,rfl⟩:∃k0 k1 k2,Ks = [k0,k1,k2]:=by
    have h1:=hKA.out.len
    match Ks,h1 with
    | [k0,k1,k2],_=>exact⟨k0,k1,k2,rfl⟩
   have HRI:=hi9 (show rr=if zj [41] k0=true then za6 (zm k1 k2) else .error 2 from HRX.out);obtain⟨ga,rfl,u0,u1,hl,hv,hN0,hc⟩:=jo HGs.out hKA.out (show 0 < [r0,r1,r2].length by simp);obtain⟨ga1,e1,u2,-,hl1,hv1,hN1,-⟩:=jo HGs.out hKA.out (show 1 < [r0,r1,r2].length by simp);obtain rfl:ga=ga1:=Option.some.inj e1;obtain⟨ga2,e2,u4,-,hl2,hv2,hN2,-⟩:=jo HGs.out hKA.out (show 2 < [r0,r1,r2].length by simp);obtain rfl:ga=ga2:=Option.some.inj e2;have KC:=hi9 (hc 41 0 w3 (Below.refl _ _));simp only [List.getElem_cons_zero,List.getElem_cons_succ] at u0 u1 u2 u4 hv hN1 hN2 KC;rw [jB _ hv] at KC;rw [show ga.add (0*2)=ga from rfl] at u0 u1;rw [show ga.add (1*2)=⟨ga.block,ga.off+2,none⟩ from rfl] at u2;rw [show ga.add (2*2)=⟨ga.block,ga.off+4,none⟩ from rfl] at u4;have KO1:=HOK.out k1 (by simp);have KO2:=HOK.out k2 (by simp);have KJ:=hi9 (fun w' (hb':Below w3.heap.size w3 w')=>zjT r1.A r2.A r1.n r1.c r2.n r2.c k1 k2 w' KO1 KO2 (hN1.keep hb') (hN2.keep hb'));unfold JnR at KJ;have HS1:=hi9 (hF.out r1 (by simp));have HS2:=hi9 (hF.out r2 (by simp));have U2:=hi9 u2;have U4:=hi9 u4;have HGA:=hi9 (HGB.out ga rfl);have HFL:=hi9 (jd (zm k1 k2));have HLP:=hi9 (jL (zm k1 k2));have hi0:(0:Int)<((3:Nat):Int):=by decide
   have hi1:(1:Int)<((3:Nat):Int):=by decide
   have hi2:(2:Int)<((3:Nat):Int):=by decide
   have h03:0<3:=by decide
   have h13':1<3:=by decide
   have h23:2<3:=by decide
   clear hl hv hN0 hc e1 hl1 hv1 hN1 e2 hl2 hv2 hN2 hKA HGs HRX hF u2 u4 KO1 KO2 HOK HGB;go_wp2_with fail;refine KC.out.mono ?_;rintro e w4 ⟨rfl,b4⟩;have B4:=bh B3 b4;have R4:=hi9 (R3.out.keep b4);have u2:=zb b4 U2.out;have u4:=zb b4 U4.out;have W4:=hi9 b4;clear b4 KC u0 u1 x0 x1 x2 x3;obtain⟨x0,x1,x2,x3⟩:=X3.out.keep W4.out;rcases hb:zj [41] k0 with _|_
   ·have HRE:=hi9 (show rr = .error 2 from by rw [HRI.out,hb];rfl);go_wp2_with fail;refine(zH _ _).mono ?_;rintro e w7 ⟨rfl,b7⟩;have B7:=bh B4 b7;have R7:=hi9 (R4.out.keep b7);clear b7;have RS:=R7.out.set (.slice none 0 0) (.int .i64 2);obtain⟨s0,s1,-,-⟩:=RS;have GF:=hi9 (zq (S:=fun b=>b<W.heap.size) (r := .error 2) (zY _) (zI (S:=fun b=>b<W.heap.size)) B7.out (show w.heap.size≤w.heap.size+1 by omega));obtain⟨r0,r1,z0,z1⟩:=R7.out;go_wp2_with fail;exact bodyPost_ret (v := .agg #[.slice none 0 0,.int .i64 2]) (by simp [results,Tryz.results15,go_sem,s0,s1]) rfl (by rw [HRE.out];exact GF.out)
   ·have HRE:=hi9 (show rr=za6 (zm k1 k2) from by rw [HRI.out,hb];rfl);have hgb:w.heap.size+1<ga.block:=by
     have h1:=HGA.out;have h2:=HRb.out;omega
    have KK:∀w':World,Below w4.heap.size w4 w'→w'.cell? ⟨ga.block,ga.off+2,none⟩=some (.slice r1.A r1.n r1.c)∧w'.cell? ⟨ga.block,ga.off+4,none⟩=some (.slice r2.A r2.n r2.c):=fun w' hb'=>⟨zb hb' u2,zb hb' u4⟩
    have KSt:∀(w'':World) (y z:Value),Below w4.heap.size w4 w''→(fun w':World=>w'.cell? ⟨ga.block,ga.off+2,none⟩=some (.slice r1.A r1.n r1.c)∧w'.cell? ⟨ga.block,ga.off+4,none⟩=some (.slice r2.A r2.n r2.c)) ((w''.setCell ⟨w.heap.size+1,0,none⟩ y).setCell ⟨w.heap.size+1,1,none⟩ z):=fun w'' y z hb'=>by
     have hg:=jH w'' (w.heap.size+1) y z;have n3:some ga.block≠some (w.heap.size+1):=fun e=>by injection e with e;omega
     exact⟨hg.cell (zb hb' u2) n3,hg.cell (zb hb' u4) n3⟩
    have KJ4:=hi9 (fun w' (hb':Below w4.heap.size w4 w')=>KJ.out w' (bh W4 hb').out);have PX:=hi9 (zU w4);have hz34:wb.heap.size≤w4.heap.size:=Nat.le_trans HWB.out W4.out.size;obtain⟨ln,hln⟩:∃ln,ln=(zm k1 k2).flat.length:=⟨_,rfl⟩
    rw [←hln] at KJ4 HFL HLP;clear KJ hln;go_wp2_with fail;go_region_held3 (fun w':World=>w'.cell? ⟨ga.block,ga.off+2,none⟩=some (.slice r1.A r1.n r1.c)∧w'.cell? ⟨ga.block,ga.off+4,none⟩=some (.slice r2.A r2.n r2.c)) (first|(with_reducible exact KK _ PX.out)|(with_reducible exact KSt _ _ _ PX.out)) (first
     |(go_at_call 32;(with_reducible refine(KJ4.out _ PX.out).mono ?_);rintro e w5 ⟨A5,c5,rfl,hN5,b5,hl5⟩;have PZ:=PX;have PX:=bh PX b5;have KS:=hi9 (zjX (fun b=>b<W.heap.size∨wb.heap.size≤b) A5 ln c5 (zm k1 k2) w5 hN5 (fun a e=>⟨zs1 hl5 HS1.out HS2.out (Nat.le_trans hz34 PZ.out.size) a e,zbv (by rw [←e];exact hN5) (by intro q;have:=HLP.out;have:=HFL.out;have:=jd (zm k1 k2);rw [q] at this;simp at this;omega)⟩));rw [←HRE.out] at KS;unfold zR at KS)
     |(go_at_call 30;(with_reducible refine KS.out.mono ?_);rintro e w6 ⟨A6,n6,c6,rfl,hN6,hf6,b6⟩;have PZ:=PX;have PX:=bh PX b6;have R6:=hi9 (R4.out.keep PX.out);obtain⟨r0,r1,z0,z1⟩:=R6.out)|fail)
    have B6:=bh B4 PX.out;have N6:=hi9 hN6;have FX:=hi9 (show∀a,A6=some a→(a.block<W.heap.size∨w.heap.size≤a.block)∧a.block≠w.heap.size+1 from fun a e=>by
     have h2:=HRb.out
     have h3:=HSW.out
     have h4:=PZ.out.size
     rcases hf6 a e with (h1|h1)|h1
     ·exact⟨.inl h1,by omega⟩
     ·exact⟨.inr (by omega),by omega⟩
     ·exact⟨.inr (by omega),by omega⟩)
    have RS:=R6.out.set (.slice A6 n6 c6) (.int .i64 (tyE rr));obtain⟨s0,s1,-,-⟩:=RS;have GF:=hi9 (zq (S:=fun b=>b<W.heap.size) (r:=rr) N6.out FX.out B6.out (show w.heap.size≤w.heap.size+1 by omega));obtain⟨r0,r1,z0,z1⟩:=R6.out;go_wp2_with fail;exact bodyPost_ret (v := .agg #[.slice A6 n6 c6,.int .i64 (tyE rr)]) (by simp [results,Tryz.results15,go_sem,s0,s1]) rfl GF.out
end Go.Proofs.YtjcdeikbghjpkaaGreatDoor
