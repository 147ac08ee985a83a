/-
  The document's Worth, over the parts. (gen_refwo2.py) The document's Worth, of ..
-/
import Derived.Test.YtokiogmfgpidmaaGreatDoorD46
set_option maxRecDepth 100000
set_option maxHeartbeats 16000000
namespace Go.Proofs.YtokiogmfgpidmaaGreatDoor
open Go.RowKit Go.Wk Go.Sort
theorem zh8(W:World)(k:Cx)(N:Nat)(hW:Rk W k N)(n:Nd)(ps:Exs)(p:Nat)(w:World)(hCW:Po W k)(h:Po w k)(hb:Below W.heap.size W w)(hk:k.n<=4000)(hx:XAt k.P p false (.node n ps))(hN:ps.flat.length<=N)(h5:5<=n.op)(h8:n.op≠8)(h11:n.op≠11)(h12:n.op≠12)(h13:n.op≠13):
 Calls Tryz.prog 23 #[.slice k.EA k.en k.ec,k.q.v,.slice k.A k.n k.c,.int .i64 p] w (zK (λb=>b<W.heap.size) w (evX k.env (.node n ps))):=by
 obtain⟨i0,hi,hz0',hz1,hz2'⟩:=info_parts zpw;have KPo:=O (λw' (hb':Below w.heap.size w w')=>NK k.A k.n k.c k.P p false (.node n ps) w' (h.ns.keep hb') hk hx);have HPT:=O (λ(j:Nat) (x:Ex) (e:(ps.list.map (E5 (zB n)))[j]?=some x)=>zev hx.parts hN e);obtain⟨L,hL⟩:∃L,L=ps.list.map (E5 (zB n)):=⟨_,rfl⟩
 have HLL:=O (show L.length=ps.len from by rw [hL,List.length_map,Mg]);have HEV:=O (show evX k.env (.node n ps)=(match evL k.env L with
  | .error e => .error e
  | .ok V=>if n.op=6 then z6 (oC (ps.list.map λx=>x.head.s) V) (Ki (ps.list.map λx=>x.head.s) V) else if n.op=5 then z6 (Wk.setE V) (Wk.setV V) else NC k.env.E n V) from by
  rw [hL];exact zf9 k.env n ps _ hx.valid.2.2 (by omega) h8 (by omega) h13)
 have HOKV:=O (λ(x:Ex) (q:Nat) (e:XAt k.P q false x) (V:List Nd) (z:evX k.env x = .ok V)=>Jm h.ok x false e.valid V z);have HNZ:=O (λ(x:Ex) (q:Nat) (e:XAt k.P q false x) (u:Int) (z:evX k.env x = .error u)=>λ(h0:u=0)=>Mv x e.valid (z.trans (by rw [h0])));rw [<-hL] at HPT;have KW:=O (λ(x:Ex) (q:Nat) (e:XAt k.P q false x) (l:x.flat.length<=N) w' (hb':Below w.heap.size w w')=>hW x q w' (h.keep hb') (hb.trans (hb'.mono hb.size)) e l);have HCX:=O (λw' (hb':Below w.heap.size w w')=>h.keep hb');have VO:=O hb.size;have HPN:=O (show(ps.len:Int)=zC n from hx.valid.2.1);have HFD:=O (show je n=true/\n.op≠7 from by
  have h1:=hx.valid.1
  unfold jC at h1
  rw [Bool.and_eq_true] at h1
  exact⟨h1.1,by simpa using h1.2⟩)
 have HES:=O hCW.ok.e;have HEA:=O (show∀y∈k.E,∀a,y.NA=some a->a.block<W.heap.size from λy hy a e=>by
  obtain⟨t,ht,rfl⟩:=List.getElem_of_mem hy
  obtain⟨-,-,-,-,-,-,hok⟩:=hCW.es.at_ t _ (List.getElem?_eq_getElem ht)
  exact hok.ns.at_.lt (zk (Qn (sM.1 hCW.ok.e).2.1 hy).1) a e)
 have HNA:=O (show∀(t q:Nat),t<ps.len->(qm (zB n) (p+1) ps)[t]?=some q->∃x:Nd,k.P[q-1]?=some x/\(KZ k.P (zB n) (p+1) ps)[t]?=some x.s/\1<=q from λt q ht e=>by
  have hyl:t<ps.list.length:=by rw [Mg];exact ht
  obtain⟨q',e1,e2,-⟩:=hx.parts.at t _ (List.getElem?_eq_getElem hyl)
  have e1':(qm (zB n) (p+1) ps)[t]?=some q':=e1
  rw [e] at e1'
  injection e1' with e1'
  subst e1'
  have h1:=e2.le
  have h2:=jp (E5 (zB (Ex.node n ps).head) ps.list[t])
  have hge:p+1<=q:=zeX _ _ _ _ (List.mem_of_getElem? e)
  have hlt:q-1<k.P.length:=by omega
  exact⟨k.P[q-1],List.getElem?_eq_getElem hlt,zf6 ht e _ (List.getElem?_eq_getElem hlt),by omega⟩)
 have HNK:=O (show∀x∈KZ k.P (zB n) (p+1) ps,x.size<=maxLen from λx hx'=>by
  unfold KZ at hx'
  obtain⟨q,-,rfl⟩:=List.mem_map.1 hx'
  rcases hq:k.P[q-1]? with _|z
  ·exact Nat.zero_le _
  ·exact(h.ns.ok z (List.mem_of_getElem? hq)).s)
 have HNR:=O (show n.op=6->(ps.list.map λx=>x.head.s)=KZ k.P (zB n) (p+1) ps from λh6=>by
  have hr:zB n=true:=decide_eq_true h6
  have hp:=hx.parts
  rw [show(Ex.node n ps).head=n from rfl,hr] at hp
  rw [hr]
  exact(zea hp).symm)
 have HNL:=O (UV k.P (zB n) (p+1) ps);obtain⟨NM,hNM⟩:∃NM,NM=KZ k.P (zB n) (p+1) ps:=⟨_,rfl⟩
 rw [<-hNM] at HNA HNK HNR HNL;clear hNM;obtain⟨i1,hi1,hjz0,hjz1,hjz2⟩:=info_parts ML;obtain⟨i2,hi2,hkz0,hkz1,hkz2⟩:=info_parts OC;have hps:ps.len<=4000:=by
  have h1:=hx.le;have h2:=gY ps;have h3:(Ex.node n ps).flat.length=ps.flat.length+1:=by simp [Ex.flat]
  rw [<-h.ns.len] at h1;omega
 have HLE:=O hL;unfold zK Rq.v at KW;obtain⟨a0,ea,d0,d1,d2,d3⟩:=h.ns.at_ p n hx.head;have hpn:p<k.n:=by rw [h.ns.len];exact(List.getElem?_eq_some_iff.1 hx.head).1
 have hok:Kb n:=h.ns.ok _ (List.mem_of_getElem? hx.head);have HH:=O h;rw [ea];have HRN:=O (show zB n=zB n from rfl);generalize n=y at *;have B1:Below w.heap.size w (w.alloc (.cells #[.string k.q.who.1,.string k.q.who.2,.string k.q.act.1,.string k.q.act.2,.string k.q.what.1,.string k.q.what.2,.slice k.q.NA k.q.nn k.q.nc] 38)):=zb w _;have B2:Below w.heap.size w ((w.alloc (.cells #[.string k.q.who.1,.string k.q.who.2,.string k.q.act.1,.string k.q.act.2,.string k.q.what.1,.string k.q.what.2,.slice k.q.NA k.q.nn k.q.nc] 38)).alloc (.cells #[.slice none 0 0,.int .i64 0] 61)):=B1.trans ((zb (w.alloc (.cells #[.string k.q.who.1,.string k.q.who.2,.string k.q.act.1,.string k.q.act.2,.string k.q.what.1,.string k.q.what.2,.slice k.q.NA k.q.nn k.q.nc] 38)) _).mono B1.size);have B0:=O (show Below w.heap.size w (((w.alloc (.cells #[.string k.q.who.1,.string k.q.who.2,.string k.q.act.1,.string k.q.act.2,.string k.q.what.1,.string k.q.what.2,.slice k.q.NA k.q.nn k.q.nc] 38)).alloc (.cells #[.slice none 0 0,.int .i64 0] 61)).alloc (.cells #[.int .i64 y.op,.int .i64 y.n,.string y.s,.string y.t] 28)) from B2.trans ((zb ((w.alloc (.cells #[.string k.q.who.1,.string k.q.who.2,.string k.q.act.1,.string k.q.act.2,.string k.q.what.1,.string k.q.what.2,.slice k.q.NA k.q.nn k.q.nc] 38)).alloc (.cells #[.slice none 0 0,.int .i64 0] 61)) _).mono B2.size));have hz2:((w.alloc (.cells #[.string k.q.who.1,.string k.q.who.2,.string k.q.act.1,.string k.q.act.2,.string k.q.what.1,.string k.q.what.2,.slice k.q.NA k.q.nn k.q.nc] 38)).alloc (.cells #[.slice none 0 0,.int .i64 0] 61)).heap.size=w.heap.size+1+1:=by simp [go_sem]
 have hz0:(((w.alloc (.cells #[.string k.q.who.1,.string k.q.who.2,.string k.q.act.1,.string k.q.act.2,.string k.q.what.1,.string k.q.what.2,.slice k.q.NA k.q.nn k.q.nc] 38)).alloc (.cells #[.slice none 0 0,.int .i64 0] 61)).alloc (.cells #[.int .i64 y.op,.int .i64 y.n,.string y.s,.string y.t] 28)).heap.size=w.heap.size+1+1+1:=by simp [go_sem]
 have W0:=O (((Pi w k.q 38).keep (zb (w.alloc (.cells #[.string k.q.who.1,.string k.q.who.2,.string k.q.act.1,.string k.q.act.2,.string k.q.what.1,.string k.q.what.2,.slice k.q.NA k.q.nn k.q.nc] 38)) (.cells #[.slice none 0 0,.int .i64 0] 61))).keep (zb ((w.alloc (.cells #[.string k.q.who.1,.string k.q.who.2,.string k.q.act.1,.string k.q.act.2,.string k.q.what.1,.string k.q.what.2,.slice k.q.NA k.q.nn k.q.nc] 38)).alloc (.cells #[.slice none 0 0,.int .i64 0] 61)) (.cells #[.int .i64 y.op,.int .i64 y.n,.string y.s,.string y.t] 28)));have X0:=LW ((w.alloc (.cells #[.string k.q.who.1,.string k.q.who.2,.string k.q.act.1,.string k.q.act.2,.string k.q.what.1,.string k.q.what.2,.slice k.q.NA k.q.nn k.q.nc] 38)).alloc (.cells #[.slice none 0 0,.int .i64 0] 61)) y 28;rw [hz2] at X0;have R0:=O ((MV w (.cells #[.string k.q.who.1,.string k.q.who.2,.string k.q.act.1,.string k.q.act.2,.string k.q.what.1,.string k.q.what.2,.slice k.q.NA k.q.nn k.q.nc] 38) 61).keep (zb ((w.alloc (.cells #[.string k.q.who.1,.string k.q.who.2,.string k.q.act.1,.string k.q.act.2,.string k.q.what.1,.string k.q.what.2,.slice k.q.NA k.q.nn k.q.nc] 38)).alloc (.cells #[.slice none 0 0,.int .i64 0] 61)) (.cells #[.int .i64 y.op,.int .i64 y.n,.string y.s,.string y.t] 28)));replace d0:=za B2 d0;replace d1:=za B2 d1;replace d2:=za B2 d2;replace d3:=za B2 d3;clear B1 B2 hz2;have f1:(1:Int)<=y.op:=by omega
 have f2:¬y.op<=(4:Int):=by omega
 have g8:(y.op==8)=false:=beq_eq_false_iff_ne.2 h8;have g11:(y.op==11)=false:=beq_eq_false_iff_ne.2 h11;have g12:(y.op==12)=false:=beq_eq_false_iff_ne.2 h12;have g13:(y.op==13)=false:=beq_eq_false_iff_ne.2 h13;obtain⟨x0,x1,x2,x3⟩:=X0;have X0:Vn (((w.alloc (.cells #[.string k.q.who.1,.string k.q.who.2,.string k.q.act.1,.string k.q.act.2,.string k.q.what.1,.string k.q.what.2,.slice k.q.NA k.q.nn k.q.nc] 38)).alloc (.cells #[.slice none 0 0,.int .i64 0] 61)).alloc (.cells #[.int .i64 y.op,.int .i64 y.n,.string y.s,.string y.t] 28)) (w.heap.size+1+1) y:=⟨x0,x1,x2,x3⟩
 have ZA:=O X0;obtain⟨rr,Ol⟩:∃rr,rr=evX k.env (.node y ps):=⟨_,rfl⟩
 rw [<-Ol] at HEV ⊢;rw [ea] at KPo KW;unfold Rq.v;dsimp only [Ex.parts,Ex.head] at KPo;clear h hx hok hz0 Ol hb hW X0 HRN hL hN hCW;go_enter Tryz.func23,Tryz.ntmps23;go_wp2_with fail;refine(KPo.o _ B0.o).mono ?_;rintro e w2 ⟨A',c',rfl,hc',hI,b2⟩;have B2:=bh B0 b2;have W2:=O (W0.o.keep b2);have R2:=O (R0.o.keep b2);have X2:=O (ZA.o.keep b2);have HI:=O hI;clear hI b2 B0 W0 R0 ZA KPo x0 x1 x2 x3 d0 d1 d2 d3;obtain⟨x0,x1,x2,x3⟩:=X2.o;have hc4:=hps;obtain⟨pl,hpl⟩:∃pl,pl=ps.len:=⟨_,rfl⟩
 obtain⟨m,hm⟩:∃m,m=pl+1:=⟨_,rfl⟩
 have HPL:=O hpl;rw [<-hpl] at hc4 ⊢;rw [<-hm];have hmm:(m:Int)-1=(pl:Int):=by omega
 have hm4:m<=4001:=by omega
 have zn7:=O (show L.length=pl by rw [hpl];exact HLL.o);clear hpl hm hps HLL;go_wp2_with fail;have G0:=O (La.nil w2 w2.heap.size);go_loopw [11,12] (λv i wr=>∃(j:Nat) (Vs:List Sl) (A8:Option Addr) (c8:Nat),i = .int .i64 j/\j<=pl/\v = .slice A8 j c8/\Vs.length=j/\Hid (evL k.env (L.take j)= .ok (Vs.map Sl.P))/\Hid (La wr w2.heap.size v Vs)/\Hid (∀r∈Vs,(∀a,r.A=some a->a.block<W.heap.size\/w2.heap.size<=a.block)/\zc r.P=0)/\Hid (Below w2.heap.size w2 wr)) (λ_ i _=>pl-(intOf i).toNat)
 case atStart=>exact⟨0,[],none,0,rfl,Nat.zero_le _,rfl,rfl,O rfl,G0,O (by intro r hr;cases hr),O (Below.refl _ _)⟩
 case round =>
  clear G0;obtain⟨j,Vs,A8,c8,rfl,hj,rfl,hVl,hE,hG,hF,hB⟩:=hrel;obtain⟨w3,rfl⟩:∃w3:World,w3=wr:=⟨_,rfl⟩
  have B3:=bh B2 hB.o;have R3:=O (R2.o.keep hB.o);have X3:=O (X2.o.keep hB.o);by_cases hlt:j<pl
  ·have Ma:j<L.length:=by rw [zn7.o];exact hlt
   obtain⟨q,e1,hqx,hql⟩:=HPT.o j L[j] (List.getElem?_eq_getElem Ma);obtain⟨a',rfl,qc⟩:=(HI.o.keep hB.o) j q e1;have HST:=O (zjp Ma hE.o);have V3:=O (⟨W2.o.keep hB.o,qc⟩:Vqi w3 w.heap.size k.q (a'.add j) (q:Int));have KX:=O (KW.o L[j] q hqx hql);have HOX:=O (HOKV.o L[j] q hqx);have HZX2:=O (HNZ.o L[j] q hqx);generalize L[j]=x at *;have hjm:(j:Int)<(m:Int):=by omega
   clear e1 hqx hql qc;go_wp2_with fail;have HFX:=O (show(z7 (evX k.env x)≠0->rr=evX k.env x)/\(z7 (evX k.env x)=0->∃V,evX k.env x = .ok V/\zc V=0/\evL k.env (L.take (j+1))= .ok (Vs.map Sl.P ++ [V])) from by
    rcases qx:evX k.env x with u|V
    ·exact⟨λ_=>by rw [HEV.o,HST.o.2 u qx],λh=>absurd h (HZX2.o u qx)⟩
    ·exact⟨λh=>absurd rfl h,λ_=>⟨V,rfl,HOX.o V qx,HST.o.1 V qx⟩⟩)
   generalize evX k.env x=rx at *;clear HST HOX HZX2;have bd:=zW w3;have bx:RowKit.Below w3.heap.size w3 (w3.alloc (.cells #[.slice none 0 0,.int .i64 0] 61)).drew:=(zb w3 _).trans ((zW _).mono (zb w3 _).size);have Vd:=O (V3.o.keep bd);have Vx:=O (V3.o.keep bx);have Bd:=bh B3 bd;have Bx:=bh B3 bx;have Qd:=O bd;have Qx:=O bx;have Rd:=O (R3.o.keep bd);have Rx:=O (R3.o.keep bx);have Cx:=O ((ot w3 (.slice none 0 0) (.int .i64 0) 61).keep (zW _));have K0:=O (KX.o w3.drew Bd.o);have K1:=O (KX.o (w3.alloc (.cells #[.slice none 0 0,.int .i64 0] 61)).drew Bx.o);have hzx:(w3.alloc (.cells #[.slice none 0 0,.int .i64 0] 61)).drew.heap.size=w3.heap.size+1:=by simp [go_sem]
   have HZX:=O hzx;have Xz:w.heap.size+1<w3.heap.size:=block_lt_of_cell R3.o.c0;have ZC:((a'.add j):Addr).block<w3.heap.size:=block_lt_of_cell V3.o.i;have zmv:=O Xz;have hn1:w.heap.size≠w3.heap.size:=by omega
   have hn2:((a'.add j):Addr).block≠w3.heap.size:=Nat.ne_of_lt ZC;clear bd bx hzx;go_region_held3 (λw':World=>w'.cell? ⟨w.heap.size,0,none⟩=some (.string k.q.who.1)/\w'.cell? ⟨w.heap.size,1,none⟩=some (.string k.q.who.2)/\w'.cell? ⟨w.heap.size,2,none⟩=some (.string k.q.act.1)/\w'.cell? ⟨w.heap.size,3,none⟩=some (.string k.q.act.2)/\w'.cell? ⟨w.heap.size,4,none⟩=some (.string k.q.what.1)/\w'.cell? ⟨w.heap.size,5,none⟩=some (.string k.q.what.2)/\w'.cell? ⟨w.heap.size,6,none⟩=some (.slice k.q.NA k.q.nn k.q.nc)/\w'.cell? (a'.add j)=some (.int .i64 ((q:Int):Int))) (first|(with_reducible exact jg Vs.o)|(with_reducible exact jg Vz.o)|(with_reducible exact jg Vy.o)|(with_reducible exact jg V4.o)|(with_reducible exact jg Vx.o)|(with_reducible exact jg Vd.o)|(with_reducible exact jg V3.o)) (first
    |(go_at_call 23;(with_reducible refine K1.o.mono ?_);rintro e w4 ⟨A5,n5,c5,rfl,hN,hf,b4⟩;have N4:=O hN;have F4:=O hf;have B4:=bh Bx b4;have Q4:=bh Qx b4;have V4:=O (Vx.o.keep b4);have R4:=O (Rx.o.keep b4);have C4:=O (Cx.o.keep b4);have Vs:=O (V4.o.but (jX w4 w3.heap.size (.slice A5 n5 c5) (.int .i64 (z7 rx))) hn1 hn2);obtain⟨y0,y1,y2,y3⟩:=C4.o)
    |(go_at_call 23;(with_reducible refine K0.o.mono ?_);rintro e w4 ⟨A5,n5,c5,rfl,hN,hf,b4⟩;have N4:=O hN;have F4:=O hf;have B4:=bh Bd b4;have Q4:=bh Qd b4;have V4:=O (Vd.o.keep b4);have R4:=O (Rd.o.keep b4);have Vy:=O (V4.o.keep (zb w4 (.cells #[.slice none 0 0,.int .i64 0] 61)));have Vz:=O (V4.o.keep (zb w4 (.cells #[.slice A5 n5 c5,.int .i64 (z7 rx)] 61)))))
   focus
    have bz:=zb w4 (.cells #[.slice A5 n5 c5,.int .i64 (z7 rx)] 61);have B5:=bh B4 bz;have V5:=O (V4.o.keep bz);have R5:=O (R4.o.keep bz);have C5:=O (ot w4 (.slice A5 n5 c5) (.int .i64 (z7 rx)) 61);have N5:=O (N4.o.keep bz);have hwj:w3.heap.size<=w4.heap.size:=Q4.o.size;have HC5:=O (show w3.heap.size<=w4.heap.size from hwj);have F5:=O (show∀a,A5=some a->(a.block<W.heap.size\/w3.heap.size<=a.block) from λa e=>(F4.o a e).imp id (λq=>by simpa [go_sem] using q));have Q5:=bh Q4 bz;obtain⟨cb5,hcb⟩:∃cb,w4.heap.size=cb:=⟨_,rfl⟩
    obtain⟨w5,hw5⟩:∃w2,(w4.alloc (.cells #[.slice A5 n5 c5,.int .i64 (z7 rx)] 61))=w2:=⟨_,rfl⟩
    rw [hw5] at B5 V5 R5 C5 N5 Q5 ⊢;rw [hcb] at C5 HC5 ⊢;clear bz hw5 hcb hwj Vy Vz
   rotate_left
   focus
    have hg:=jX w4 w3.heap.size (.slice A5 n5 c5) (.int .i64 (z7 rx));have VC:w.heap.size<=w3.heap.size:=B3.o.size;have B5:=O (yk B4.o VC (.slice A5 n5 c5) (.int .i64 (z7 rx)));have V5:=Vs;have R5:=O (R4.o.but hg (λe=>by injection e with e;omega));have C5:=O (C4.o.set (.slice A5 n5 c5) (.int .i64 (z7 rx)));have HC5:=O (Nat.le_refl w3.heap.size);have N5:=O (N4.o.but hg (λ_ a e q=>by rcases F4.o a e with h1|h1 <;>(have:=VO.o;have:=HZX.o;omega)));have F5:=O (show∀a,A5=some a->(a.block<W.heap.size\/w3.heap.size<=a.block) from λa e=>(F4.o a e).imp id (λq=>by have:=HZX.o;omega));have Q5:=O (yk Q4.o (Nat.le_refl _) (.slice A5 n5 c5) (.int .i64 (z7 rx)));obtain⟨cb5,hcb⟩:∃cb,w3.heap.size=cb:=⟨_,rfl⟩
    obtain⟨w5,hw5⟩:∃w2,((w4.setCell ⟨w3.heap.size,0,none⟩ (.slice A5 n5 c5)).setCell ⟨w3.heap.size,1,none⟩ (.int .i64 (z7 rx)))=w2:=⟨_,rfl⟩
    rw [hw5] at B5 V5 R5 C5 N5 Q5 ⊢;rw [hcb] at C5 ⊢;replace HC5:=O (show w3.heap.size<=cb5 from Nat.le_of_eq hcb);clear hg hw5 hcb VC Vs y0 y1 y2 y3 C4
   rotate_left
   all_goals
    clear V4 B4 R4 N4 F4 Q4 Vd Vx Bd Bx Rd Rx Cx K0 K1 HZX Xz ZC hn1 hn2 b4 hN hf V3 B3 R3 Qd Qx;by_cases hu:z7 rx=0
    case neg =>
     have hf:(z7 rx != 0)=true:=by simpa using hu
     obtain⟨y0,y1,y2,y3⟩:=C5.o;have FX:=O (show∀a,A5=some a->(a.block<W.heap.size\/w.heap.size<=a.block)/\a.block≠w.heap.size+1 from λa e=>by
      have h2:w.heap.size+1<w3.heap.size:=zmv.o
      have h3:=VO.o
      rcases F5.o a e with h1|h1
      ·exact⟨.inl h1,by omega⟩
      ·exact⟨.inr (by omega),by omega⟩)
     have RS:=R5.o.set (.slice A5 n5 c5) (.int .i64 (z7 rx));obtain⟨s0,s1,-,-⟩:=RS;have GF:=O (zD (S:=λb=>b<W.heap.size) (r:=rx) N5.o FX.o B5.o (show w.heap.size<=w.heap.size+1 by omega));obtain⟨r0,r1,z0,z1⟩:=R5.o;go_wp2_with fail;exact bodyPost_ret (v := .agg #[.slice A5 n5 c5,.int .i64 (z7 rx)]) (by simp [results,Tryz.results23,go_sem,s0,s1]) rfl (by rw [HFX.o.1 hu];exact GF.o)
    obtain⟨Vx,rfl,hvx,hst⟩:=HFX.o.2 hu;have HVX:=O hvx;have HST2:=O hst;replace C5:=O (show Vr2 w5 cb5 (.slice A5 n5 c5) (.int .i64 0) from C5.o);replace N5:=O (show Ns w5 A5 n5 c5 Vx from N5.o);clear hu hvx hst HFX;obtain⟨y0,y1,y2,y3⟩:=C5.o;have hgl:∀g,(Value.slice A8 j c8).ownBlock=some g->w2.heap.size<=g/\g<w3.heap.size:=Uy hG.o.own;have G5:=O (hG.o.keep Q5.o);have AP:=O (show td ⟨A5,n5,c5,Vx⟩ (Value.slice A8 j c8).ownBlock from λ_ a e q=>by
     have h1:=hgl _ q
     have h2:w.heap.size<=w2.heap.size:=B2.o.size
     have h3:=VO.o
     rcases F5.o a e with h4|h4 <;> omega)
    have FN:=O (show∀a,A5=some a->a.block<W.heap.size\/w2.heap.size<=a.block from λa e=>(F5.o a e).imp id (λq=>Nat.le_trans hB.o.size q));have HB5:=O (hB.o.trans (Q5.o.mono hB.o.size));have zku:=HB5.o.size;have hvl4:Vs.length<=4000:=by omega
    clear hgl;go_wp2_with (at_builtin;go_loud (refine wpList_append_own_at _ rfl _ _ 83 rfl w2.heap.size 61 i0 _ 2 32 Tryz.underlying83 hi hz0' hz1 hz2' rfl (by decide) (.slice A8 j c8) Vs.length (KY Vs) rfl (G5.o.own.alloc _) ⟨_,0,none⟩ 1 1 [.slice A5 n5 c5,.int .i64 0] rfl rfl (jP _ _ _) (by intro u hu;simp only [List.mem_cons,List.not_mem_nil,or_false] at hu;rcases hu with rfl|rfl <;> rfl) ?c1 ?c2 ?c3 ?_))
    case c1=>unfold maxLen;omega
    case c2=>omega
    case c3=>simp;omega
    intro v1 w6 hown hgrow _ hat;have G6:=O (G5.o.snoc (r:=⟨A5,n5,c5,Vx⟩) N5.o AP.o (by rw [hVl];exact hown) hgrow (by simpa using hat));have HB6:=O ((HB5.o.alloc HB5.o.size _).grown hgrow (by simp;omega) (zR G5.o.own));obtain⟨A9,c9,e9,-⟩:=G6.o.at
    subst e9;have hl9:(Vs ++ [(⟨A5,n5,c5,Vx⟩:Sl)]).length=j+1:=by simp [hVl]
    have HE6:=O (show evL k.env (L.take (j+1))= .ok ((Vs ++ [(⟨A5,n5,c5,Vx⟩:Sl)]).map Sl.P) from by rw [HST2.o,List.map_append];rfl);have HF6:=O (show∀r∈Vs ++ [(⟨A5,n5,c5,Vx⟩:Sl)],(∀a,r.A=some a->a.block<W.heap.size\/w2.heap.size<=a.block)/\zc r.P=0 from λr hr=>by
     rcases List.mem_append.1 hr with h1|h1
     ·exact hF.o r h1
     ·simp only [List.mem_cons,List.not_mem_nil,or_false] at h1
      subst h1
      exact⟨FN.o,HVX.o⟩)
    rw [hl9] at G6 ⊢;clear hown hgrow hat AP FN hG hF hE hB HB5 G5 N5 C5 y0 y1 y2 y3 B5 V5 R5 F5 HC5 Q5 HST2 HVX KX zku;go_wp2_with fail;go_roundw
    case rel=>exact⟨j+1,_,A9,c9,by go_num,by omega,rfl,hl9,HE6,G6,HF6,HB6⟩
    case measure=>simp [intOf];omega
  ·have hjp:j=pl:=by omega
   subst hjp;have RE:=O (show L.take j=L from List.take_of_length_le (by rw [zn7.o];exact Nat.le_refl _));have hE2:=hE.o;rw [RE.o] at hE2;have HRR:=HEV.o;rw [hE2] at HRR;simp only at HRR;have HRX:=O HRR;obtain⟨A9,c9,e9,hGs⟩:=hG.o.at
   injection e9 with e91 e92 e93;subst e91;subst e93;have HGs:=O hGs;have B3S:w2.heap.size<=w3.heap.size:=hB.o.size;have V3:=O (W2.o.keep hB.o);clear e92 hGs hE2 HRR HEV hE RE;by_cases h56:y.op=5\/y.op=6
   ·have HG5:∃b:Bool,(y.op==5)=b/\(y.op==6)= !b/\Hid (rr=if b=true then z6 (Wk.setE (Vs.map Sl.P)) (Wk.setV (Vs.map Sl.P)) else z6 (oC NM (Vs.map Sl.P)) (Ki NM (Vs.map Sl.P))):=by
     rcases h56 with h56|h56
     ·exact⟨true,beq_iff_eq.2 h56,beq_eq_false_iff_ne.2 (by omega),O (by rw [HRX.o,if_neg (show¬y.op=6 by omega),if_pos h56,if_pos (rfl:true=true)])⟩
     ·exact⟨false,beq_eq_false_iff_ne.2 (by omega),beq_iff_eq.2 h56,O (by rw [HRX.o,if_pos h56,HNR.o h56,if_neg (show¬false=true by decide)])⟩
    obtain⟨b,g5,g6,HRY⟩:=HG5;have HP2:=O (λ(t:Nat) (ht:t<j)=>HPT.o t (L[t]'(by rw [zn7.o];exact ht)) (List.getElem?_eq_getElem _));have T0:=O (⟨zX.nil w3 w3.heap.size,World.ownsRow_nil w3 w3.heap.size 9 1,.inl rfl,(by intro r hr;cases hr)⟩:jI w3 w3.heap.size (.slice none 0 0) (.slice none 0 0) (Vs.take 0) (NM.take 0));obtain⟨x0,x1,x2,x3⟩:=X3.o;clear HRX h56 HPT hF;cases b
    all_goals
     simp only [Bool.not_true,Bool.not_false] at g6;go_wp2_with fail;go_loopw [14,15,16] (λvL vN i wr=>∃(t:Nat),i = .int .i64 t/\t<=j/\Hid (jI wr w3.heap.size vL vN (Vs.take t) (NM.take t))/\Hid (Below w3.heap.size w3 wr)) (λ_ _ i _=>j-(intOf i).toNat)
     case atStart=>exact⟨0,rfl,Nat.zero_le _,T0,O (Below.refl _ _)⟩
     case round =>
      clear T0;obtain⟨t,rfl,ht,hT,hBt⟩:=hrel;obtain⟨w4,rfl⟩:∃w4:World,w4=wr:=⟨_,rfl⟩
      have B4:=bh B3 hBt.o;have X4:=O (X3.o.keep hBt.o);have R4:=O (R3.o.keep hBt.o);by_cases hlt:t<j
      ·have htV:t<Vs.length:=by omega
       have zoD:=hBt.o.size;have hNl:NM.length=j:=HNL.o.trans HPL.o.symm;obtain⟨ga,rfl,z0,z1,hNr⟩:=HGs.o t Vs[t] (List.getElem?_eq_getElem htV);have z0:=za hBt.o z0;have z1:=za hBt.o z1;have hVs:=O (List.take_append_getElem htV);have HNr:=O hNr;generalize Ol:Vs[t]=r at *;obtain⟨VT,hVT⟩:∃VT,VT=Vs.take t:=⟨_,rfl⟩
       obtain⟨NT,hNT⟩:∃NT,NT=NM.take t:=⟨_,rfl⟩
       have hlT:VT.length=t:=by rw [hVT,List.length_take];omega
       have hlN:NT.length=t:=by rw [hNT,List.length_take];omega
       rw [<-hVT,<-hNT] at hT;rw [<-hVT] at hVs;have A1:=O (Kp (r:=r) hT.o.a.own HNr.o (Nat.le_refl _));have A2:=O (Kp (r:=r) hT.o.b HNr.o (Nat.le_refl _));clear hNr hVT x0 x1 x2 x3;go_wp2_with (at_builtin;refine wpList_append_own_at _ rfl _ _ 84 rfl w3.heap.size 22 i1 _ 1 24 Tryz.underlying84 hi1 hjz0 hjz1 hjz2 rfl (by decide) _ VT.length (VT.map Sl.v) rfl (hT.o.a.own.alloc _) ⟨_,0,none⟩ 1 1 [.slice r.A r.n r.c] rfl rfl (cell_one_new _ _ _) (by intro u hu;simp only [List.mem_cons,List.not_mem_nil,or_false] at hu;subst hu;rfl) ?c1 ?c2 ?c3 ?_)
       case c1=>unfold maxLen;omega
       case c2=>omega
       case c3=>simp;omega
       intro v1 w5 hown hgrow _ hat;have T5:=O (hT.o.part (r:=r) (HNr.o.keep hBt.o) A1.o A2.o (by rw [hlT];exact hown) hgrow (by simpa using hat));have B5:=O ((hBt.o.alloc zoD _).grown hgrow (by simp;omega) (zR hT.o.a.own));have zku:=B5.o.size;clear hown hgrow hat A1 A2 hT B4 z0 z1;obtain⟨q,e1,-,-⟩:=HP2.o t hlt;obtain⟨a',rfl,qc⟩:=(HI.o.keep (hB.o.trans (B5.o.mono B3S))) t q e1;obtain⟨nd,hnd,VE,hq1⟩:=HNA.o t q (by have:=HPL.o;omega) e1;have htN:t<NM.length:=by omega
       have hNMt:NM[t]=nd.s:=by
        rw [List.getElem?_eq_getElem htN] at VE;injection VE
       have hNs:=O (List.take_append_getElem htN);rw [hNMt] at hNs;clear VE hNMt;have hcx:=(HCX.o _ (bh B3 B5.o)).ns;obtain⟨a1,ea1,d0,d1,d2,d3⟩:=hcx.at_ (q-1) nd hnd;rw [ea] at ea1;injection ea1 with ea1;subst ea1;have hqn:q-1<k.n:=by
        rw [hcx.len];exact(List.getElem?_eq_some_iff.1 hnd).1
       obtain⟨q',rfl⟩:∃q',q=q'+1:=⟨q-1,by omega⟩
       rw [show q'+1-1=q' from rfl] at d2 hqn;have hqm:((q'+1:Nat):Int)-1=(q':Int):=by omega
       rw [<-hNT] at hNs;obtain⟨nms,hnms⟩:∃s,s=nd.s:=⟨_,rfl⟩
       rw [<-hnms] at d2 hNs;clear d0 d1 d3 hnd hcx e1 hNT hnms;go_wp2_with (at_builtin;refine wpList_append_own_at _ rfl _ _ 85 rfl w3.heap.size 9 i2 _ 1 16 Tryz.underlying85 hi2 hkz0 hkz1 hkz2 rfl (by decide) _ NT.length (NT.map Value.string) rfl (T5.o.b.alloc _) ⟨_,0,none⟩ 1 1 [.string nms] rfl rfl (cell_one_new _ _ _) (by intro u hu;simp only [List.mem_cons,List.not_mem_nil,or_false] at hu;subst hu;rfl) ?d1 ?d2 ?d3 ?_)
       case d1=>unfold maxLen;omega
       case d2=>omega
       case d3=>simp;omega
       intro v2 w6 hown hgrow _ hat;have T6:=O (show jI w6 w3.heap.size v1 v2 (Vs.take (t+1)) (NM.take (t+1)) by
        rw [<-hVs.o,<-hNs.o]
        exact T5.o.name (s:=nms) (by simpa [hlN] using hown) hgrow (by simpa using hat))
       have B6:=O ((B5.o.alloc zku _).grown hgrow (by simp;omega) (zR T5.o.b));clear hown hgrow hat T5 B5 hVs hNs d2 qc;go_wp2_with fail;go_roundw
       case rel=>exact⟨t+1,by go_num,by omega,T6,B6⟩
       case measure=>simp [intOf];omega
      have e1:Vs.take t=Vs:=List.take_of_length_le (by omega);have e2:NM.take t=NM:=List.take_of_length_le (by have:=HNL.o;have:=HPL.o;omega);rw [e1,e2] at hT;obtain⟨A10,c10,e10,-,hSl⟩:=hT.o.a.at
      obtain⟨A11,c11,e11,hTx⟩:=ZM hT.o.b;rw [hVl] at e10;subst e10;subst e11;have KC:Hid (_/\_):=O ⟨zgs A10 j c10 Vs w4 hVl.symm (by omega) hSl,zd7 A11 NM.length c11 NM A10 j c10 Vs w4 rfl (by have:=HNL.o;have:=HPL.o;omega) hTx HNK.o hVl.symm (by omega) hSl⟩;clear hSl hTx e1 e2;clear x0 x1 x2 x3;obtain⟨x0,x1,x2,x3⟩:=X4.o;go_wp2_with fail
      first
       | with_reducible refine KC.o.1.mono ?_
       | with_reducible refine KC.o.2.mono ?_
      rintro e w5 h5
      first
       | have h5:=zh7 (N:=NM) (L:=Vs.map Sl.P) HRY.o h5
       | have h5:=zhM (L:=Vs.map Sl.P) HRY.o h5
      obtain⟨A5,n5,c5,rfl,hN,b5,hf⟩:=h5;have N5:=O hN;have F5:=O hf;have B5:=bh B4 b5;have R5:=O (R4.o.keep b5);clear hN hf b5 KC HRY;go_wp2_with fail;refine(zhN A5 n5 c5 (z7 rr) w5).mono ?_;rintro e w6 ⟨rfl,b6⟩;have B6:=bh B5 b6;have R6:=O (R5.o.keep b6);obtain⟨r0,r1,z0,z1⟩:=R6.o;have RS:=R6.o.set (.slice A5 n5 c5) (.int .i64 (z7 rr));obtain⟨s0,s1,-,-⟩:=RS;have GF:=O (zD (S:=λb=>b<W.heap.size) (r:=rr) (N5.o.keep b6) (gZ (S:=λb=>b<W.heap.size) B4.o R4.o F5.o) B6.o (show w.heap.size<=w.heap.size+1 by omega));go_wp2_with fail;exact bodyPost_ret (v := .agg #[.slice A5 n5 c5,.int .i64 (z7 rr)]) (by simp [results,Tryz.results23,go_sem,s0,s1]) rfl GF.o
   have g5:(y.op==5)=false:=beq_eq_false_iff_ne.2 (λq=>h56 (.inl q));have g6:(y.op==6)=false:=beq_eq_false_iff_ne.2 (λq=>h56 (.inr q));have HRY:=O (show rr=NC k.env.E y (Vs.map Sl.P) from by rw [HRX.o,if_neg (λq=>h56 (.inr q)),if_neg (λq=>h56 (.inl q))]);obtain⟨x0,x1,x2,x3⟩:=X3.o;by_cases Nn:y.op=9\/y.op=10\/21<=y.op/\y.op<=24
   ·have hj1:j=1:=by
     have:=HPN.o;rw [<-HPL.o] at this;unfold zC at this;rw [if_neg h56,if_neg (by omega),if_pos (by omega)] at this;omega
    subst hj1;obtain⟨r,rfl⟩:∃r,Vs = [r]:=by
     match Vs,hVl with
     | [r],_=>exact⟨r,rfl⟩
    obtain⟨ga,rfl,q0,q1,hNr⟩:=HGs.o 0 r rfl;rw [show ga.add (0*2)=ga from rfl] at q0 q1;obtain⟨hFr,hvr⟩:=hF.o r (by simp);have K1:=O (λw' (hb':Below w3.heap.size w3 w')=>zld (λb=>b<W.heap.size\/w2.heap.size<=b) k.EA k.en k.ec k.E y Nn (λq=>by
     have h1:=HFD.o.1
     unfold je at h1
     rw [if_neg (by omega)] at h1
     by_cases c:zC y<0\/y.n≠0\/y.t≠emp
     ·rw [if_pos c] at h1
      cases h1
     ·rw [if_neg c,if_neg (by omega),if_neg (by omega),if_pos q] at h1
      simpa using h1) r.A r.n r.c r.P w' ((HCX.o _ (bh B3 hb').o).es) HES.o (hNr.keep hb') hvr hFr (λz hz a e => .inl (HEA.o z hz a e)))
    rw [show jv k.E y r.P=rr from by rw [HRY.o];rfl] at K1;unfold zK ndV at K1;clear HRY HRX hF hNr hFr hvr HGs;go_wp2_with fail;have hgb:w2.heap.size<=ga.block:=(Uy hG.o.own _ rfl).1;have hr2:w.heap.size+1<w2.heap.size:=block_lt_of_cell R2.o.c0;have bd:=zW w3;have Y3:=O (⟨⟨x0,x1,x2,x3⟩,q0,q1⟩:Vn1 w3 (w.heap.size+1+1) y ga r.A r.n r.c);have Yd:=O (Y3.o.keep bd);have Bd:=bh B3 bd;have Rd:=O (R3.o.keep bd);have K0:=O (K1.o w3.drew bd);have hn1:w.heap.size+1+1≠w.heap.size+1:=by omega
    have hn2:ga.block≠w.heap.size+1:=by omega
    clear bd;go_region_held3 (λw':World=>w'.cell? ⟨w.heap.size+1+1,0,none⟩=some (.int .i64 y.op)/\w'.cell? ⟨w.heap.size+1+1,1,none⟩=some (.int .i64 y.n)/\w'.cell? ⟨w.heap.size+1+1,2,none⟩=some (.string y.s)/\w'.cell? ⟨w.heap.size+1+1,3,none⟩=some (.string y.t)/\w'.cell? ga=some (.slice r.A r.n r.c)/\w'.cell? ⟨ga.block,ga.off+1,none⟩=some (.int .i64 0)) (first|(with_reducible exact Tc Ys.o)|(with_reducible exact Tc Y4.o)|(with_reducible exact Tc Yd.o)|(with_reducible exact Tc Y3.o)) (first
     |(go_at_call 46;(with_reducible refine K0.o.mono ?_);rintro e w4 ⟨A4,n4,c4,rfl,hN,hf,b4⟩;have N4:=O hN;have F4:=O hf;have B4:=bh Bd b4;have R4:=O (Rd.o.keep b4);have Y4:=O (Yd.o.keep b4);have Ys:=O (Y4.o.but (jX w4 (w.heap.size+1) (.slice A4 n4 c4) (.int .i64 (z7 rr))) hn1 hn2);obtain⟨r0,r1,z0,z1⟩:=R4.o))
    have RS:=R4.o.set (.slice A4 n4 c4) (.int .i64 (z7 rr));obtain⟨s0,s1,-,-⟩:=RS;have FX:∀a,A4=some a->(a.block<W.heap.size\/w.heap.size<=a.block)/\a.block≠w.heap.size+1:=λa e=>by
     have h3:=VO.o;have h4:w2.heap.size<=w3.drew.heap.size:=B3S;rcases F4.o a e with (h1|h1)|h1
     ·exact⟨.inl h1,by omega⟩
     ·exact⟨.inr (by omega),by omega⟩
     ·exact⟨.inr (by omega),by omega⟩
    have GF:=O (zD (S:=λb=>b<W.heap.size) (r:=rr) N4.o FX B4.o (show w.heap.size<=w.heap.size+1 by omega));go_wp2_with fail;exact bodyPost_ret (v := .agg #[.slice A4 n4 c4,.int .i64 (z7 rr)]) (by simp [results,Tryz.results23,go_sem,s0,s1]) rfl GF.o
   have zmh:j=2/\(14<=y.op/\y.op<=20\/25<=y.op/\y.op<=27):=by
    have h1:=HPN.o;have h7:=HFD.o.2;rw [<-HPL.o] at h1;unfold zC at h1;rw [if_neg h56] at h1
    repeat' split at h1
    all_goals omega
   obtain⟨hj2,zek⟩:=zmh;subst hj2;obtain⟨r,s,rfl⟩:∃r s,Vs = [r,s]:=by
    match Vs,hVl with
    | [r,s],_=>exact⟨r,s,rfl⟩
   ·obtain⟨ga,rfl,q0,q1,hNr⟩:=HGs.o 0 r rfl;obtain⟨ga',ega,q2,q3,hNs⟩:=HGs.o 1 s rfl;injection ega with ega;subst ega;rw [show ga.add (0*2)=ga from rfl] at q0 q1;rw [show ga.add (1*2)=⟨ga.block,ga.off+2,none⟩ from rfl] at q2 q3;obtain⟨hFr,hvr⟩:=hF.o r (by simp);obtain⟨hFs,hvs⟩:=hF.o s (by simp);have K1:=O (λw' (hb':Below w3.heap.size w3 w')=>zll (λb=>b<W.heap.size\/w2.heap.size<=b) y.op zek k.EA k.en k.ec k.E r.A s.A r.n s.n r.c s.c r.P s.P w' (hNr.keep hb') (hNs.keep hb') hvr hvs ((HCX.o _ (bh B3 hb').o).es) HES.o);rw [show jO k.E y.op r.P s.P=rr from by rw [HRY.o];rfl] at K1;unfold zK at K1;clear HRY HRX hF hNr hFr hvr hNs hFs hvs HGs;go_wp2_with fail;have hgb:w2.heap.size<=ga.block:=(Uy hG.o.own _ rfl).1;have hr2:w.heap.size+1<w2.heap.size:=block_lt_of_cell R2.o.c0;have bd:=zW w3;have Y3:=O (⟨⟨⟨x0,x1,x2,x3⟩,q0,q1⟩,q2,q3⟩:Vn2 w3 (w.heap.size+1+1) y ga r.A s.A r.n r.c s.n s.c);have Yd:=O (Y3.o.keep bd);have Bd:=bh B3 bd;have Rd:=O (R3.o.keep bd);have K0:=O (K1.o w3.drew bd);have hn1:w.heap.size+1+1≠w.heap.size+1:=by omega
    have hn2:ga.block≠w.heap.size+1:=by omega
    clear bd;go_region_held3 (λw':World=>w'.cell? ⟨w.heap.size+1+1,0,none⟩=some (.int .i64 y.op)/\w'.cell? ga=some (.slice r.A r.n r.c)/\w'.cell? ⟨ga.block,ga.off+1,none⟩=some (.int .i64 0)/\w'.cell? ⟨ga.block,ga.off+2,none⟩=some (.slice s.A s.n s.c)/\w'.cell? ⟨ga.block,ga.off+2+1,none⟩=some (.int .i64 0)) (first|(with_reducible exact SY Ys.o)|(with_reducible exact SY Y4.o)|(with_reducible exact SY Yd.o)|(with_reducible exact SY Y3.o)) (first
     |(go_at_call 47;(with_reducible refine K0.o.mono ?_);rintro e w4 ⟨A4,n4,c4,rfl,hN,hf,b4⟩;have N4:=O hN;have F4:=O hf;have B4:=bh Bd b4;have R4:=O (Rd.o.keep b4);have Y4:=O (Yd.o.keep b4);have Ys:=O (Y4.o.but (jX w4 (w.heap.size+1) (.slice A4 n4 c4) (.int .i64 (z7 rr))) hn1 hn2);obtain⟨r0,r1,z0,z1⟩:=R4.o))
    have RS:=R4.o.set (.slice A4 n4 c4) (.int .i64 (z7 rr));obtain⟨s0,s1,-,-⟩:=RS;have FX:∀a,A4=some a->(a.block<W.heap.size\/w.heap.size<=a.block)/\a.block≠w.heap.size+1:=λa e=>by
     have h3:=VO.o;have h4:w2.heap.size<=w3.drew.heap.size:=B3S;rcases F4.o a e with (h1|h1)|h1
     ·exact⟨.inl h1,by omega⟩
     ·exact⟨.inr (by omega),by omega⟩
     ·exact⟨.inr (by omega),by omega⟩
    have GF:=O (zD (S:=λb=>b<W.heap.size) (r:=rr) N4.o FX B4.o (show w.heap.size<=w.heap.size+1 by omega));go_wp2_with fail;exact bodyPost_ret (v := .agg #[.slice A4 n4 c4,.int .i64 (z7 rr)]) (by simp [results,Tryz.results23,go_sem,s0,s1]) rfl GF.o
theorem Xd{ps:Exs}(h:ps.len=2):∃a b,ps = .cons a (.cons b .nil):=by
 match ps,h with
 | .cons a (.cons b .nil),_=>exact⟨a,b,rfl⟩
theorem RR{ps:Exs}(h:ps.len=3):∃a b c,ps = .cons a (.cons b (.cons c .nil)):=by
 match ps,h with
 | .cons a (.cons b (.cons c .nil)),_=>exact⟨a,b,c,rfl⟩
theorem zgS(x:Ex):E5 false x=x:=by cases x;rfl
theorem zlN(W:World)(k:Cx)(N:Nat)(hW:Rk W k N)(n:Nd)(ps:Exs)(p:Nat)(w:World)(h:Po w k)(hb:Below W.heap.size W w)(hx:XAt k.P p false (.node n ps))(hN:ps.flat.length<=N)(h4:ps.len+1<=4000)(h3:n.op=11\/n.op=12\/n.op=13)(A':Option Addr)(c':Nat)(hI:Oh w A' (qm (zB n) (p+1) ps)):
 Calls Tryz.prog 42 #[.slice k.EA k.en k.ec,k.q.v,.slice k.A k.n k.c,.int .i64 n.op,.slice A' (ps.len+1) c'] w (zK (λb=>b<W.heap.size) w (evX k.env (.node n ps))):=by
 have hr:zB n=false:=decide_eq_false (by omega);have hp:Pd k.P (p+1) (zB n) ps:=hx.parts;rw [hr] at hp;rw [hr] at hI;have hl:(ps.len:Int)=zC n:=hx.valid.2.1;have hc:∀(j:Nat) (x:Ex),ps.list[j]?=some x->∃q:Nat,(∃a,A'=some a/\w.cell? (a.add j)=some (.int .i64 (q:Int)))/\XAt k.P q false x/\x.flat.length<=N:=λj x e=>by
  obtain⟨q,z,xa,la⟩:=zev hp hN (j:=j) (x:=x) (by rw [List.getElem?_map,e];exact congrArg some (zgS x));exact⟨q,hI j q z,xa,la⟩
 have hE:∀o:Bool,n.op=(if o then 12 else 11)->evX k.env (.node n ps)=jK k.env o ps:=λo e=>by
  rw [evX];cases o
  ·rw [if_neg (by simp at e;omega),if_neg (by simp at e;omega),if_pos (by simp at e;omega),decide_eq_false (by simp at e;omega)]
  ·rw [if_neg (by simp at e;omega),if_neg (by simp at e;omega),if_pos (by simp at e;omega),decide_eq_true (by simp at e;omega)]
 by_cases h13:n.op=13
 ·have hl3:ps.len=3:=by
   unfold zC at hl
   repeat' split at hl
   all_goals omega
  obtain⟨a,b,c,rfl⟩:=RR hl3;obtain⟨q0,⟨a',rfl,c0⟩,xa,la⟩:=hc 0 a rfl;obtain⟨q1,⟨a1,e1,c1⟩,xb,lb⟩:=hc 1 b rfl;obtain⟨q2,⟨a2,e2,c2⟩,xc,lc⟩:=hc 2 c rfl;injection e1 with e1;subst e1;injection e2 with e2;subst e2;have K:=zfV W k N hW a b c a' 4 c' q0 q1 q2 w h hb (by omega) (by omega) c0 c1 c2 xa xb xc la lb lc;rw [show evX k.env (.node n (.cons a (.cons b (.cons c .nil))))=MZ k.env (.cons a (.cons b (.cons c .nil))) by
   rw [evX,if_neg (by omega),if_neg (by omega),if_neg (by omega),if_pos h13],h13]
  exact K
 ·obtain⟨o,ho⟩:∃o:Bool,n.op=(if o then 12 else 11):=by
   rcases h3 with e|e|e
   ·exact⟨false,e⟩
   ·exact⟨true,e⟩
   ·exact absurd e h13
  have hl2:ps.len=2:=by
   unfold zC at hl
   repeat' split at hl
   all_goals omega
  obtain⟨a,b,rfl⟩:=Xd hl2;obtain⟨q0,⟨a',rfl,c0⟩,xa,la⟩:=hc 0 a rfl;obtain⟨q1,⟨a1,e1,c1⟩,xb,lb⟩:=hc 1 b rfl;injection e1 with e1;subst e1;have K:=zgM W k N hW o a b a' 3 c' q0 q1 w h hb (by omega) (by omega) c0 c1 xa xb la lb;rw [hE o ho,ho];exact K
theorem zlF(W:World)(k:Cx)(N:Nat)(hW:Rk W k N)(n:Nd)(ps:Exs)(p:Nat)(w:World)(h:Po w k)(hb:Below W.heap.size W w)(hk:k.n<=4000)(hx:XAt k.P p false (.node n ps))(hN:ps.flat.length<=N)(h3:n.op=11\/n.op=12\/n.op=13):
 Calls Tryz.prog 23 #[.slice k.EA k.en k.ec,k.q.v,.slice k.A k.n k.c,.int .i64 p] w (zK (λb=>b<W.heap.size) w (evX k.env (.node n ps))):=by
 have hps:ps.len+1<=4000:=by
  have h1:=hx.le;have h2:=gY ps;have h3:(Ex.node n ps).flat.length=ps.flat.length+1:=by simp [Ex.flat]
  rw [<-h.ns.len] at h1;omega
 have KPo:=O (λw' (hb':Below w.heap.size w w')=>NK k.A k.n k.c k.P p false (.node n ps) w' (h.ns.keep hb') hk hx);have KL:=O (λ(A':Option Addr) (c':Nat) w' (hb':Below w.heap.size w w') (hI:Oh w' A' (qm (zB n) (p+1) ps))=>zlN W k N hW n ps p w' (h.keep hb') (hb.trans (hb'.mono hb.size)) hx hN hps h3 A' c' hI);have VO:=O hb.size;obtain⟨a0,ea,d0,d1,d2,d3⟩:=h.ns.at_ p n hx.head;have hpn:p<k.n:=by rw [h.ns.len];exact(List.getElem?_eq_some_iff.1 hx.head).1
 have hok:Kb n:=h.ns.ok _ (List.mem_of_getElem? hx.head);have HH:=O h;rw [ea];generalize n=y at *;have B1:Below w.heap.size w (w.alloc (.cells #[.string k.q.who.1,.string k.q.who.2,.string k.q.act.1,.string k.q.act.2,.string k.q.what.1,.string k.q.what.2,.slice k.q.NA k.q.nn k.q.nc] 38)):=zb w _;have B2:Below w.heap.size w ((w.alloc (.cells #[.string k.q.who.1,.string k.q.who.2,.string k.q.act.1,.string k.q.act.2,.string k.q.what.1,.string k.q.what.2,.slice k.q.NA k.q.nn k.q.nc] 38)).alloc (.cells #[.slice none 0 0,.int .i64 0] 61)):=B1.trans ((zb (w.alloc (.cells #[.string k.q.who.1,.string k.q.who.2,.string k.q.act.1,.string k.q.act.2,.string k.q.what.1,.string k.q.what.2,.slice k.q.NA k.q.nn k.q.nc] 38)) _).mono B1.size);have B0:=O (show Below w.heap.size w (((w.alloc (.cells #[.string k.q.who.1,.string k.q.who.2,.string k.q.act.1,.string k.q.act.2,.string k.q.what.1,.string k.q.what.2,.slice k.q.NA k.q.nn k.q.nc] 38)).alloc (.cells #[.slice none 0 0,.int .i64 0] 61)).alloc (.cells #[.int .i64 y.op,.int .i64 y.n,.string y.s,.string y.t] 28)) from B2.trans ((zb ((w.alloc (.cells #[.string k.q.who.1,.string k.q.who.2,.string k.q.act.1,.string k.q.act.2,.string k.q.what.1,.string k.q.what.2,.slice k.q.NA k.q.nn k.q.nc] 38)).alloc (.cells #[.slice none 0 0,.int .i64 0] 61)) _).mono B2.size));have hz2:((w.alloc (.cells #[.string k.q.who.1,.string k.q.who.2,.string k.q.act.1,.string k.q.act.2,.string k.q.what.1,.string k.q.what.2,.slice k.q.NA k.q.nn k.q.nc] 38)).alloc (.cells #[.slice none 0 0,.int .i64 0] 61)).heap.size=w.heap.size+1+1:=by simp [go_sem]
 have hz0:(((w.alloc (.cells #[.string k.q.who.1,.string k.q.who.2,.string k.q.act.1,.string k.q.act.2,.string k.q.what.1,.string k.q.what.2,.slice k.q.NA k.q.nn k.q.nc] 38)).alloc (.cells #[.slice none 0 0,.int .i64 0] 61)).alloc (.cells #[.int .i64 y.op,.int .i64 y.n,.string y.s,.string y.t] 28)).heap.size=w.heap.size+1+1+1:=by simp [go_sem]
 have W0:=O (((Pi w k.q 38).keep (zb (w.alloc (.cells #[.string k.q.who.1,.string k.q.who.2,.string k.q.act.1,.string k.q.act.2,.string k.q.what.1,.string k.q.what.2,.slice k.q.NA k.q.nn k.q.nc] 38)) (.cells #[.slice none 0 0,.int .i64 0] 61))).keep (zb ((w.alloc (.cells #[.string k.q.who.1,.string k.q.who.2,.string k.q.act.1,.string k.q.act.2,.string k.q.what.1,.string k.q.what.2,.slice k.q.NA k.q.nn k.q.nc] 38)).alloc (.cells #[.slice none 0 0,.int .i64 0] 61)) (.cells #[.int .i64 y.op,.int .i64 y.n,.string y.s,.string y.t] 28)));have X0:=LW ((w.alloc (.cells #[.string k.q.who.1,.string k.q.who.2,.string k.q.act.1,.string k.q.act.2,.string k.q.what.1,.string k.q.what.2,.slice k.q.NA k.q.nn k.q.nc] 38)).alloc (.cells #[.slice none 0 0,.int .i64 0] 61)) y 28;rw [hz2] at X0;have R0:=O ((MV w (.cells #[.string k.q.who.1,.string k.q.who.2,.string k.q.act.1,.string k.q.act.2,.string k.q.what.1,.string k.q.what.2,.slice k.q.NA k.q.nn k.q.nc] 38) 61).keep (zb ((w.alloc (.cells #[.string k.q.who.1,.string k.q.who.2,.string k.q.act.1,.string k.q.act.2,.string k.q.what.1,.string k.q.what.2,.slice k.q.NA k.q.nn k.q.nc] 38)).alloc (.cells #[.slice none 0 0,.int .i64 0] 61)) (.cells #[.int .i64 y.op,.int .i64 y.n,.string y.s,.string y.t] 28)));replace d0:=za B2 d0;replace d1:=za B2 d1;replace d2:=za B2 d2;replace d3:=za B2 d3;clear B1 B2 hz2;have f1:(1:Int)<=y.op:=by omega
 have f2:¬y.op<=(4:Int):=by omega
 have g8:(y.op==8)=false:=beq_eq_false_iff_ne.2 (by omega);obtain⟨x0,x1,x2,x3⟩:=X0;have X0:Vn (((w.alloc (.cells #[.string k.q.who.1,.string k.q.who.2,.string k.q.act.1,.string k.q.act.2,.string k.q.what.1,.string k.q.what.2,.slice k.q.NA k.q.nn k.q.nc] 38)).alloc (.cells #[.slice none 0 0,.int .i64 0] 61)).alloc (.cells #[.int .i64 y.op,.int .i64 y.n,.string y.s,.string y.t] 28)) (w.heap.size+1+1) y:=⟨x0,x1,x2,x3⟩
 have ZA:=O X0;obtain⟨rr,Ol⟩:∃rr,rr=evX k.env (.node y ps):=⟨_,rfl⟩
 rw [<-Ol] at KL ⊢;rw [ea] at KPo KL;unfold zK Rq.v at KL;unfold Rq.v;dsimp only [Ex.parts,Ex.head] at KPo;obtain⟨m,hm⟩:∃m,m=ps.len+1:=⟨_,rfl⟩
 rw [<-hm] at KPo KL hps;have H3:=O h3;clear h hx hok hz0 Ol hb hW X0 hN hm h3;go_enter Tryz.func23,Tryz.ntmps23;go_wp2_with fail;refine(KPo.o _ B0.o).mono ?_;rintro e w2 ⟨A',c',rfl,hc',hI,b2⟩;have B2:=bh B0 b2;have W2:=O (W0.o.keep b2);have R2:=O (R0.o.keep b2);have X2:=O (ZA.o.keep b2);have K1:=O (KL.o A' c' _ B2.o hI);clear hI b2 B0 W0 R0 ZA KPo KL x0 x1 x2 x3 d0 d1 d2 d3;obtain⟨x0,x1,x2,x3⟩:=X2.o;obtain⟨k0,k1,k2,k3,k4,k5,k6⟩:=W2.o;rcases H3.o with h3|h3|h3
 all_goals
  first
   | have g11:(y.op==11)=true:=by rw [h3];rfl
   | have g11:(y.op==11)=false:=by rw [h3];rfl
  first
   | have g12:(y.op==12)=true:=by rw [h3];rfl
   | have g12:(y.op==12)=false:=by rw [h3];rfl
  first
   | have g13:(y.op==13)=true:=by rw [h3];rfl
   | have g13:(y.op==13)=false:=by rw [h3];rfl
  clear h3;go_wp2_with fail;refine K1.o.mono ?_;rintro e w4 ⟨A4,n4,c4,rfl,hN,hf,b4⟩;have B4:=bh B2 b4;have N4:=O hN;have FX:=O (show∀a,A4=some a->(a.block<W.heap.size\/w.heap.size<=a.block)/\a.block≠w.heap.size+1 from λa e=>by
   have h1:=VO.o
   have h2:w.heap.size+1<w2.heap.size:=block_lt_of_cell R2.o.c0
   rcases hf a e with h|h
   ·exact⟨.inl h,by omega⟩
   ·exact⟨.inr (by omega),by omega⟩)
  have R4:=O (R2.o.keep b4);clear b4 hN hf;have RS:=R4.o.set (.slice A4 n4 c4) (.int .i64 (z7 rr));obtain⟨s0,s1,-,-⟩:=RS;have GF:=O (zD (S:=λb=>b<W.heap.size) (r:=rr) N4.o FX.o B4.o (show w.heap.size<=w.heap.size+1 by omega));obtain⟨r0,r1,z0,z1⟩:=R4.o;go_wp2_with fail;exact bodyPost_ret (v := .agg #[.slice A4 n4 c4,.int .i64 (z7 rr)]) (by simp [results,Tryz.results23,go_sem,s0,s1]) rfl GF.o
theorem Xf(W:World)(k:Cx)(hCW:Po W k)(hk:k.n<=4000):∀N,Rk W k N
 | 0=>λx p w h hb hx hN=>by
  obtain⟨n,ps⟩:=x;simp [Ex.flat] at hN
 | N+1=>λx p w h hb hx hN=>by
  have IH:=Xf W k hCW hk N;obtain⟨n,ps⟩:=x;have hN':ps.flat.length<=N:=by simpa [Ex.flat] using hN
  have hop:1<=n.op:=by
   have hl:(ps.len:Int)=zC n:=hx.valid.2.1;unfold zC at hl
   repeat' split at hl
   all_goals omega
  by_cases h4:n.op<=4
  ·rw [show evX k.env (.node n ps)= .ok [n] by rw [evX,if_pos ⟨hop,h4⟩]];exact zkV _ k (.node n ps) p w h hx ⟨hop,h4⟩
  by_cases h8:n.op=8
  ·rw [show evX k.env (.node n ps)=ym k.env n.s by rw [evX,if_neg (by omega),if_pos h8]];have hq:∀a,k.q.NA=some a->a.block<W.heap.size:=λa e=>hCW.rq.ns.at_.lt (zk hCW.ok.ctx.1) a e;exact znH _ k (.node n ps) p w h hx h8 hq (λa e=>Nat.lt_of_lt_of_le (hq a e) hb.size)
  by_cases h3:n.op=11\/n.op=12\/n.op=13
  ·exact zlF W k N IH n ps p w h hb hk hx hN' h3
  ·exact zh8 W k N IH n ps p w hCW h hb hk hx hN' (by omega) h8 (by omega) (by omega) (by omega)
theorem NG(x:Nd)(w:World):
 Calls Tryz.prog 20 #[ndV x] w λe w'=>e = .returned (.bool (ofT x.op))/\Below w.heap.size w w':=by
 obtain⟨o,n,s,t⟩:=x;unfold ndV;dsimp only;obtain⟨b,hb⟩:∃b,ofT o=b:=⟨_,rfl⟩
 rw [hb];have HB:=O hb;clear hb;go_enter Tryz.func20,Tryz.ntmps20;go_wp2_with fail
 all_goals
  go_ret;refine⟨?_,by first|exact Below.refl _ _|exact zb _ _⟩;refine Eq.trans (b:=Ending.returned (.bool (ofT o))) ?_ (by rw [HB.o]);refine congrArg (λz=>Ending.returned (Value.bool z)) ?_;unfold ofT;rw [Bool.eq_iff_iff];simp only [Bool.or_eq_true,decide_eq_true_eq,beq_iff_eq,true_iff];omega
theorem zdL(w:World):Calls Tryz.prog 24 #[] w λe w'=>∃b,e = .returned (YB b).v/\zjG w' (YB b)/\Below w.heap.size w w':=by
 go_enter Tryz.func24,Tryz.ntmps24;go_wp2_with fail;have b1:=zb w (.cells #[.string ⟨#[65]⟩,.string ⟨#[]⟩,.string ⟨#[65]⟩,.string ⟨#[]⟩,.string ⟨#[65]⟩,.string ⟨#[]⟩,.slice (some ⟨w.heap.size+1+1,0,none⟩) 1 1] 38);have b2:=b1.trans ((zb (w.alloc (.cells #[.string ⟨#[65]⟩,.string ⟨#[]⟩,.string ⟨#[65]⟩,.string ⟨#[]⟩,.string ⟨#[65]⟩,.string ⟨#[]⟩,.slice (some ⟨w.heap.size+1+1,0,none⟩) 1 1] 38)) (.cells #[.string ⟨#[65]⟩,.string ⟨#[]⟩] 36)).mono b1.size);have hN:=MF ((w.alloc (.cells #[.string ⟨#[65]⟩,.string ⟨#[]⟩,.string ⟨#[65]⟩,.string ⟨#[]⟩,.string ⟨#[65]⟩,.string ⟨#[]⟩,.slice (some ⟨w.heap.size+1+1,0,none⟩) 1 1] 38)).alloc (.cells #[.string ⟨#[65]⟩,.string ⟨#[]⟩] 36)) ⟨6,0,emp,emp⟩ ⟨Nat.zero_le _,Nat.zero_le _,by decide,by decide⟩;have hz:((w.alloc (.cells #[.string ⟨#[65]⟩,.string ⟨#[]⟩,.string ⟨#[65]⟩,.string ⟨#[]⟩,.string ⟨#[65]⟩,.string ⟨#[]⟩,.slice (some ⟨w.heap.size+1+1,0,none⟩) 1 1] 38)).alloc (.cells #[.string ⟨#[65]⟩,.string ⟨#[]⟩] 36)).heap.size=w.heap.size+1+1:=by simp
 rw [hz] at hN;have b3:=b2.trans ((zb ((w.alloc (.cells #[.string ⟨#[65]⟩,.string ⟨#[]⟩,.string ⟨#[65]⟩,.string ⟨#[]⟩,.string ⟨#[65]⟩,.string ⟨#[]⟩,.slice (some ⟨w.heap.size+1+1,0,none⟩) 1 1] 38)).alloc (.cells #[.string ⟨#[65]⟩,.string ⟨#[]⟩] 36)) (.cells #[.int .i64 6,.int .i64 0,.string ⟨#[]⟩,.string ⟨#[]⟩] 28)).mono b2.size);refine⟨rfl,(YB (w.heap.size+1+1)).v,by simp [results,Tryz.results24,go_sem,YB,Rq.v,zd4,zjL,emp],_,rfl,⟨(show zjL.size<=maxLen by decide),(show emp.size<=maxLen by decide),(show zjL.size<=maxLen by decide),(show emp.size<=maxLen by decide),(show zjL.size<=maxLen by decide),(show emp.size<=maxLen by decide),hN⟩,b3⟩
theorem Uw:∀ {ps:Exs},ps.len=1->∃a,ps = .cons a .nil
 | .cons a .nil,_=>⟨a,rfl⟩
 | .nil,h=>by simp [Exs.len] at h
 | .cons _ (.cons _ _),h=>by simp only [Exs.len] at h;omega
theorem zjr{x:Ex}{f:Bool}(hv:x.valid f)(h:x.head.op=1):x.head.n=0\/x.head.n=1:=by
 obtain⟨n,ps⟩:=x;have h1:=hv.1;have h':n.op=1:=h;unfold jC je at h1;rw [if_pos (by omega)] at h1;unfold zq at h1;rw [if_pos h'] at h1;simp only [Bool.and_eq_true,Bool.or_eq_true,decide_eq_true_eq] at h1;exact h1.1.1.1
theorem zbh:∀r:Exs,r.list=exL r
 | .nil=>rfl
 | .cons x r=>by rw [Exs.list,exL,zbh r]
theorem zlE{c:Bool}{x:Ex}(hv:x.valid c):(E5 c x).flat=zP x:=by
 cases c with
 | false=>rw [Mm hv];cases x;rfl
 | true =>
  obtain⟨n,ps⟩:=x
  obtain⟨h1,hl,-⟩:=hv
  unfold jC at h1
  rw [Bool.and_eq_true] at h1
  have h7:n.op=7:=by simpa using h1.2
  have h2:ps.len=1:=by
   unfold zC at hl
   repeat' split at hl
   all_goals omega
  obtain⟨a,rfl⟩:=Uw h2
  unfold zP
  rw [if_pos (show(Ex.node n (.cons a .nil)).head.op=7 from h7)]
  simp [E5,Ex.flat,Exs.flat]
theorem zd6{n:Nd}{a b:Ex}(h12:n.op=11\/n.op=12)(h:ju (.node n (.cons a (.cons b .nil)))=none):
 (a.head.op=1->decide (a.head.n=1)≠decide (n.op=12)/\ofT b.head.op=false)/\(a.head.op≠1->b.head.op=1->decide (b.head.n=1)≠decide (n.op=12)->ofT a.head.op=false):=by
 simp only [ju] at h;rw [if_pos h12] at h;refine⟨λg=>?_,λg g2 g3=>?_⟩
 ·rw [if_pos g] at h;by_cases g2:decide (a.head.n=1)=decide (n.op=12)
  ·rw [if_pos g2] at h;cases h
  ·rw [if_neg g2] at h;refine⟨g2,?_⟩;by_cases g3:ofT b.head.op=true
   ·rw [if_pos g3] at h;cases h
   ·simpa using g3
 ·rw [if_neg g] at h;by_cases g4:ofT a.head.op=true
  ·rw [if_pos ⟨g2,g3,g4⟩] at h;cases h
  ·simpa using g4
theorem zdG{n:Nd}{c a b:Ex}(h13:n.op=13)(h:ju (.node n (.cons c (.cons a (.cons b .nil))))=none):c.head.op≠1:=λg=>by
 simp only [ju] at h;rw [if_pos ⟨h13,g⟩] at h;split at h <;> cases h
theorem zgY{n:Nd}{a:Ex}(h9:n.op=9)(g:a.head.op=9)(hv:a.valid false)(h:ju (.node n (.cons a .nil))=none):∃b,a.parts = .cons b .nil/\ofT b.head.op=false:=by
 obtain⟨m,qs⟩:=a;have g':m.op=9:=g;have hl:=hv.2.1;unfold zC at hl;rw [if_neg (by omega),if_neg (by omega),if_pos (by omega)] at hl;obtain⟨b,rfl⟩:=Uw (by omega:qs.len=1);refine⟨b,rfl,?_⟩;simp only [ju] at h;by_cases g4:ofT b.head.op=true
 ·rw [if_pos ⟨h9,g',g4⟩] at h;cases h
 ·simpa using g4
theorem WQ(c:Bool):∀(r:Exs) (p:Nat),(qm c p r)[r.len]?=some (p+r.flat.length)
 | .nil,p=>by simp [qm,Exs.len,Exs.flat]
 | .cons x r,p=>by
  simp only [qm,Exs.len,Exs.flat,List.getElem?_cons_succ,List.length_append];rw [WQ c r];congr 1;omega
end Go.Proofs.YtokiogmfgpidmaaGreatDoor
