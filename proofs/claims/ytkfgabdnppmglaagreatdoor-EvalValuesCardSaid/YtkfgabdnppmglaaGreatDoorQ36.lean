/-
  eval.in: is an entity one of others, or below one? (gen_evin.py) eval.made: a set, a record. eval.made: a set. eval.made: a record.
-/
import Derived.Deep.AppendLies
import Derived.Test.YtkfgabdnppmglaaGreatDoorQ21
import Derived.Test.YtkfgabdnppmglaaGreatDoorQ22
import Derived.Test.YtkfgabdnppmglaaGreatDoorQ29
import Derived.Test.YtkfgabdnppmglaaGreatDoorQ33
set_option maxRecDepth 100000
set_option maxHeartbeats 8000000
namespace Go.Proofs.YtkfgabdnppmglaaGreatDoor
open Go.RowKit Go.Wk Go.Sort
theorem zsm(A:Option Addr)(n c:Nat)(V:List Sl)(p:List Nd→Bool)(bx ba:Nat)(w:World)(hn:n=V.length)(hm:n≤maxLen)(hV:zag w A V)
 (C:Hid (∀r∈V,∀(w':World),Below w.heap.size w w'→Ns w' r.A r.n r.c r.P→Calls Tryz.prog 130 #[.slice r.A r.n r.c,.pointer (some ⟨bx,0,none⟩),.pointer (some ⟨ba,0,none⟩)] w' fun e w''=>e = .returned (.bool (p r.P))∧Below w'.heap.size w' w'')):
 Calls Tryz.prog 153 #[.slice A n c,(.func (.func 130) #[] #[.pointer (some ⟨bx,0,none⟩),.pointer (some ⟨ba,0,none⟩)])] w (zem (V.any fun r=>p r.P) w):=by
 unfold maxLen at hm;have HV:=hi9 hV;have HN:=hi9 hn;clear hV hn;go_enter Tryz.func153,Tryz.ntmps153;go_wp2_with fail;go_loopw [5,8] (fun _ i wr=>∃k:Nat,k≤n∧i = .int .i64 k∧Hid ((V.any fun r=>p r.P)=(V.drop k).any fun r=>p r.P)∧Hid (Below w.heap.size w wr)) (fun _ i _=>n-(intOf i).toNat)
 case atStart=>exact⟨0,Nat.zero_le _,rfl,rfl,Below.refl _ _⟩
 case round =>
  obtain⟨k,hk,rfl,hE,hB⟩:=hrel;by_cases hlt:k<n
  ·have h1:k<V.length:=by rw [←HN.out];exact hlt
   obtain⟨a,rfl,q,hs⟩:=(HV.out.keep hB.out).at h1;have HA:=hi9 (hE.out.trans (zhH h1));have Cr:=hi9 (C.out V[k] (List.getElem_mem h1) wr hB.out hs);generalize V[k]=r at *;clear hE hs;rcases hp:p r.P with _|_
   ·rw [hp] at Cr HA;clear hp;go_wp2_with fail;refine(Cr.out).mono ?_;rintro e w1 ⟨rfl,b1⟩;go_wp2_with fail;go_roundw
    case rel=>exact⟨k+1,by omega,by go_num,HA,bh hB b1⟩
    case measure=>simp [intOf];omega
   ·rw [hp] at Cr HA;clear hp;go_wp2_with fail;refine(Cr.out).mono ?_;rintro e w1 ⟨rfl,b1⟩;go_wp2_with fail;go_ret;exact⟨_,rfl,by rw [HA.out];simp,(bh hB b1).out⟩
  ·have HA:=hi9 (hE.out.trans (by rw [List.drop_of_length_le (by rw [←HN.out];omega)];rfl:_=false));clear hE;go_wp2_with fail;go_ret;exact⟨_,rfl,by rw [HA.out];rfl,hB.out⟩
theorem zgl(A:Option Addr)(n c:Nat)(V:List Sl)(p:List Nd→Bool)(bx ba:Nat)(w:World)(hn:n=V.length)(hm:n≤maxLen)(hV:zag w A V)
 (C:Hid (∀r∈V,∀(w':World),Below w.heap.size w w'→Ns w' r.A r.n r.c r.P→Calls Tryz.prog 130 #[.slice r.A r.n r.c,.pointer (some ⟨bx,0,none⟩),.pointer (some ⟨ba,0,none⟩)] w' fun e w''=>e = .returned (.bool (p r.P))∧Below w'.heap.size w' w'')):
 Calls Tryz.prog 129 #[.slice A n c,(.func (.func 130) #[] #[.pointer (some ⟨bx,0,none⟩),.pointer (some ⟨ba,0,none⟩)])] w fun e w'=>e = .returned (.bool (V.any fun r=>p r.P))∧Below w.heap.size w w':=by
 have I:=hi9 (zsm A n c V p bx ba w hn hm hV C);unfold zem at I;clear hn hV C;go_enter Tryz.func129,Tryz.ntmps129;go_wp2_with fail;refine(I.out).mono ?_;rintro e w1 ⟨i,rfl,hi,b1⟩;have HI:=hi9 hi;clear hi;go_wp2_with fail;go_ret;exact⟨zq HI.out,b1⟩
theorem zrc{V:List Nd}(h:zcw (hdN V)):UOk (jd V):=⟨h.s,h.t⟩
theorem zmA{W w:World}{R:Nat}{k:Cx}{p:Int}(h:jb W w R k p)(A B:Option Addr)(n m c d:Nat)(P Q:List Nd)(hP:Ns w A n c P)(h0:0<P.length)(hQ:Ns w B m d Q)(h1:0<Q.length)(bx ba:Nat)
 (cx:w.cell? ⟨bx,0,none⟩=some (.pointer (some ⟨R,0,none⟩))) (ca:w.cell? ⟨ba,0,none⟩=some (.slice A n c)):
 Calls Tryz.prog 130 #[.slice B m d,.pointer (some ⟨bx,0,none⟩),.pointer (some ⟨ba,0,none⟩)] w fun e w'=>e = .returned (.bool (inB k.E (jd P) (jd Q)))∧Below w.heap.size w w':=by
 obtain⟨a1,rfl,q1,-,o1,-⟩:=jm hP h0;obtain⟨a2,rfl,q2,-,o2,-⟩:=jm hQ h1;have R1:=rq (w:=w) (fun w' hb=>ziy (some a1) n c P w' (hP.keep hb) h0);have R2:=rq (w:=w) (fun w' hb=>ziy (some a2) m d Q w' (hQ.keep hb) h1);have R3:=rq (w:=w) (fun w' hb=>by
  have:=zuU k.EA k.en k.ec k.E (jd P) (jd Q) w' (h.cx.es.keep hb) (zrc o1) (zrc o2)
  rwa [show ji k.E=0 from h.ok.ok.e,zo] at this)
 have R4:=rq (w:=w) (fun w' hb=>zbF (.bool (inB k.E (jd P) (jd Q))) w');have c0:=h.c0;have k0:=cell_regrown c0;have k1:=cell_regrown cx;have k2:=cell_regrown ca;unfold udV at R1 R2 R3;generalize inB k.E (jd P) (jd Q)=b at *;generalize jd P=u at *;generalize jd Q=v at *;clear h hP hQ h0 h1 o1 o2 q1 q2;go_enter Tryz.func130,Tryz.ntmps130;go_wp2_with fail;refine wp_region_quiet_below (by kernel_rfl) (by kernel_rfl) ?_
 repeat (first|go_big_quiet_step (first|with_reducible exact R1 _ _|with_reducible exact R2 _ _|with_reducible exact R3 _ _|with_reducible exact R4 _ _)|quiet_step (first|with_reducible exact R1 _ _|with_reducible exact R2 _ _|with_reducible exact R3 _ _|with_reducible exact R4 _ _))
 refine wpQuiet_nil ?_;intro w2 hw';have b2:=hi9 (show Below w.heap.size w w2 by obtain⟨⟨d,os⟩,rfl⟩:=hw';exact below_regrown _ _ _);clear hw';go_wp2_with fail;go_ret;exact⟨rfl,b2.out⟩
theorem zte(w:World)(r:Sl)(hr:Ns w r.A r.n r.c r.P)(t:TypeId):zag (w.alloc (.cells #[.slice r.A r.n r.c] t)) (some ⟨w.heap.size,0,none⟩) [r]:=fun k x hx=>by
 match k,hx with
 | 0,hx=>simp at hx;subst hx;exact⟨_,rfl,jf (heap_alloc_last w _) rfl,hr.keep (zb w _)⟩
 | k+1,hx=>simp at hx
def zhY(w:World)(E:List En)(P Q:List Nd)(e:Ending)(w':World):Prop :=
 Below w.heap.size w w'∧e=if zf P=4∧(j4 Q).all (fun t=>decide (zf t=4)) then .returned (.bool ((j4 Q).any fun t=>inB E (jd P) (jd t))) else .panicked (zbh 2)
def inW(w:World)(R:Nat)(A:Option Addr)(n c:Nat):World:=(w.alloc (.cells #[.pointer (some ⟨R,0,none⟩)] 47)).alloc (.cells #[.slice A n c] 50)
theorem zce(w:World)(R:Nat)(A:Option Addr)(n c:Nat):Below w.heap.size w (inW w R A n c):=(zb w _).trans ((zb _ _).mono (by simp))
theorem zuh(w:World)(R:Nat)(A:Option Addr)(n c:Nat):(inW w R A n c).cell? ⟨w.heap.size,0,none⟩=some (.pointer (some ⟨R,0,none⟩)):=za (zb _ _) (jf (heap_alloc_last w _) rfl)
theorem zuk(w:World)(R:Nat)(A:Option Addr)(n c:Nat):(inW w R A n c).cell? ⟨w.heap.size+1,0,none⟩=some (.slice A n c):=by
 have:=jf (heap_alloc_last (w.alloc (.cells #[.pointer (some ⟨R,0,none⟩)] 47)) (.cells #[.slice A n c] 50)) (k:=0) (u := .slice A n c) rfl;rw [World.size_alloc] at this;exact this
theorem zvl{W w:World}{R:Nat}{k:Cx}{p:Int}(_h:jb W w R k p)(A B:Option Addr)(n m c d:Nat)(P Q:List Nd)(hP:Ns w A n c P)(h0:0<P.length)(_hQ:Ns w B m d Q)(_h1:0<Q.length)(g:zf P≠4):
 Calls Tryz.prog 88 #[.pointer (some ⟨R,0,none⟩),.slice A n c,.slice B m d] w (zhY w k.E P Q):=by
 have K:=hi9 (zN A n c P 4 (inW w R A n c) (hP.keep (zce w R A n c)) h0);rw [if_neg g] at K;have B0:=hi9 (zce w R A n c);have HR:=hi9 (show(if zf P=4∧(j4 Q).all (fun t=>decide (zf t=4)) then Ending.returned (.bool ((j4 Q).any fun t=>inB k.E (jd P) (jd t))) else .panicked (zbh 2))= .panicked (zbh 2) from if_neg (fun q=>g q.1));unfold inW at K B0;clear hP h0 g;go_enter Tryz.func88,Tryz.ntmps88;go_wp2_with fail;refine K.out.mono ?_;rintro e w1 ⟨rfl,b1⟩;have B1:=bh B0 b1;clear b1 K;go_wp2_with fail;exact⟨rfl,B1.out,by rw [HR.out]⟩
theorem zuY{W w:World}{R:Nat}{k:Cx}{p:Int}(h:jb W w R k p)(A B:Option Addr)(n m c d:Nat)(P Q:List Nd)(hP:Ns w A n c P)(h0:0<P.length)(hQ:Ns w B m d Q)(h1:0<Q.length)(g:zf P=4)(g5:zf Q≠5):
 Calls Tryz.prog 88 #[.pointer (some ⟨R,0,none⟩),.slice A n c,.slice B m d] w (zhY w k.E P Q):=by
 have K:=hi9 (zN A n c P 4 (inW w R A n c) (hP.keep (zce w R A n c)) h0);rw [if_pos g] at K;have B0:=hi9 (zce w R A n c);have HX:=hi9 (zuh w R A n c);have HA:=hi9 (zuk w R A n c);have HP:=hi9 hP;have HQ:=hi9 hQ;have HE:=hi9 h;have H0:=hi9 h0;have HDR:=hi9 h.cx.door;have KI:=hi9 (fun w' hb=>zcI B m d Q 5 w' (hQ.keep (w':=w') hb) h1);unfold inW at K B0 HX HA;have f5:(zf Q==5)=false:=beq_eq_false_iff_ne.2 g5;rw [f5] at KI;clear f5;go_enter Tryz.func88,Tryz.ntmps88;go_wp2_with fail;refine K.out.mono ?_;rintro e w1 ⟨rfl,b1⟩;have B1:=bh B0 b1;have HX1:=hi9 (za b1 HX.out);have HA1:=hi9 (za b1 HA.out);clear b1 K B0 HX HA;go_wp2_with fail;have HS:=hi9 (zte w1 ⟨B,m,d,Q⟩ (HQ.out.keep B1.out) 25);have B2:=bh B1 (zb w1 (.cells #[.slice B m d] 25));have HX2:=hi9 (za (zb w1 (.cells #[.slice B m d] 25)) HX1.out);have HA2:=hi9 (za (zb w1 (.cells #[.slice B m d] 25)) HA1.out);refine(KI.out _ B2.out).mono ?_;rintro e w3 ⟨rfl,b3⟩;have B3:=bh B2 b3;have HX3:=hi9 (za b3 HX2.out);have HA3:=hi9 (za b3 HA2.out);have HS3:=hi9 (HS.out.keep b3);obtain⟨V,hV⟩:∃V:List Sl,[⟨B,m,d,Q⟩]=V:=⟨_,rfl⟩
 have HVL:=hi9 (show V.length=1 by rw [←hV];rfl);have HVP:=hi9 (show V.map Sl.P=j4 Q by rw [←hV];unfold j4;rw [if_neg g5];rfl);have HV0:=hi9 (show∀r∈V,0<r.P.length by rw [←hV];intro r hr;simp only [List.mem_cons,List.not_mem_nil,or_false] at hr;subst hr;exact h1);rw [hV] at HS3;obtain⟨TA,hTA⟩:∃TA:Option Addr,(some ⟨w1.heap.size,0,none⟩:Option Addr)=TA:=⟨_,rfl⟩
 rw [hTA] at HS3 ⊢;clear hTA;clear b3 B2 B1 HX1 HA1 HX2 HA2 HS hV KI;have HG:=hi9 g;have HMX:Hid (1≤maxLen):=hi9 (by unfold maxLen;omega);clear g g5 h0 h1 hP hQ h;go_wp2_with fail;have hmf:∀(fn:Fn) (first cap:Array Value) (w:World),(Instr.makeFunc fn first cap).run Tryz.prog w = .ok (.func fn first cap) w:=fun _ _ _ _=>rfl;go_loopw [23] (fun i wr=>∃j:Nat,i = .int .i64 j∧j≤1∧Hid ((V.take j).all (fun r=>decide (zf r.P=4))=true)∧Hid (Below w.heap.size w wr)∧Hid (zag wr (TA) V)∧Hid (wr.cell? ⟨w.heap.size,0,none⟩=some (.pointer (some ⟨R,0,none⟩)))∧Hid (wr.cell? ⟨w.heap.size+1,0,none⟩=some (.slice A n c))) (fun i _=>1-(intOf i).toNat)
 case atStart=>exact⟨0,rfl,Nat.zero_le _,hi9 rfl,B3,HS3,HX3,HA3⟩
 case round =>
  clear B3 HS3 HX3 HA3;obtain⟨j,rfl,hj,hF,hB,hS,hx,ha⟩:=hrel;by_cases hlt:j<1
  ·have hl:j<V.length:=by have:=HVL.out;omega
   obtain⟨a,hA,q,hN⟩:=hS.out.at hl;cases hA;have hp:=HV0.out _ (List.getElem_mem hl);have hall:(V.take (j+1)).all (fun r=>decide (zf r.P=4))=((V.take j).all (fun r=>decide (zf r.P=4))&& decide (zf V[j].P=4)):=by
    rw [List.take_succ_eq_append_getElem hl,List.all_append];simp
   rw [hF.out,Bool.true_and] at hall;have hmem:V[j].P∈j4 Q:=by rw [←HVP.out];exact List.mem_map_of_mem (List.getElem_mem hl)
   have KM:=hi9 (zN V[j].A V[j].n V[j].c V[j].P 4 wr hN hp);generalize V[j]=r at *;by_cases h4:zf r.P=4
   ·rw [if_pos h4] at KM;rw [decide_eq_true h4] at hall;have HAL:=hi9 hall;clear hall h4 hN hp hmem;go_wp2_with fail;refine KM.out.mono ?_;rintro e w4 ⟨rfl,b4⟩;have B4:=bh hB b4;have HS4:=hi9 (hS.out.keep b4);have HX4:=hi9 (za b4 hx.out);have HA4:=hi9 (za b4 ha.out);clear b4 hB hS hx ha hF;go_wp2_with fail;go_roundw
    case rel=>exact⟨j+1,by go_num,by omega,HAL,B4,HS4,HX4,HA4⟩
    case measure=>simp [intOf];omega
   ·rw [if_neg h4] at KM;have HR:=hi9 (show(if zf P=4∧(j4 Q).all (fun t=>decide (zf t=4)) then Ending.returned (.bool ((j4 Q).any fun t=>inB k.E (jd P) (jd t))) else .panicked (zbh 2))= .panicked (zbh 2) from if_neg (fun z=>h4 (by simpa using List.all_eq_true.1 z.2 _ hmem)));clear hall h4 hN hp hmem;go_wp2_with fail;refine KM.out.mono ?_;rintro e w4 ⟨rfl,b4⟩;have B4:=bh hB b4;clear b4 hB;go_wp2_with fail;exact⟨rfl,B4.out,by rw [HR.out]⟩
  ·have hall:(j4 Q).all (fun t=>decide (zf t=4))=true:=by
    rw [←HVP.out,List.all_map];have:=hF.out;rwa [List.take_of_length_le (by have:=HVL.out;omega)] at this
   have HR:=hi9 (show(if zf P=4∧(j4 Q).all (fun t=>decide (zf t=4)) then Ending.returned (.bool ((j4 Q).any fun t=>inB k.E (jd P) (jd t))) else .panicked (zbh 2))= .returned (.bool (V.any fun r=>inB k.E (jd P) (jd r.P))) by
    rw [if_pos ⟨HG.out,hall⟩,←HVP.out,List.any_map];rfl)
   have KC:=hi9 (zgl (TA) (1) (1) V (fun t=>inB k.E (jd P) (jd t)) w.heap.size (w.heap.size+1) wr HVL.out.symm HMX.out hS.out (hi9 fun r hr w' hb hN=>zmA (HE.out.keep (hB.out.trans (hb.mono hB.out.size))) A r.A n r.n c r.c P r.P (HP.out.keep (hB.out.trans (hb.mono hB.out.size))) H0.out hN (HV0.out r hr) w.heap.size (w.heap.size+1) (za hb hx.out) (za hb ha.out)))
   generalize (V.any fun r=>inB k.E (jd P) (jd r.P))=bb at *
   clear hall hF hS
   have hx':=hx.out
   have ha':=ha.out
   go_wp2_with fail
   refine KC.out.mono ?_
   rintro e w4 ⟨rfl,b4⟩
   have B4:=bh hB b4
   clear b4 hB
   go_wp2_with fail
   go_ret
   exact⟨B4.out,by rw [HR.out];rfl⟩
theorem zuN{W w:World}{R:Nat}{k:Cx}{p:Int}(h:jb W w R k p)(A B:Option Addr)(n m c d:Nat)(P Q:List Nd)(hP:Ns w A n c P)(h0:0<P.length)(hQ:Ns w B m d Q)(h1:0<Q.length)(g:zf P=4)(g5:zf Q=5)(vQ:zc Q=0):
 Calls Tryz.prog 88 #[.pointer (some ⟨R,0,none⟩),.slice A n c,.slice B m d] w (zhY w k.E P Q):=by
 have K:=hi9 (zN A n c P 4 (inW w R A n c) (hP.keep (zce w R A n c)) h0);rw [if_pos g] at K;have B0:=hi9 (zce w R A n c);have HX:=hi9 (zuh w R A n c);have HA:=hi9 (zuk w R A n c);have HP:=hi9 hP;have HQ:=hi9 hQ;have HE:=hi9 h;have H0:=hi9 h0;have HDR:=hi9 h.cx.door;have KI:=hi9 (fun w' hb=>zcI B m d Q 5 w' (hQ.keep (w':=w') hb) h1);unfold inW at K B0 HX HA;have f5:(zf Q==5)=true:=beq_iff_eq.2 g5;rw [f5] at KI;clear f5;have KP:=hi9 (fun w' hb=>zap B m d Q w' (hQ.keep (w':=w') hb));have HPR:=hi9 (show zbj Q=0 by unfold zbj;rw [if_pos vQ,if_pos (Or.inl g5)]);have HPL:=hi9 (show zb7 Q=j4 Q by unfold zb7 j4;rw [HPR.out,if_pos rfl,if_pos g5,if_pos g5]);have HPO:=hi9 (show∀t∈j4 Q,0<t.length by
  unfold j4
  rw [if_pos g5]
  exact fun t ht=>((zdt (zP.1 vQ).2 g5).2.2.1 t ht).pos)
 have HPN:=hi9 (show(j4 Q).length≤200 by
  unfold j4
  rw [if_pos g5]
  obtain⟨h2,h3⟩:=zP.1 vQ
  obtain⟨e,-,h4,-⟩:=zdt h3 g5
  have h6:(zl Q).length≤(zl Q).flatten.length:=by
   clear e
   generalize zl Q=L at *
   induction L with
   | nil=>simp
   | cons x L ih =>
    have:=(h4 x (by simp)).pos
    have:=ih fun y hy=>h4 y (by simp [hy])
    simp only [List.length_cons,List.flatten_cons,List.length_append]
    omega
  have h5:=congrArg List.length e
  simp only [List.length_cons] at h5
  omega)
 unfold zbr at KP;rw [HPR.out,zo] at KP;go_enter Tryz.func88,Tryz.ntmps88;go_wp2_with fail;refine K.out.mono ?_;rintro e w1 ⟨rfl,b1⟩;have B1:=bh B0 b1;have HX1:=hi9 (za b1 HX.out);have HA1:=hi9 (za b1 HA.out);clear b1 K B0 HX HA;go_wp2_with fail;have B2:=bh B1 (zb w1 (.cells #[.slice B m d] 25));have HX2:=hi9 (za (zb w1 (.cells #[.slice B m d] 25)) HX1.out);have HA2:=hi9 (za (zb w1 (.cells #[.slice B m d] 25)) HA1.out);refine(KI.out _ B2.out).mono ?_;rintro e w3 ⟨rfl,b3⟩;have B3':=bh B2 b3;have HX3':=hi9 (za b3 HX2.out);have HA3':=hi9 (za b3 HA2.out);clear b3 B2 B1 HX1 HA1 HX2 HA2 KI;go_wp2_with fail;refine(KP.out _ B3'.out).mono ?_;rintro e w4 ⟨pv,V,rfl,hO,hVP,-,b4⟩;have B4:=bh B3' b4;have HX4:=hi9 (za b4 HX3'.out);have HA4:=hi9 (za b4 HA3'.out);have HVP:=hi9 (hVP.trans HPL.out);obtain⟨TA,tc,rfl,htc,hSl⟩:=hO.at
 have HS4:=hi9 hSl;have HV0:=hi9 (show∀r∈V,0<r.P.length from fun r hr=>HPO.out r.P (by rw [←HVP.out];exact List.mem_map_of_mem hr));obtain⟨tn,htn⟩:∃tn:Nat,tn=V.length:=⟨_,rfl⟩
 have HVL:=hi9 htn.symm;have hv2:V.length≤200:=by have h7:=congrArg List.length HVP.out;rw [List.length_map] at h7;rw [h7];exact HPN.out
 rw [←htn] at hv2 ⊢;have HMX:Hid (tn≤maxLen):=hi9 (by unfold maxLen;omega);have HG:=hi9 g;clear b4 B3' HX3' HA3' KP hO hVP htc hSl htn HPO HPN HPR HPL g g5 h0 h1 hP hQ h vQ;go_wp2_with fail;refine(zmt _ w4).mono ?_;rintro e w5 ⟨rfl,b5⟩;have B3:=bh B4 b5;have HX3:=hi9 (za b5 HX4.out);have HA3:=hi9 (za b5 HA4.out);have HS3:=hi9 (HS4.out.keep b5);clear b5 B4 HX4 HA4 HS4;go_wp2_with fail;have hmf:∀(fn:Fn) (first cap:Array Value) (w:World),(Instr.makeFunc fn first cap).run Tryz.prog w = .ok (.func fn first cap) w:=fun _ _ _ _=>rfl;go_loopw [23] (fun i wr=>∃j:Nat,i = .int .i64 j∧j≤tn∧Hid ((V.take j).all (fun r=>decide (zf r.P=4))=true)∧Hid (Below w.heap.size w wr)∧Hid (zag wr (TA) V)∧Hid (wr.cell? ⟨w.heap.size,0,none⟩=some (.pointer (some ⟨R,0,none⟩)))∧Hid (wr.cell? ⟨w.heap.size+1,0,none⟩=some (.slice A n c))) (fun i _=>tn-(intOf i).toNat)
 case atStart=>exact⟨0,rfl,Nat.zero_le _,hi9 rfl,B3,HS3,HX3,HA3⟩
 case round =>
  clear B3 HS3 HX3 HA3;obtain⟨j,rfl,hj,hF,hB,hS,hx,ha⟩:=hrel;by_cases hlt:j<tn
  ·have hl:j<V.length:=by have:=HVL.out;omega
   obtain⟨a,hA,q,hN⟩:=hS.out.at hl;cases hA;have hp:=HV0.out _ (List.getElem_mem hl);have hall:(V.take (j+1)).all (fun r=>decide (zf r.P=4))=((V.take j).all (fun r=>decide (zf r.P=4))&& decide (zf V[j].P=4)):=by
    rw [List.take_succ_eq_append_getElem hl,List.all_append];simp
   rw [hF.out,Bool.true_and] at hall;have hmem:V[j].P∈j4 Q:=by rw [←HVP.out];exact List.mem_map_of_mem (List.getElem_mem hl)
   have KM:=hi9 (zN V[j].A V[j].n V[j].c V[j].P 4 wr hN hp);generalize V[j]=r at *;by_cases h4:zf r.P=4
   ·rw [if_pos h4] at KM;rw [decide_eq_true h4] at hall;have HAL:=hi9 hall;clear hall h4 hN hp hmem;go_wp2_with fail;refine KM.out.mono ?_;rintro e w4 ⟨rfl,b4⟩;have B4:=bh hB b4;have HS4:=hi9 (hS.out.keep b4);have HX4:=hi9 (za b4 hx.out);have HA4:=hi9 (za b4 ha.out);clear b4 hB hS hx ha hF;go_wp2_with fail;go_roundw
    case rel=>exact⟨j+1,by go_num,by omega,HAL,B4,HS4,HX4,HA4⟩
    case measure=>simp [intOf];omega
   ·rw [if_neg h4] at KM;have HR:=hi9 (show(if zf P=4∧(j4 Q).all (fun t=>decide (zf t=4)) then Ending.returned (.bool ((j4 Q).any fun t=>inB k.E (jd P) (jd t))) else .panicked (zbh 2))= .panicked (zbh 2) from if_neg (fun z=>h4 (by simpa using List.all_eq_true.1 z.2 _ hmem)));clear hall h4 hN hp hmem;go_wp2_with fail;refine KM.out.mono ?_;rintro e w4 ⟨rfl,b4⟩;have B4:=bh hB b4;clear b4 hB;go_wp2_with fail;exact⟨rfl,B4.out,by rw [HR.out]⟩
  ·have hall:(j4 Q).all (fun t=>decide (zf t=4))=true:=by
    rw [←HVP.out,List.all_map];have:=hF.out;rwa [List.take_of_length_le (by have:=HVL.out;omega)] at this
   have HR:=hi9 (show(if zf P=4∧(j4 Q).all (fun t=>decide (zf t=4)) then Ending.returned (.bool ((j4 Q).any fun t=>inB k.E (jd P) (jd t))) else .panicked (zbh 2))= .returned (.bool (V.any fun r=>inB k.E (jd P) (jd r.P))) by
    rw [if_pos ⟨HG.out,hall⟩,←HVP.out,List.any_map];rfl)
   have KC:=hi9 (zgl (TA) (tn) (tc) V (fun t=>inB k.E (jd P) (jd t)) w.heap.size (w.heap.size+1) wr HVL.out.symm HMX.out hS.out (hi9 fun r hr w' hb hN=>zmA (HE.out.keep (hB.out.trans (hb.mono hB.out.size))) A r.A n r.n c r.c P r.P (HP.out.keep (hB.out.trans (hb.mono hB.out.size))) H0.out hN (HV0.out r hr) w.heap.size (w.heap.size+1) (za hb hx.out) (za hb ha.out)))
   generalize (V.any fun r=>inB k.E (jd P) (jd r.P))=bb at *
   clear hall hF hS
   have hx':=hx.out
   have ha':=ha.out
   go_wp2_with fail
   refine KC.out.mono ?_
   rintro e w4 ⟨rfl,b4⟩
   have B4:=bh hB b4
   clear b4 hB
   go_wp2_with fail
   go_ret
   exact⟨B4.out,by rw [HR.out];rfl⟩
theorem zs9{W w:World}{R:Nat}{k:Cx}{p:Int}(h:jb W w R k p)(A B:Option Addr)(n m c d:Nat)(P Q:List Nd)(hP:Ns w A n c P)(h0:0<P.length)(hQ:Ns w B m d Q)(h1:0<Q.length)(vQ:zc Q=0):
 Calls Tryz.prog 88 #[.pointer (some ⟨R,0,none⟩),.slice A n c,.slice B m d] w (zhY w k.E P Q):=by
 by_cases g:zf P=4
 ·by_cases g5:zf Q=5
  ·exact zuN h A B n m c d P Q hP h0 hQ h1 g g5 vQ
  ·exact zuY h A B n m c d P Q hP h0 hQ h1 g g5
 ·exact zvl h A B n m c d P Q hP h0 hQ h1 g
theorem zsq(A:Option Addr)(n c:Nat)(V:List Sl)(nv:Value)(w:World)(hn:n=V.length)(hm:n≤1000)(hV:zag w A V)(hd:zbC w):
 Calls Tryz.prog 78 #[.int .i64 5,nv,.slice A n c] w (je w (z8 (Wk.setE (V.map Sl.P)) (setV (V.map Sl.P)))):=by
 have K:=hi9 (zod A n c V w hn (by omega) hV);unfold zmr at K;generalize V.map Sl.P=L at *;have HD:=hi9 hd;clear hn hm hV hd;by_cases z:Wk.setE L=0
 ·have HT:=hi9 (show z8 (Wk.setE L) (setV L)= .ok (setV L) by unfold z8;rw [if_pos z]);rw [HT.out];rw [z,zo] at K;clear z;go_enter Tryz.func78,Tryz.ntmps78;go_wp2_with fail;refine K.out.mono ?_;rintro e w1 ⟨A2,n2,c2,rfl,hN,hF,b1⟩;have B1:=hi9 b1;have HN:=hi9 hN;have HF:=hi9 hF;clear b1 hN hF K;go_wp2_with fail;refine(zd0 (.slice A2 n2 c2) w1).mono ?_;rintro e w2 ⟨rfl,b2⟩;have B2:=bh B1 b2;have HN2:=hi9 (HN.out.keep b2);clear b2 B1 HN;go_wp2_with fail;go_ret;exact⟨B2.out,A2,n2,c2,rfl,HN2.out,HF.out⟩
 ·have HT:=hi9 (show z8 (Wk.setE L) (setV L)= .error (Wk.setE L) by unfold z8;rw [if_neg z]);rw [HT.out];rw [zC z] at K;generalize Wk.setE L=u at *;clear z;go_enter Tryz.func78,Tryz.ntmps78;go_wp2_with fail;refine K.out.mono ?_;rintro e w1 ⟨A2,n2,c2,rfl,-,-,b1⟩;have B1:=hi9 b1;clear b1 K;go_wp2_with fail;refine(zdY (.slice A2 n2 c2) u w1 (HD.out.keep B1.out)).mono ?_;rintro e w2 ⟨rfl,b2⟩;have B2:=bh B1 b2;clear b2 B1;go_wp2_with fail;exact⟨rfl,jT B2.out⟩
theorem zrI(A:Option Addr)(n c:Nat)(N:List ByteArray)(A':Option Addr)(m c':Nat)(V:List Sl)(w:World)(hn:n=N.length)(hn2:n≤1000)(hT:ziU w A N)(hz:∀x∈N,x.size≤maxLen)(hm:m=V.length)(hm2:m≤1000)(hV:zag w A' V)(hd:zbC w):
 Calls Tryz.prog 78 #[.int .i64 6,.slice A n c,.slice A' m c'] w (je w (z8 (zam N (V.map Sl.P)) (zcz N (V.map Sl.P)))):=by
 have K:=hi9 (znD A n c N A' m c' V w hn (by omega) hT hz hm (by omega) hV);unfold ziJ at K;generalize V.map Sl.P=L at *;have HD:=hi9 hd;clear hn hm hV hd hn2 hm2 hT hz;by_cases z:zam N L=0
 ·have HT:=hi9 (show z8 (zam N L) (zcz N L)= .ok (zcz N L) by unfold z8;rw [if_pos z]);rw [HT.out];rw [z,zo] at K;clear z;go_enter Tryz.func78,Tryz.ntmps78;go_wp2_with fail;refine K.out.mono ?_;rintro e w1 ⟨A2,n2,c2,rfl,hN,hF,b1⟩;have B1:=hi9 b1;have HN:=hi9 hN;have HF:=hi9 hF;clear b1 hN hF K;go_wp2_with fail;refine(zd0 (.slice A2 n2 c2) w1).mono ?_;rintro e w2 ⟨rfl,b2⟩;have B2:=bh B1 b2;have HN2:=hi9 (HN.out.keep b2);clear b2 B1 HN;go_wp2_with fail;go_ret;exact⟨B2.out,A2,n2,c2,rfl,HN2.out,HF.out⟩
 ·have HT:=hi9 (show z8 (zam N L) (zcz N L)= .error (zam N L) by unfold z8;rw [if_neg z]);rw [HT.out];rw [zC z] at K;generalize zam N L=u at *;clear z;go_enter Tryz.func78,Tryz.ntmps78;go_wp2_with fail;refine K.out.mono ?_;rintro e w1 ⟨A2,n2,c2,rfl,-,-,b1⟩;have B1:=hi9 b1;clear b1 K;go_wp2_with fail;refine(zdY (.slice A2 n2 c2) u w1 (HD.out.keep B1.out)).mono ?_;rintro e w2 ⟨rfl,b2⟩;have B2:=bh B1 b2;clear b2 B1;go_wp2_with fail;exact⟨rfl,jT B2.out⟩
theorem zT.past{w w':World}{B R:Nat}{v:Value}{V:List Sl}(h:zT w B v V)(hg:w.grownBy w' (some R))(hR:R<B)(ha:∀r∈V,zaC r (some R)):zT w' B v V:=h.row hg (zex h.own hR) ha
theorem jb.apart{W w:World}{R:Nat}{k:Cx}{p:Int}(h:jb W w R k p){r:Sl}(hr:Ns w r.A r.n r.c r.P):zaC r (some R):=fun h0 a e q=>by
 injection q with q;exact h.fork hr h0 a e q.symm
theorem jb.far{W w w':World}{R:Nat}{k:Cx}{p:Int}{g:Option Nat}(h:jb W w R k p)(hg:w.grownBy w' g)(hne:∀x,g=some x→R<x):jb W w' R k p:=by
 obtain⟨t,e⟩:=h.row;exact⟨h.base.grown hg h.base.size (fun x hx=>Nat.le_trans h.hi (Nat.le_of_lt (hne x hx))),h.hi,h.ok,t,(hg.block R h.lt (fun q=>by have:=hne R q.symm;omega)).trans e⟩
theorem zf0{w w1 w2:World}{r g:Option Nat}(h:w.grownBy w1 r)(k:w1.grownBy w2 g)(hg:∀x,g=some x→w.heap.size≤x):w.grownBy w2 r :=
 ⟨k.os.trans h.os,k.tape.trans h.tape,k.output.trans h.output,Nat.le_trans h.size k.size,fun i hi hn=>(k.block i (Nat.lt_of_lt_of_le hi h.size) (fun e=>by have:=hg i e.symm;omega)).trans (h.block i hi hn)⟩
theorem zcc{W w w1 w2:World}{R:Nat}{k:Cx}{q:Int}{r:Res}{e:Ending}(h:je w1 r e w2)(E:jb W w1 R k q)(G:w.grownBy w1 (some R)):jh W w R k q r e w2:=by
 refine⟨zk G (zh h.1 _),?_⟩
 cases r with
 | error x=>exact h.2
 | ok V =>
  obtain⟨A,n,c,he,hN,hF⟩:=h.2
  exact⟨⟨A,n,c,he,hN,fun a ha => .inr (Nat.le_trans G.size (hF a ha))⟩,E.keep h.1⟩
theorem zey{W w:World}{R B:Nat}{k:Cx}{p:Int}{v:Value}{n:Nat}{xs:List Value}{t:TypeId}{z:Nat}(h:jb W w R k p)(hR:R<B)(hv:w.ownsRow B t z v n xs)(r:Sl)(hF:∀a,r.A=some a→a.block<W.heap.size∨w.heap.size≤a.block):zaC r v.ownBlock:=fun _ a e q=>by
 have h1:=zb4 hv a.block q;have h2:=zW hv a.block q;have h3:=h.hi;rcases hF a e with h4|h4 <;> omega
def zpz:Except Int (List (List Nd))→Res
 | .error e => .error e
 | .ok L=>z8 (Wk.setE L) (setV L)
def zq6:Except Int (List (ByteArray × List Nd))→Res
 | .error e => .error e
 | .ok L=>z8 (zam (L.map Prod.fst) (L.map Prod.snd)) (zcz (L.map Prod.fst) (L.map Prod.snd))
theorem zsv{x:Except Int (List (List Nd))}{e:Int}(h:x = .error e):zpz x = .error e:=by rw [h];rfl
theorem ztc{x:Except Int (List (List Nd))}{L:List (List Nd)}(h:x = .ok L):zpz x=z8 (Wk.setE L) (setV L):=by rw [h];rfl
theorem zrj{x:Except Int (List (ByteArray × List Nd))}{e:Int}(h:x = .error e):zq6 x = .error e:=by rw [h];rfl
theorem zuc{x:Except Int (List (ByteArray × List Nd))}{L:List (ByteArray × List Nd)}(h:x = .ok L):zq6 x=z8 (zam (L.map Prod.fst) (L.map Prod.snd)) (zcz (L.map Prod.fst) (L.map Prod.snd)):=by rw [h];rfl
def zmn(L:List (List Nd)):Except Int (List (List Nd))→Except Int (List (List Nd))
 | .error e => .error e
 | .ok M => .ok (L ++ M)
theorem zrw(x:Except Int (List (List Nd))):zmn [] x=x:=by cases x <;> rfl
theorem zr5{σ:Env}{L:List (List Nd)}{a:Ex}{r:Exs}{e:Int}(h:evX σ a = .error e):zmn L (evS σ (.cons a r))= .error e:=by rw [evS,h];rfl
theorem ztE{σ:Env}{L:List (List Nd)}{a:Ex}{r:Exs}{U:List Nd}(h:evX σ a = .ok U):zmn L (evS σ (.cons a r))=zmn (L ++ [U]) (evS σ r):=by
 rw [evS,h];simp only;rcases evS σ r with e|M
 ·rfl
 ·simp [zmn]
theorem zre{W:World}{R N:Nat}{k:Cx}(ih:zdC W R k N){w:World}{p:Nat}(h:jb W w R k (p:Int))(n:Nd)(ps:Exs)(hx:zcS k.P p false ps)(h5:n.op=5)(hn:n.n=(ps.len:Int))(hl:ps.flat.length≤N)(h200:ps.len≤200):
 Calls Tryz.prog 45 #[.pointer (some ⟨R,0,none⟩),ndV n] w (jh W w R k ((p+ps.flat.length:Nat):Int) (zpz (evS k.env ps))):=by
 obtain⟨i0,hi,hz0,hz1,hz2⟩:=info_parts zcP;have IH:=hi9 ih;have HDR:=hi9 (fun w' hb=>h.cx.door.keep (w':=w') hb);have H0:=hi9 (h.keep (zb w (.cells #[.int .i64 5,.int .i64 n.n,.string n.s,.string n.t] 53)));have G0:=hi9 (zh (zb w (.cells #[.int .i64 5,.int .i64 n.n,.string n.s,.string n.t] 53)) (some R));have hRl:=h.lt;have HX:=hi9 hx;have HL:=hi9 hl;unfold ndV;rw [h5];obtain⟨m,hm⟩:∃m:Nat,m=ps.len:=⟨_,rfl⟩
 rw [←hm] at hn h200;rw [hn] at H0 G0 ⊢;have HM:=hi9 hm;clear h hx hl h5 ih hm hn;go_enter Tryz.func45,Tryz.ntmps45;go_wp2_with fail;go_loopw [5,6,9] (fun nv v i wr=>∃(j q:Nat) (r:Exs) (V:List Sl),nv = .slice none 0 0∧i = .int .i64 j∧j≤m∧V.length=j∧Hid (j+r.len=m)∧Hid (evS k.env ps=zmn (V.map Sl.P) (evS k.env r))∧Hid (zcS k.P q false r)∧Hid (q+r.flat.length=p+ps.flat.length)∧Hid (r.flat.length≤N)∧
  Hid (zT wr (w.heap.size+1) v V)∧Hid (jb W wr R k q)∧Hid (w.grownBy wr (some R))∧wr.cell? ⟨w.heap.size,0,none⟩=some (.int .i64 5)) (fun _ _ i _=>m-(intOf i).toNat)
 case atStart=>exact⟨0,p,ps,[],rfl,rfl,Nat.zero_le _,rfl,hi9 (by rw [Nat.zero_add];exact HM.out.symm),hi9 (zrw _).symm,HX,hi9 rfl,HL,hi9 (zT.nil _ _),H0,G0,by simp⟩
 case round =>
  obtain⟨j,q,r,V,rfl,rfl,hj,hVl,hM,hS,hXs,hQ,hN,hO,hE,hG,hb⟩:=hrel;clear H0 G0;by_cases hlt:j<m
  ·obtain⟨a,r',rfl⟩:∃a r',r = .cons a r':=by
    cases r with
    | nil=>have:=hM.out;simp only [Exs.len] at this;omega
    | cons a r'=>exact⟨a,r',rfl⟩
   obtain⟨ha,hr'⟩:=hXs.out.head
   have hfl:(Exs.cons a r').flat.length=a.flat.length+r'.flat.length:=by simp [Exs.flat]
   have la:a.flat.length≤N:=by have:=hN.out;omega
   have hQ2:=hi9 (show q+a.flat.length+r'.flat.length=p+ps.flat.length by have:=hQ.out;omega)
   have hN2:=hi9 (show r'.flat.length≤N by have:=hN.out;omega)
   have hM2:=hi9 (show j+1+r'.len=m by have:=hM.out;simp only [Exs.len] at this;omega)
   have HR2:=hi9 hr'
   have C:=hi9 (IH.out a q wr hE.out ha la)
   have hwr:w.heap.size<wr.heap.size:=block_lt_of_cell hb
   rcases qa:evX k.env a with e|U
   ·have HEr:=hi9 (hS.out.trans (zr5 qa))
    rw [qa] at C;unfold jh at C;clear hS hXs hQ hN ha hr' hfl la qa hQ2 hN2 hM2 HR2;go_wp2_with fail;refine C.out.mono ?_;rintro e w1 ⟨g1,rfl⟩;have G1:=hi9 (zk hG.out g1);clear g1;go_wp2_with fail;refine⟨rfl,?_⟩;rw [zsv HEr.out];exact⟨G1.out,rfl⟩
   ·have HSr:=hi9 (hS.out.trans (ztE qa))
    rw [qa] at C;unfold jh at C;clear hS hXs hQ hN ha hr' hfl la qa;go_wp2_with fail;refine C.out.mono ?_;rintro e w1 ⟨g1,⟨A1,n1,c1,rfl,N1,F1⟩,E1⟩;have T1:=hi9 (hO.out.past g1 (Nat.lt_succ_of_lt hRl) (fun x hx=>hE.out.apart (hO.out.each x hx)));have AP:=hi9 (zey hE.out (Nat.lt_succ_of_lt hRl) hO.out.own ⟨A1,n1,c1,U⟩ F1);have G1:=hi9 (zk hG.out g1);have HN1:=hi9 (show Ns w1 (⟨A1,n1,c1,U⟩:Sl).A _ _ _ from N1);have HE1:=hi9 E1;have hw1:w.heap.size<w1.heap.size:=Nat.lt_of_lt_of_le hwr g1.size;have hb1:w1.cell? ⟨w.heap.size,0,none⟩=some (.int .i64 5):=g1.cell hb (show some w.heap.size≠some R from fun e=>by injection e with e;omega);have OB:=hi9 (fun g hg=>zW T1.out.own g hg);clear g1 N1 E1 F1 C hO hE hG hb;go_wp2_with (at_builtin;refine wpList_append_own_at _ rfl _ _ 69 rfl (w.heap.size+1) 25 i0 _ 1 24 Tryz.underlying69 hi hz0 hz1 hz2 rfl (by decide) _ V.length (V.map Sl.v) rfl (T1.out.own.alloc _) ⟨_,0,none⟩ 1 1 [.slice A1 n1 c1] rfl rfl (cell_one_new _ _ _) (by intro u hu;simp only [List.mem_cons,List.not_mem_nil,or_false] at hu;subst hu;rfl) ?d1 ?d2 ?d3 ?_)
    case d1=>unfold maxLen;omega
    case d2=>omega
    case d3=>simp;omega
    intro v2 w5 hown hgrow _ hat;have E5:=hi9 ((HE1.out.keep (zb w1 _)).far hgrow (fun x hx=>by have:=OB.out x hx;omega));have G5:=hi9 (zf0 (zk G1.out (zh (zb w1 _) _)) hgrow (fun x hx=>Nat.le_of_succ_le (OB.out x hx)));have T5:=hi9 (T1.out.snoc (r:=⟨A1,n1,c1,U⟩) HN1.out AP.out (by rw [hVl];exact hown) hgrow (by simpa using hat));have hb5:w5.cell? ⟨w.heap.size,0,none⟩=some (.int .i64 5):=hgrow.cell (za (zb w1 _) hb1) (fun e=>by have:=OB.out w.heap.size e.symm;omega);have hl5:(V ++ [(⟨A1,n1,c1,U⟩:Sl)]).length=j+1:=by simp [hVl]
    have HS5:=hi9 (show evS k.env ps=zmn ((V ++ [(⟨A1,n1,c1,U⟩:Sl)]).map Sl.P) (evS k.env r') by rw [HSr.out,List.map_append];rfl);clear hown hgrow hat T1 HN1 AP HE1 G1 HSr;go_wp2_with fail;go_roundw
    case rel=>exact⟨j+1,q+a.flat.length,r',_,rfl,by go_num,by omega,hl5,hM2,HS5,HR2,hQ2,hN2,T5,E5,G5,hb5⟩
    case measure=>simp [intOf];omega
  ·obtain rfl:r = .nil:=by
    cases r with
    | nil=>rfl
    | cons a r'=>have:=hM.out;simp only [Exs.len] at this;omega
   have HV:=hi9 (ztc (L:=V.map Sl.P) (hS.out.trans (by simp [evS,zmn])))
   have HQ:=hi9 (show p+ps.flat.length=q by have:=hQ.out;simpa [Exs.flat] using this.symm)
   obtain⟨A,c,rfl,hc,hSl⟩:=hO.out.at
   have K:=hi9 (zsq A j c V (.slice none 0 0) wr hVl.symm (by omega) hSl hE.out.cx.door)
   have TE:=hi9 (fun e w2 (h:je wr (z8 (Wk.setE (V.map Sl.P)) (setV (V.map Sl.P))) e w2)=>zcc h hE.out hG.out)
   generalize z8 (Wk.setE (V.map Sl.P)) (setV (V.map Sl.P))=rr at *
   clear hM hS hXs hQ hN hO hE hG hSl hc
   rcases rr with u|U
   ·go_wp2_with fail
    refine K.out.mono ?_;rintro e w2 hp;have HP:=hi9 (TE.out _ _ hp);obtain⟨-,rfl⟩:=hp;go_wp2_with fail;refine⟨rfl,?_⟩;rw [HV.out]
    first
     |(rw [show((p:Int)+(ps.flat.length:Int))=(q:Int) by have:=HQ.out;omega];exact HP.out)
     |(rw [HQ.out];exact HP.out)
   ·go_wp2_with fail
    refine K.out.mono ?_;rintro e w2 hp;have HP:=hi9 (TE.out _ _ hp);obtain⟨-,A2,n2,c2,rfl,-,-⟩:=hp;go_wp2_with fail;go_ret;rw [HV.out]
    first
     |(rw [HQ.out];exact HP.out)
     |(rw [show((p:Int)+(ps.flat.length:Int))=(q:Int) by have:=HQ.out;omega];exact HP.out)
def zoz(L:List (ByteArray × List Nd)):Except Int (List (ByteArray × List Nd))→Except Int (List (ByteArray × List Nd))
 | .error e => .error e
 | .ok M => .ok (L ++ M)
theorem zrL(x:Except Int (List (ByteArray × List Nd))):zoz [] x=x:=by cases x <;> rfl
theorem zrB{σ:Env}{L:List (ByteArray × List Nd)}{x:Ex}{r:Exs}{e:Int}(h:zet σ x = .error e):zoz L (evF σ (.cons x r))= .error e:=by rw [evF,h];rfl
theorem zth{σ:Env}{L:List (ByteArray × List Nd)}{x:Ex}{r:Exs}{U:List Nd}(h:zet σ x = .ok U):zoz L (evF σ (.cons x r))=zoz (L ++ [(x.head.s,U)]) (evF σ r):=by
 rw [evF,h];simp only;rcases evF σ r with e|M
 ·rfl
 ·simp [zoz]
theorem jl.past{w w':World}{B R:Nat}{v v':Value}{V:List Sl}{N:List ByteArray}(h:jl w B v v' V N)(hg:w.grownBy w' (some R))(hR:R<B)(ha:∀r∈V,zaC r (some R)):jl w' B v v' V N :=
 ⟨h.a.row hg (zex h.a.own hR) ha,h.b.kept hg (zex h.b hR),h.ab,h.ap⟩
theorem jl.name2{w w':World}{B:Nat}{v v' v1:Value}{V:List Sl}{N:List ByteArray}{s:ByteArray}(h:jl w B v v' V N)
 (hown:w'.ownsRow B 9 1 v1 (N.length+1) (N.map Value.string ++ [.string s])) (hg:w.grownBy w' v'.ownBlock) (hat:v1.ownBlock=v'.ownBlock∨v1.ownBlock=some w.heap.size):jl w' B v v1 V (N ++ [s]):=by
 refine⟨h.a.row hg h.ab h.ap,by simpa using hown,?_,fun r hr h0 a e=>?_⟩
 ·rcases hv:v.ownBlock with _|g
  ·exact .inl rfl
  ·have hlt:=zb4 h.a.own g hv;refine .inr ?_;rcases hat with q|q
   ·rw [q,←hv];rcases h.ab with z|z
    ·rw [hv] at z;cases z
    ·exact z
   ·rw [q];intro z;injection z with z;omega
 ·rcases hat with q|q
  ·rw [q];exact h.ap r hr h0 a e
  ·rw [q];have:=(h.a.each r hr).at_.lt h0 a e;intro z;injection z with z;omega
theorem zgP{ops:Array Oper}{o:Oper}{a:Act}{w:World}{K:Act→World→Prop}{Q:Exit→Act→World→Prop}{E:Prop}(hgd:o.guard=none)(s x:Operand)
 (ho:o.op = .call { callee := .builtin .append,args:=#[s,x],argTypes:=#[70,70] })
 (base:Nat) (v:Value) (N:List ByteArray) (hs:a.eval s=v) (hrow:w.ownsRow base 9 1 v N.length (N.map Value.string)) (z:ByteArray) (ad:Addr) (c:Nat) (hx:a.eval x = .slice (some ad) 1 c)
 (hnew:w.cell? ad=some (.string z)) (hl:N.length≤1000000) (hbase:base≤w.heap.size)
 (h:∀v' w',w'.ownsRow base 9 1 v' (N.length+1) (N.map Value.string ++ [.string z])→w.grownBy w' v.ownBlock→(v'.ownBlock=v.ownBlock∨v'.ownBlock=some w.heap.size)→K (a.put o.dst v') w'):
 if Region.wanted o (yielded ops a.tmps)=true then Oper.wp Tryz.prog o a w K Q else E:=by
 have hi:=zdk
 cases hq:Tryz.prog.info? 9 with
 | none=>rw [hq] at hi;cases hi
 | some i0 =>
  rw [hq] at hi
  simp only [Option.map_some,Option.some.injEq,Prod.mk.injEq] at hi
  refine step_append_lies w hgd s x _ ho base _ i0 _ 1 16 Tryz.underlying70 hq hi.1 hi.2.1 hi.2.2 (by decide) (by decide) v N.length (N.map Value.string) hs hrow ad 1 c [.string z] hx rfl ?_ ?_ (by decide) (by unfold maxLen;omega) (by omega) hbase _ rfl ?_
  ·intro j u hj
   match j,hj with
   | 0,hj =>
    simp only [List.getElem?_cons_zero,Option.some.injEq] at hj
    subst hj
    exact hnew
   | j+1,hj=>simp at hj
  ·intro u hu
   simp only [List.mem_cons,List.not_mem_nil,or_false] at hu;subst hu;rfl
  ·intro g cap w' h1 h2 h3 h4
   refine h _ w' h1 h2 ?_;rcases h3 with h3|h3
   ·exact .inl h3.symm
   ·exact .inr (by rw [←h3];rfl)
theorem zqS{W:World}{R N:Nat}{k:Cx}(ih:zdC W R k N){w:World}{p:Nat}(h:jb W w R k (p:Int))(n:Nd)(ps:Exs)(hx:zcS k.P p true ps)(h6:n.op=6)(hn:n.n=(ps.len:Int))(hl:ps.flat.length≤N)(h200:ps.len≤200):
 Calls Tryz.prog 45 #[.pointer (some ⟨R,0,none⟩),ndV n] w (jh W w R k ((p+ps.flat.length:Nat):Int) (zq6 (evF k.env ps))):=by
 obtain⟨i0,hi,hz0,hz1,hz2⟩:=info_parts zcP;obtain⟨j0,hj0,jz0,jz1,jz2⟩:=info_parts zdk;have IH:=hi9 ih;have H0:=hi9 (h.keep (zb w (.cells #[.int .i64 6,.int .i64 n.n,.string n.s,.string n.t] 53)));have G0:=hi9 (zh (zb w (.cells #[.int .i64 6,.int .i64 n.n,.string n.s,.string n.t] 53)) (some R));have hRl:=h.lt;have HX:=hi9 hx;have HL:=hi9 hl;have hmx:=h.cx.ns.max;unfold maxLen at hmx;unfold ndV;rw [h6];obtain⟨m,hm⟩:∃m:Nat,m=ps.len:=⟨_,rfl⟩
 rw [←hm] at hn h200;rw [hn] at H0 G0 ⊢;have HM:=hi9 hm;clear h hx hl h6 ih hm hn;go_enter Tryz.func45,Tryz.ntmps45;go_wp2_with fail;go_loopw [5,6,9] (fun nv v i wr=>∃(j q:Nat) (r:Exs) (V:List Sl) (X:List (ByteArray × List Nd)),i = .int .i64 j∧j≤m∧V.length=j∧X.length=j∧Hid (V.map Sl.P=X.map Prod.snd)∧Hid (∀x∈X,x.1.size≤maxLen)∧Hid (j+r.len=m)∧Hid (evF k.env ps=zoz X (evF k.env r))∧Hid (zcS k.P q true r)∧Hid (q+r.flat.length=p+ps.flat.length)∧Hid (r.flat.length≤N)∧
  Hid (jl wr (w.heap.size+1) v nv V (X.map Prod.fst))∧Hid (jb W wr R k q)∧Hid (w.grownBy wr (some R))∧wr.cell? ⟨w.heap.size,0,none⟩=some (.int .i64 6)) (fun _ _ i _=>m-(intOf i).toNat)
 case atStart=>exact⟨0,p,ps,[],[],rfl,Nat.zero_le _,rfl,rfl,hi9 rfl,hi9 (fun x hx=>nomatch hx),hi9 (by rw [Nat.zero_add];exact HM.out.symm),hi9 (zrL _).symm,HX,hi9 rfl,HL,hi9 ⟨zT.nil _ _,World.ownsRow_nil _ _ _ 1,.inl rfl,(by intro r hr;cases hr)⟩,H0,G0,by simp⟩
 case round =>
  obtain⟨j,q,r,V,X,rfl,hj,hVl,hXl,hVX,hXz,hM,hS,hXs,hQ,hN,hT,hE,hG,hb⟩:=hrel;clear H0 G0;by_cases hlt:j<m
  ·obtain⟨x,r',rfl⟩:∃x r',r = .cons x r':=by
    cases r with
    | nil=>have:=hM.out;simp only [Exs.len] at this;omega
    | cons x r'=>exact⟨x,r',rfl⟩
   obtain⟨hx,hr'⟩:=hXs.out.head
   obtain⟨fn,y,rfl,h7,-,hy,hyl⟩:=hx.field
   obtain⟨a,ha,hqn,D,ho⟩:=hE.out.node hx
   have hfl:(Exs.cons (.node fn (.cons y .nil)) r').flat.length=(Ex.node fn (.cons y .nil)).flat.length+r'.flat.length:=by simp [Exs.flat]
   have ly:y.flat.length≤N:=by have:=hN.out;omega
   have hQ2:=hi9 (show q+1+y.flat.length+r'.flat.length=p+ps.flat.length by have:=hQ.out;omega)
   have hN2:=hi9 (show r'.flat.length≤N by have:=hN.out;omega)
   have hM2:=hi9 (show j+1+r'.len=m by have:=hM.out;simp only [Exs.len] at this;omega)
   have HR2:=hi9 (show zcS k.P (q+1+y.flat.length) true r' by rw [show q+1+y.flat.length=q+(Ex.node fn (.cons y .nil)).flat.length by omega];exact hr')
   have HY:=hi9 hy
   have c8:wr.cell? ⟨R,8,none⟩=some (.slice (some a) k.n k.c):=by rw [←ha];exact hE.out.c8
   have c9:=hE.out.c9
   have z9:=hE.out.z 9
   have hRl2:=hE.out.lt
   have d2:=D.c2
   have hwr:w.heap.size<wr.heap.size:=block_lt_of_cell hb
   have BA:Below wr.heap.size wr ((wr.alloc (.cells #[.string fn.s] 9)).drew):=(zb wr _).trans ((zG _).mono (by simp))
   have hsA:((wr.alloc (.cells #[.string fn.s] 9)).drew).heap.size=wr.heap.size+1:=by
    show(wr.alloc (.cells #[.string fn.s] 9)).heap.size=_;simp
   have T1:=hT.out.keep BA
   have e8:=za BA c8
   have e9:=za BA c9
   have ed:=za BA d2
   have hbA:=za BA hb
   have EA:=hE.out.keep BA
   have GA:=zk hG.out (zh BA (some R))
   have hcell:((wr.alloc (.cells #[.string fn.s] 9)).drew).cell? ⟨wr.heap.size,0,none⟩=some (.string fn.s):=jf (heap_alloc_last wr _) rfl
   have OBs:∀g,u5.ownBlock=some g→w.heap.size+1≤g:=fun g hg=>zW hT.out.b g hg
   have NE8:some R≠u5.ownBlock:=fun e=>by have:=OBs R e.symm;omega
   have NEa:some (a.add (q*4)).block≠u5.ownBlock:=fun e=>by
    have h1:=OBs _ e.symm;have h2:=hE.out.ok.ns.at_.lt (by rw [←hE.out.ok.ns.len];omega) a ha;have h3:=hE.out.hi;rw [zch] at h1;omega
   have NEb:some w.heap.size≠u5.ownBlock:=fun e=>by have:=OBs _ e.symm;omega
   have hlX:(X.map Prod.fst).length≤1000000:=by rw [List.length_map];omega
   have hbs:w.heap.size+1≤((wr.alloc (.cells #[.string fn.s] 9)).drew).heap.size:=by rw [hsA];omega
   have hp0:(0:Int)≤(q:Int):=by omega
   have hp1:(q:Int)<(k.n:Int):=by omega
   have FB:∀g,u5.ownBlock=some g→R<g:=fun g hg=>by have:=OBs g hg;omega
   go_wp2_with fail
   go_region_held3 (fun w':World=>w'.cell? ⟨R,8,none⟩=some (.slice (some a) k.n k.c)∧w'.cell? ⟨R,9,none⟩=some (.int .i64 q)∧w'.cell? ⟨(a.add (q*4)).block,(a.add (q*4)).off+2,none⟩=some (.string fn.s)) (first|exact⟨c8,c9,d2⟩|exact⟨e8,e9,ed⟩|exact⟨t8,t9,td⟩)
    ((refine zgP rfl (.tmp 14) (.tmp 26) rfl (w.heap.size+1) u5 (X.map Prod.fst) rfl T1.b fn.s ⟨wr.heap.size,0,none⟩ 1 rfl hcell hlX hbs ?_;intro v1 w1 hown hgrow hat;have t8:=hgrow.cell e8 NE8;have t9:=hgrow.cell e9 NE8;have td:=hgrow.cell ed NEa))
   have T2:=T1.name2 (s:=fn.s) hown hgrow hat
   have E1:=EA.far hgrow FB
   have G1:=zf0 GA hgrow (fun x hx=>Nat.le_of_succ_le (OBs x hx))
   have hb1:w1.cell? ⟨w.heap.size,0,none⟩=some (.int .i64 6):=hgrow.cell hbA NEb
   have E2:=zhZ E1 ((q:Int)+1)
   have T3:=hi9 (T2.past E2.2 (Nat.lt_succ_of_lt hRl) (fun r hr=>E1.apart (T2.a.each r hr)))
   have G2:=hi9 (zk G1 E2.2)
   have hb2:=E2.2.cell hb1 (show some w.heap.size≠some R from fun e=>by injection e with e;omega)
   have HE2:=hi9 E2.1
   have zz:=E1.z 9
   have hlw:=E1.lt
   have C:=hi9 (IH.out y (q+1) (w1.setCell ⟨R,9,none⟩ (.int .i64 ((q:Int)+1))) E2.1 HY.out ly)
   have hXl2:(X ++ [(fn.s,([]:List Nd))]).length=j+1:=by simp [hXl]
   have HSZ:=hi9 ho.s
   have hq64:(q:Int)+1≤9223372036854775807:=by omega
   have hq0:(0:Int)≤(q:Int):=by omega
   clear hown hgrow hat T1 T2 E1 G1 EA GA hbA hcell OBs NE8 NEa NEb hlX hbs FB BA hsA e8 e9 ed hT hE hG td t8 c8 c9 d2 D ha ho z9 hp0 hb
   rcases qa:evX k.env y with e|U
   ·have HEr:=hi9 (hS.out.trans (zrB (x := .node fn (.cons y .nil)) (by rw [zet,zd7,qa])))
    rw [qa] at C;unfold jh at C;clear hS hXs hQ hN hx hr' hfl ly qa hQ2 hN2 hM2 HR2 hy hyl;go_wp2_with fail;refine C.out.mono ?_;rintro e w3 ⟨g3,rfl⟩;have G3:=hi9 (zk G2.out g3);clear g3;go_wp2_with fail;refine⟨rfl,?_⟩;rw [zrj HEr.out];exact⟨G3.out,rfl⟩
   ·have HSr:=hi9 (hS.out.trans (zth (x := .node fn (.cons y .nil)) (by rw [zet,zd7,qa])))
    rw [qa] at C;unfold jh at C;clear hS hXs hQ hN hx hr' hfl ly qa hy hyl;go_wp2_with fail;refine C.out.mono ?_;rintro e w3 ⟨g3,⟨A1,n1,c1,rfl,N1,F1⟩,E3⟩;have T4:=hi9 (T3.out.past g3 (Nat.lt_succ_of_lt hRl) (fun x hx=>HE2.out.apart (T3.out.a.each x hx)));have A4:=hi9 (zey HE2.out (Nat.lt_succ_of_lt hRl) T3.out.a.own ⟨A1,n1,c1,U⟩ F1);have A5:=hi9 (zey HE2.out (Nat.lt_succ_of_lt hRl) T3.out.b ⟨A1,n1,c1,U⟩ F1);have G3:=hi9 (zk G2.out g3);have HN1:=hi9 (show Ns w3 (⟨A1,n1,c1,U⟩:Sl).A _ _ _ from N1);have HE3:=hi9 E3;have hb3:w3.cell? ⟨w.heap.size,0,none⟩=some (.int .i64 6):=g3.cell hb2 (show some w.heap.size≠some R from fun e=>by injection e with e;omega);have hw3:w.heap.size<w3.heap.size:=block_lt_of_cell hb3;have OB:=hi9 (fun g hg=>zW T4.out.a.own g hg);clear g3 N1 E3 F1 C T3 HE2 G2 hb2 hb1 t9 zz hlw;go_wp2_with (at_builtin;refine wpList_append_own_at _ rfl _ _ 69 rfl (w.heap.size+1) 25 i0 _ 1 24 Tryz.underlying69 hi hz0 hz1 hz2 rfl (by decide) _ V.length (V.map Sl.v) rfl (T4.out.a.own.alloc _) ⟨_,0,none⟩ 1 1 [.slice A1 n1 c1] rfl rfl (cell_one_new _ _ _) (by intro u hu;simp only [List.mem_cons,List.not_mem_nil,or_false] at hu;subst hu;rfl) ?d1 ?d2 ?d3 ?_)
    case d1=>unfold maxLen;omega
    case d2=>omega
    case d3=>simp;omega
    intro v2 w5 hown hgrow _ hat;have E5:=hi9 ((HE3.out.keep (zb w3 _)).far hgrow (fun x hx=>by have:=OB.out x hx;omega));have G5:=hi9 (zf0 (zk G3.out (zh (zb w3 _) _)) hgrow (fun x hx=>Nat.le_of_succ_le (OB.out x hx)));have T5:=T4.out.part (r:=⟨A1,n1,c1,U⟩) HN1.out A4.out A5.out (by rw [hVl];exact hown) hgrow (by simpa using hat);have hb5:w5.cell? ⟨w.heap.size,0,none⟩=some (.int .i64 6):=hgrow.cell (za (zb w3 _) hb3) (fun e=>by have:=OB.out w.heap.size e.symm;omega);have hl5:(V ++ [(⟨A1,n1,c1,U⟩:Sl)]).length=j+1:=by simp [hVl]
    have hl6:(X ++ [(fn.s,U)]).length=j+1:=by simp [hXl]
    have HVX:=hi9 (show(V ++ [(⟨A1,n1,c1,U⟩:Sl)]).map Sl.P=(X ++ [(fn.s,U)]).map Prod.snd by rw [List.map_append,List.map_append,hVX.out];rfl);have HXZ:=hi9 (show∀x∈X ++ [(fn.s,U)],x.1.size≤maxLen from fun x hx=>by
     rcases List.mem_append.1 hx with hx|hx
     ·exact hXz.out x hx
     ·simp only [List.mem_cons,List.not_mem_nil,or_false] at hx
      subst hx
      exact HSZ.out)
    have T6:=hi9 (show jl w5 (w.heap.size+1) v2 v1 (V ++ [(⟨A1,n1,c1,U⟩:Sl)]) ((X ++ [(fn.s,U)]).map Prod.fst) by rw [List.map_append];exact T5);clear hown hgrow hat T4 T5 HN1 A4 A5 HE3 G3 hVX hXz;go_wp2_with fail;go_roundw
    case rel=>exact⟨j+1,q+1+y.flat.length,r',_,_,by go_num,by omega,hl5,hl6,HVX,HXZ,hM2,HSr,HR2,hQ2,hN2,T6,E5,G5,hb5⟩
    case measure=>simp [intOf];omega
  ·obtain rfl:r = .nil:=by
    cases r with
    | nil=>rfl
    | cons a r'=>have:=hM.out;simp only [Exs.len] at this;omega
   have HV:=hi9 (zuc (L:=X) (hS.out.trans (by simp [evF,zoz])))
   have HQ:=hi9 (show p+ps.flat.length=q by have:=hQ.out;simpa [Exs.flat] using this.symm)
   obtain⟨A,c,rfl,hc,hSl⟩:=hT.out.a.at
   obtain⟨A2,c2,rfl,hTx⟩:=zdR hT.out.b
   have hlX:(X.map Prod.fst).length=j:=by rw [List.length_map];exact hXl
   have K:=hi9 (zrI A2 j c2 (X.map Prod.fst) A j c V wr hlX.symm (by omega) (fun i x hi=>hTx i (.string x) (by rw [List.getElem?_map,hi];rfl)) (fun x hx=>by obtain⟨y,hy,rfl⟩:=List.mem_map.1 hx;exact hXz.out y hy) hVl.symm (by omega) hSl hE.out.cx.door)
   rw [hVX.out] at K
   have TE:=hi9 (fun e w2 (h:je wr (z8 (zam (X.map Prod.fst) (X.map Prod.snd)) (zcz (X.map Prod.fst) (X.map Prod.snd))) e w2)=>zcc h hE.out hG.out)
   generalize z8 (zam (X.map Prod.fst) (X.map Prod.snd)) (zcz (X.map Prod.fst) (X.map Prod.snd))=rr at *
   clear hM hS hXs hQ hN hT hE hG hSl hc hTx hVX hXz
   rcases rr with u|U
   ·go_wp2_with fail
    refine K.out.mono ?_;rintro e w2 hp;have HP:=hi9 (TE.out _ _ hp);obtain⟨-,rfl⟩:=hp;go_wp2_with fail;refine⟨rfl,?_⟩;rw [HV.out]
    first
     |(rw [show((p:Int)+(ps.flat.length:Int))=(q:Int) by have:=HQ.out;omega];exact HP.out)
     |(rw [HQ.out];exact HP.out)
   ·go_wp2_with fail
    refine K.out.mono ?_;rintro e w2 hp;have HP:=hi9 (TE.out _ _ hp);obtain⟨-,A3,n3,c3,rfl,-,-⟩:=hp;go_wp2_with fail;go_ret;rw [HV.out]
    first
     |(rw [HQ.out];exact HP.out)
     |(rw [show((p:Int)+(ps.flat.length:Int))=(q:Int) by have:=HQ.out;omega];exact HP.out)
end Go.Proofs.YtkfgabdnppmglaaGreatDoor
