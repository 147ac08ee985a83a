/-
  The document's told: the type of what has parts of some types. (gen_reftyt.py)
-/
import Derived.Test.YtjcdeikbghjpkaaGreatDoorQ23
set_option maxRecDepth 100000
set_option maxHeartbeats 8000000
namespace Go.Proofs.YtjcdeikbghjpkaaGreatDoor
open Go.RowKit Go.Wk Go.Sort
theorem zrZ(k:Kd)(h:k.valid):kOp k≠0:=by
 cases k with
 | base x=>have hb:jq x:=h;intro e;unfold jq at hb;simp only [kOp] at e;omega
 | ent u=>simp [kOp]
 | set p=>simp [kOp]
 | fs g=>simp [kOp]
theorem jB(k:Kd)(h:k.valid)(a:Int):zj [a,0] k=zj [a] k:=by
 have h0:=zrZ k h;rw [za8];unfold zj;rw [Bool.eq_iff_iff];simp only [List.contains_cons,List.contains_nil,Bool.or_false,Bool.or_eq_true,decide_eq_true_eq,beq_iff_eq];omega
def zC(op:Int)(L:List Kd):zb1:=if op=2 then .ok (.base 42) else if op=3 then .ok (.base 43) else if op=11 then(if L.all (zj [41])=true then .ok (.base 41) else .error 2) else zG op L
def jX(V:List Sl)(L:List Kd):Prop:=V.map Sl.P=L.map Kd.flat∧∀k∈L,k.valid
theorem jX.at{V:List Sl}{L:List Kd}(h:jX V L){j:Nat}(hj:j<V.length):∃hl:j<L.length,V[j].P=L[j].flat∧L[j].valid:=by
 have hl:j<L.length:=by have:=congrArg List.length h.1;simp at this;omega
 refine⟨hl,?_,h.2 _ (List.getElem_mem hl)⟩;have:=congrArg (fun l=>l[j]?) h.1;simp only [List.getElem?_map,List.getElem?_eq_getElem hj,List.getElem?_eq_getElem hl,Option.map_some,Option.some.injEq] at this;exact this
theorem jX.len{V:List Sl}{L:List Kd}(h:jX V L):V.length=L.length:=by have:=congrArg List.length h.1;simpa using this
theorem jo{w:World}{A:Option Addr}{V:List Sl}{L:List Kd}(h:zb6 w A V)(hk:jX V L){j:Nat}(hj:j<V.length):∃a,A=some a∧w.cell? (a.add (j*2))=some (.slice V[j].A V[j].n V[j].c)∧w.cell? ⟨(a.add (j*2)).block,(a.add (j*2)).off+1,none⟩=some (.int .i64 0)∧
 ∃hl:j<L.length,L[j].valid∧Ns w V[j].A V[j].n V[j].c L[j].flat∧∀(o p:Int) w',Below w.heap.size w w'→Calls Tryz.prog 33 #[.agg #[.slice V[j].A V[j].n V[j].c,.int .i64 0],.int .i64 o,.int .i64 p] w' fun e w2=>e = .returned (.bool (zj [o,p] L[j]))∧Below w'.heap.size w' w2:=by
 obtain⟨a,e,h1,h2,h3⟩:=h j _ (List.getElem?_eq_getElem hj);obtain⟨hl,hp,hv⟩:=hk.at hj;rw [hp] at h3;exact⟨a,e,h1,h2,hl,hv,h3,fun o p w' hb=>zeA _ _ _ _ 0 o p w' (h3.keep hb)⟩
theorem zrq(S:Nat→Prop)(A:Option Addr)(n c:Nat)(V:List Sl)(L:List Kd)(w:World)(hV:V.length=n)(hA:zb6 w A V)(hK:jX V L):
 Calls Tryz.prog 35 #[.int .i64 1,.slice A n c] w (zR S w (zC 1 L)):=by
 have _hV:=hV;rw [show zC 1 L = .ok (.base 41) from by unfold zC zG j9;simp];have R0:=hi9 (zQ w (.slice none 0 0) (.int .i64 0) 30);have B0:=hi9 (za w (.cells #[.slice none 0 0,.int .i64 0] 30));have HA:=hi9 (fun w' (hb:Below w.heap.size w w')=>hA.keep hb);have HK:=hi9 hK;clear hA hK HA HK;go_enter Tryz.func35,Tryz.ntmps35;go_wp2_with fail;refine(jh 41 _).mono ?_;rintro e w1 ⟨A1,n1,c1,rfl,hN1,hf1,b1⟩;have B1:=bh B0 b1;have HFR:=hi9 (jz (S:=S) B0.out R0.out hf1);have R1:=hi9 (R0.out.keep b1);have NZ:=hi9 hN1;clear b1 B0 R0 hN1 hf1;have RS:=R1.out.set (.slice A1 n1 c1) (.int .i64 0);obtain⟨s0,s1,-,-⟩:=RS;have GF:=hi9 (zq (S:=S) (r := .ok (.base 41)) NZ.out HFR.out B1.out (show w.heap.size≤w.heap.size by omega));obtain⟨r0,r1,z0,z1⟩:=R1.out;go_wp2_with fail;exact bodyPost_ret (v := .agg #[.slice A1 n1 c1,.int .i64 0]) (by simp [results,Tryz.results35,go_sem,s0,s1]) rfl GF.out
theorem zsr(S:Nat→Prop)(A:Option Addr)(n c:Nat)(V:List Sl)(L:List Kd)(w:World)(hV:V.length=n)(hA:zb6 w A V)(hK:jX V L):
 Calls Tryz.prog 35 #[.int .i64 2,.slice A n c] w (zR S w (zC 2 L)):=by
 have _hV:=hV;rw [show zC 2 L = .ok (.base 42) from by unfold zC zG j9;simp];have R0:=hi9 (zQ w (.slice none 0 0) (.int .i64 0) 30);have B0:=hi9 (za w (.cells #[.slice none 0 0,.int .i64 0] 30));have HA:=hi9 (fun w' (hb:Below w.heap.size w w')=>hA.keep hb);have HK:=hi9 hK;clear hA hK HA HK;go_enter Tryz.func35,Tryz.ntmps35;go_wp2_with fail;refine(jh 42 _).mono ?_;rintro e w1 ⟨A1,n1,c1,rfl,hN1,hf1,b1⟩;have B1:=bh B0 b1;have HFR:=hi9 (jz (S:=S) B0.out R0.out hf1);have R1:=hi9 (R0.out.keep b1);have NZ:=hi9 hN1;clear b1 B0 R0 hN1 hf1;have RS:=R1.out.set (.slice A1 n1 c1) (.int .i64 0);obtain⟨s0,s1,-,-⟩:=RS;have GF:=hi9 (zq (S:=S) (r := .ok (.base 42)) NZ.out HFR.out B1.out (show w.heap.size≤w.heap.size by omega));obtain⟨r0,r1,z0,z1⟩:=R1.out;go_wp2_with fail;exact bodyPost_ret (v := .agg #[.slice A1 n1 c1,.int .i64 0]) (by simp [results,Tryz.results35,go_sem,s0,s1]) rfl GF.out
theorem zrF(S:Nat→Prop)(A:Option Addr)(n c:Nat)(V:List Sl)(L:List Kd)(w:World)(hV:V.length=n)(hA:zb6 w A V)(hK:jX V L):
 Calls Tryz.prog 35 #[.int .i64 3,.slice A n c] w (zR S w (zC 3 L)):=by
 have _hV:=hV;rw [show zC 3 L = .ok (.base 43) from by unfold zC zG j9;simp];have R0:=hi9 (zQ w (.slice none 0 0) (.int .i64 0) 30);have B0:=hi9 (za w (.cells #[.slice none 0 0,.int .i64 0] 30));have HA:=hi9 (fun w' (hb:Below w.heap.size w w')=>hA.keep hb);have HK:=hi9 hK;clear hA hK HA HK;go_enter Tryz.func35,Tryz.ntmps35;go_wp2_with fail;refine(jh 43 _).mono ?_;rintro e w1 ⟨A1,n1,c1,rfl,hN1,hf1,b1⟩;have B1:=bh B0 b1;have HFR:=hi9 (jz (S:=S) B0.out R0.out hf1);have R1:=hi9 (R0.out.keep b1);have NZ:=hi9 hN1;clear b1 B0 R0 hN1 hf1;have RS:=R1.out.set (.slice A1 n1 c1) (.int .i64 0);obtain⟨s0,s1,-,-⟩:=RS;have GF:=hi9 (zq (S:=S) (r := .ok (.base 43)) NZ.out HFR.out B1.out (show w.heap.size≤w.heap.size by omega));obtain⟨r0,r1,z0,z1⟩:=R1.out;go_wp2_with fail;exact bodyPost_ret (v := .agg #[.slice A1 n1 c1,.int .i64 0]) (by simp [results,Tryz.results35,go_sem,s0,s1]) rfl GF.out
theorem zta(S:Nat→Prop)(A:Option Addr)(n c:Nat)(V:List Sl)(L:List Kd)(w:World)(hV:V.length=n)(hA:zb6 w A V)(hK:jX V L):
 Calls Tryz.prog 35 #[.int .i64 14,.slice A n c] w (zR S w (zC 14 L)):=by
 have _hV:=hV;rw [show zC 14 L = .ok (.base 41) from by unfold zC zG j9;simp];have R0:=hi9 (zQ w (.slice none 0 0) (.int .i64 0) 30);have B0:=hi9 (za w (.cells #[.slice none 0 0,.int .i64 0] 30));have HA:=hi9 (fun w' (hb:Below w.heap.size w w')=>hA.keep hb);have HK:=hi9 hK;clear hA hK HA HK;go_enter Tryz.func35,Tryz.ntmps35;go_wp2_with fail;refine(jh 41 _).mono ?_;rintro e w1 ⟨A1,n1,c1,rfl,hN1,hf1,b1⟩;have B1:=bh B0 b1;have HFR:=hi9 (jz (S:=S) B0.out R0.out hf1);have R1:=hi9 (R0.out.keep b1);have NZ:=hi9 hN1;clear b1 B0 R0 hN1 hf1;have RS:=R1.out.set (.slice A1 n1 c1) (.int .i64 0);obtain⟨s0,s1,-,-⟩:=RS;have GF:=hi9 (zq (S:=S) (r := .ok (.base 41)) NZ.out HFR.out B1.out (show w.heap.size≤w.heap.size by omega));obtain⟨r0,r1,z0,z1⟩:=R1.out;go_wp2_with fail;exact bodyPost_ret (v := .agg #[.slice A1 n1 c1,.int .i64 0]) (by simp [results,Tryz.results35,go_sem,s0,s1]) rfl GF.out
theorem zoW(S:Nat→Prop)(A:Option Addr)(n c:Nat)(V:List Sl)(L:List Kd)(w:World)(hV:V.length=n)(hA:zb6 w A V)(hK:jX V L)(hn:n≤4000):
 Calls Tryz.prog 35 #[.int .i64 9,.slice A n c] w (zR S w (zC 9 L)):=by
 have HR:=hi9 (show zC 9 L=if L.all (zj [41])=true then .ok (.base 41) else .error 2 from by unfold zC zG j9;simp);obtain⟨rr,hrr⟩:∃rr,rr=zC 9 L:=⟨_,rfl⟩
 rw [←hrr];have HRR:=hi9 (hrr.trans HR.out);clear HR hrr;have R0:=hi9 (zQ w (.slice none 0 0) (.int .i64 0) 30);have B0:=hi9 (za w (.cells #[.slice none 0 0,.int .i64 0] 30));have HA:=hi9 (fun w' (hb:Below w.heap.size w w')=>hA.keep hb);have HK:=hi9 hK;have hVn:(V.length:Int)=(n:Int):=by omega
 clear hA hK;go_enter Tryz.func35,Tryz.ntmps35;go_wp2_with fail;obtain⟨w0,hw0⟩:∃w0,w.alloc (.cells #[.slice none 0 0,.int .i64 0] 30)=w0:=⟨_,rfl⟩
 rw [hw0] at B0 R0 ⊢;clear hw0;go_loopw [5,6] (fun v u wr=>∃j:Nat,u = .int .i64 j∧j≤n∧v = .bool ((L.take j).all (zj [41]))∧Hid (Below w0.heap.size w0 wr)) (fun _ u _=>n-(intOf u).toNat)
 case atStart=>exact⟨0,rfl,Nat.zero_le _,rfl,hi9 (Below.refl _ _)⟩
 case round =>
  obtain⟨j,rfl,hj,rfl,hB⟩:=hrel;obtain⟨w1,rfl⟩:∃w1:World,w1=wr:=⟨_,rfl⟩
  by_cases hlt:j<n
  ·obtain⟨a,rfl,u0,u1,hl,hv,-,hc⟩:=jo (HA.out _ (bh B0 hB.out).out) HK.out (show j<V.length by omega);have KC:=hi9 (hc 41 0 w1 (Below.refl _ _));rw [jB _ hv] at KC;have HT:=hi9 (show(L.take (j+1)).all (zj [41])=((L.take j).all (zj [41])&& zj [41] L[j]) from by rw [List.take_succ_eq_append_getElem hl,List.all_append];simp);have hji:(j:Int)<(n:Int):=by omega
   generalize V[j]=y at *;generalize L[j]=kk at *;generalize zj [41] kk=m at *;clear hc hv;rcases hb:(L.take j).all (zj [41]) with _|_
   ·rw [hb] at HT;go_wp2_with fail;go_roundw
    case rel=>exact⟨j+1,by go_num,by omega,by rw [HT.out];simp,hB⟩
    case measure=>simp [intOf];omega
   ·rw [hb] at HT;go_wp2_with fail;refine KC.out.mono ?_;rintro e w2 ⟨rfl,b2⟩;have HB2:=bh hB b2;clear b2;go_wp2_with fail;go_roundw
    case rel=>exact⟨j+1,by go_num,by omega,by rw [HT.out];simp,HB2⟩
    case measure=>simp [intOf];omega
  ·have hjn:j=n:=by omega
   subst hjn;have HAL:=hi9 (show L.take j=L from List.take_of_length_le (by rw [←HK.out.len,hV];exact Nat.le_refl _));rw [HAL.out];have B1:=bh B0 hB.out;have R1:=hi9 (R0.out.keep hB.out);rcases hb:L.all (zj [41]) with _|_
   ·have hb:=hb;go_wp2_with fail;refine(zH _ _).mono ?_;rintro e w2 ⟨rfl,b2⟩;have B2:=bh B1 b2;have R2:=hi9 (R1.out.keep b2);clear b2 B1 R1;have RS:=R2.out.set (.slice none 0 0) (.int .i64 2);obtain⟨s0,s1,-,-⟩:=RS;have GF:=hi9 (zq (S:=S) (r := .error 2) (zY _) zI B2.out (show w.heap.size≤w.heap.size by omega));obtain⟨r0,r1,z0,z1⟩:=R2.out;go_wp2_with fail;exact bodyPost_ret (v := .agg #[.slice none 0 0,.int .i64 2]) (by simp [results,Tryz.results35,go_sem,s0,s1]) rfl (by rw [show rr = .error 2 from by rw [HRR.out];simp [hb]];exact GF.out)
   ·have hb:=hb;go_wp2_with fail;refine(jh 41 _).mono ?_;rintro e w2 ⟨A2,n2,c2,rfl,hN2,hf2,b2⟩;have B2:=bh B1 b2;have HFR:=hi9 (jz (S:=S) B1.out R1.out hf2);have R2:=hi9 (R1.out.keep b2);have NZ:=hi9 hN2;clear b2 B1 R1 hN2 hf2;have RS:=R2.out.set (.slice A2 n2 c2) (.int .i64 0);obtain⟨s0,s1,-,-⟩:=RS;have GF:=hi9 (zq (S:=S) (r := .ok (.base 41)) NZ.out HFR.out B2.out (show w.heap.size≤w.heap.size by omega));obtain⟨r0,r1,z0,z1⟩:=R2.out;go_wp2_with fail;exact bodyPost_ret (v := .agg #[.slice A2 n2 c2,.int .i64 0]) (by simp [results,Tryz.results35,go_sem,s0,s1]) rfl (by rw [show rr = .ok (.base 41) from by rw [HRR.out];simp [hb]];exact GF.out)
theorem zmO(S:Nat→Prop)(A:Option Addr)(n c:Nat)(V:List Sl)(L:List Kd)(w:World)(hV:V.length=n)(hA:zb6 w A V)(hK:jX V L)(hn:n≤4000):
 Calls Tryz.prog 35 #[.int .i64 11,.slice A n c] w (zR S w (zC 11 L)):=by
 have HR:=hi9 (show zC 11 L=if L.all (zj [41])=true then .ok (.base 41) else .error 2 from by unfold zC zG j9;simp);obtain⟨rr,hrr⟩:∃rr,rr=zC 11 L:=⟨_,rfl⟩
 rw [←hrr];have HRR:=hi9 (hrr.trans HR.out);clear HR hrr;have R0:=hi9 (zQ w (.slice none 0 0) (.int .i64 0) 30);have B0:=hi9 (za w (.cells #[.slice none 0 0,.int .i64 0] 30));have HA:=hi9 (fun w' (hb:Below w.heap.size w w')=>hA.keep hb);have HK:=hi9 hK;have hVn:(V.length:Int)=(n:Int):=by omega
 clear hA hK;go_enter Tryz.func35,Tryz.ntmps35;go_wp2_with fail;obtain⟨w0,hw0⟩:∃w0,w.alloc (.cells #[.slice none 0 0,.int .i64 0] 30)=w0:=⟨_,rfl⟩
 rw [hw0] at B0 R0 ⊢;clear hw0;go_loopw [5,6] (fun v u wr=>∃j:Nat,u = .int .i64 j∧j≤n∧v = .bool ((L.take j).all (zj [41]))∧Hid (Below w0.heap.size w0 wr)) (fun _ u _=>n-(intOf u).toNat)
 case atStart=>exact⟨0,rfl,Nat.zero_le _,rfl,hi9 (Below.refl _ _)⟩
 case round =>
  obtain⟨j,rfl,hj,rfl,hB⟩:=hrel;obtain⟨w1,rfl⟩:∃w1:World,w1=wr:=⟨_,rfl⟩
  by_cases hlt:j<n
  ·obtain⟨a,rfl,u0,u1,hl,hv,-,hc⟩:=jo (HA.out _ (bh B0 hB.out).out) HK.out (show j<V.length by omega);have KC:=hi9 (hc 41 0 w1 (Below.refl _ _));rw [jB _ hv] at KC;have HT:=hi9 (show(L.take (j+1)).all (zj [41])=((L.take j).all (zj [41])&& zj [41] L[j]) from by rw [List.take_succ_eq_append_getElem hl,List.all_append];simp);have hji:(j:Int)<(n:Int):=by omega
   generalize V[j]=y at *;generalize L[j]=kk at *;generalize zj [41] kk=m at *;clear hc hv;rcases hb:(L.take j).all (zj [41]) with _|_
   ·rw [hb] at HT;go_wp2_with fail;go_roundw
    case rel=>exact⟨j+1,by go_num,by omega,by rw [HT.out];simp,hB⟩
    case measure=>simp [intOf];omega
   ·rw [hb] at HT;go_wp2_with fail;refine KC.out.mono ?_;rintro e w2 ⟨rfl,b2⟩;have HB2:=bh hB b2;clear b2;go_wp2_with fail;go_roundw
    case rel=>exact⟨j+1,by go_num,by omega,by rw [HT.out];simp,HB2⟩
    case measure=>simp [intOf];omega
  ·have hjn:j=n:=by omega
   subst hjn;have HAL:=hi9 (show L.take j=L from List.take_of_length_le (by rw [←HK.out.len,hV];exact Nat.le_refl _));rw [HAL.out];have B1:=bh B0 hB.out;have R1:=hi9 (R0.out.keep hB.out);rcases hb:L.all (zj [41]) with _|_
   ·have hb:=hb;go_wp2_with fail;refine(zH _ _).mono ?_;rintro e w2 ⟨rfl,b2⟩;have B2:=bh B1 b2;have R2:=hi9 (R1.out.keep b2);clear b2 B1 R1;have RS:=R2.out.set (.slice none 0 0) (.int .i64 2);obtain⟨s0,s1,-,-⟩:=RS;have GF:=hi9 (zq (S:=S) (r := .error 2) (zY _) zI B2.out (show w.heap.size≤w.heap.size by omega));obtain⟨r0,r1,z0,z1⟩:=R2.out;go_wp2_with fail;exact bodyPost_ret (v := .agg #[.slice none 0 0,.int .i64 2]) (by simp [results,Tryz.results35,go_sem,s0,s1]) rfl (by rw [show rr = .error 2 from by rw [HRR.out];simp [hb]];exact GF.out)
   ·have hb:=hb;go_wp2_with fail;refine(jh 41 _).mono ?_;rintro e w2 ⟨A2,n2,c2,rfl,hN2,hf2,b2⟩;have B2:=bh B1 b2;have HFR:=hi9 (jz (S:=S) B1.out R1.out hf2);have R2:=hi9 (R1.out.keep b2);have NZ:=hi9 hN2;clear b2 B1 R1 hN2 hf2;have RS:=R2.out.set (.slice A2 n2 c2) (.int .i64 0);obtain⟨s0,s1,-,-⟩:=RS;have GF:=hi9 (zq (S:=S) (r := .ok (.base 41)) NZ.out HFR.out B2.out (show w.heap.size≤w.heap.size by omega));obtain⟨r0,r1,z0,z1⟩:=R2.out;go_wp2_with fail;exact bodyPost_ret (v := .agg #[.slice A2 n2 c2,.int .i64 0]) (by simp [results,Tryz.results35,go_sem,s0,s1]) rfl (by rw [show rr = .ok (.base 41) from by rw [HRR.out];simp [hb]];exact GF.out)
theorem znJ(S:Nat→Prop)(A:Option Addr)(n c:Nat)(V:List Sl)(L:List Kd)(w:World)(hV:V.length=n)(hA:zb6 w A V)(hK:jX V L)(hn:n≤4000):
 Calls Tryz.prog 35 #[.int .i64 12,.slice A n c] w (zR S w (zC 12 L)):=by
 have HR:=hi9 (show zC 12 L=if L.all (zj [41])=true then .ok (.base 41) else .error 2 from by unfold zC zG j9;simp);obtain⟨rr,hrr⟩:∃rr,rr=zC 12 L:=⟨_,rfl⟩
 rw [←hrr];have HRR:=hi9 (hrr.trans HR.out);clear HR hrr;have R0:=hi9 (zQ w (.slice none 0 0) (.int .i64 0) 30);have B0:=hi9 (za w (.cells #[.slice none 0 0,.int .i64 0] 30));have HA:=hi9 (fun w' (hb:Below w.heap.size w w')=>hA.keep hb);have HK:=hi9 hK;have hVn:(V.length:Int)=(n:Int):=by omega
 clear hA hK;go_enter Tryz.func35,Tryz.ntmps35;go_wp2_with fail;obtain⟨w0,hw0⟩:∃w0,w.alloc (.cells #[.slice none 0 0,.int .i64 0] 30)=w0:=⟨_,rfl⟩
 rw [hw0] at B0 R0 ⊢;clear hw0;go_loopw [5,6] (fun v u wr=>∃j:Nat,u = .int .i64 j∧j≤n∧v = .bool ((L.take j).all (zj [41]))∧Hid (Below w0.heap.size w0 wr)) (fun _ u _=>n-(intOf u).toNat)
 case atStart=>exact⟨0,rfl,Nat.zero_le _,rfl,hi9 (Below.refl _ _)⟩
 case round =>
  obtain⟨j,rfl,hj,rfl,hB⟩:=hrel;obtain⟨w1,rfl⟩:∃w1:World,w1=wr:=⟨_,rfl⟩
  by_cases hlt:j<n
  ·obtain⟨a,rfl,u0,u1,hl,hv,-,hc⟩:=jo (HA.out _ (bh B0 hB.out).out) HK.out (show j<V.length by omega);have KC:=hi9 (hc 41 0 w1 (Below.refl _ _));rw [jB _ hv] at KC;have HT:=hi9 (show(L.take (j+1)).all (zj [41])=((L.take j).all (zj [41])&& zj [41] L[j]) from by rw [List.take_succ_eq_append_getElem hl,List.all_append];simp);have hji:(j:Int)<(n:Int):=by omega
   generalize V[j]=y at *;generalize L[j]=kk at *;generalize zj [41] kk=m at *;clear hc hv;rcases hb:(L.take j).all (zj [41]) with _|_
   ·rw [hb] at HT;go_wp2_with fail;go_roundw
    case rel=>exact⟨j+1,by go_num,by omega,by rw [HT.out];simp,hB⟩
    case measure=>simp [intOf];omega
   ·rw [hb] at HT;go_wp2_with fail;refine KC.out.mono ?_;rintro e w2 ⟨rfl,b2⟩;have HB2:=bh hB b2;clear b2;go_wp2_with fail;go_roundw
    case rel=>exact⟨j+1,by go_num,by omega,by rw [HT.out];simp,HB2⟩
    case measure=>simp [intOf];omega
  ·have hjn:j=n:=by omega
   subst hjn;have HAL:=hi9 (show L.take j=L from List.take_of_length_le (by rw [←HK.out.len,hV];exact Nat.le_refl _));rw [HAL.out];have B1:=bh B0 hB.out;have R1:=hi9 (R0.out.keep hB.out);rcases hb:L.all (zj [41]) with _|_
   ·have hb:=hb;go_wp2_with fail;refine(zH _ _).mono ?_;rintro e w2 ⟨rfl,b2⟩;have B2:=bh B1 b2;have R2:=hi9 (R1.out.keep b2);clear b2 B1 R1;have RS:=R2.out.set (.slice none 0 0) (.int .i64 2);obtain⟨s0,s1,-,-⟩:=RS;have GF:=hi9 (zq (S:=S) (r := .error 2) (zY _) zI B2.out (show w.heap.size≤w.heap.size by omega));obtain⟨r0,r1,z0,z1⟩:=R2.out;go_wp2_with fail;exact bodyPost_ret (v := .agg #[.slice none 0 0,.int .i64 2]) (by simp [results,Tryz.results35,go_sem,s0,s1]) rfl (by rw [show rr = .error 2 from by rw [HRR.out];simp [hb]];exact GF.out)
   ·have hb:=hb;go_wp2_with fail;refine(jh 41 _).mono ?_;rintro e w2 ⟨A2,n2,c2,rfl,hN2,hf2,b2⟩;have B2:=bh B1 b2;have HFR:=hi9 (jz (S:=S) B1.out R1.out hf2);have R2:=hi9 (R1.out.keep b2);have NZ:=hi9 hN2;clear b2 B1 R1 hN2 hf2;have RS:=R2.out.set (.slice A2 n2 c2) (.int .i64 0);obtain⟨s0,s1,-,-⟩:=RS;have GF:=hi9 (zq (S:=S) (r := .ok (.base 41)) NZ.out HFR.out B2.out (show w.heap.size≤w.heap.size by omega));obtain⟨r0,r1,z0,z1⟩:=R2.out;go_wp2_with fail;exact bodyPost_ret (v := .agg #[.slice A2 n2 c2,.int .i64 0]) (by simp [results,Tryz.results35,go_sem,s0,s1]) rfl (by rw [show rr = .ok (.base 41) from by rw [HRR.out];simp [hb]];exact GF.out)
theorem zoB(S:Nat→Prop)(A:Option Addr)(n c:Nat)(V:List Sl)(L:List Kd)(w:World)(hV:V.length=n)(hA:zb6 w A V)(hK:jX V L)(hn:n≤4000):
 Calls Tryz.prog 35 #[.int .i64 10,.slice A n c] w (zR S w (zC 10 L)):=by
 have HR:=hi9 (show zC 10 L=if L.all (zj [42])=true then .ok (.base 42) else .error 2 from by unfold zC zG j9;simp);obtain⟨rr,hrr⟩:∃rr,rr=zC 10 L:=⟨_,rfl⟩
 rw [←hrr];have HRR:=hi9 (hrr.trans HR.out);clear HR hrr;have R0:=hi9 (zQ w (.slice none 0 0) (.int .i64 0) 30);have B0:=hi9 (za w (.cells #[.slice none 0 0,.int .i64 0] 30));have HA:=hi9 (fun w' (hb:Below w.heap.size w w')=>hA.keep hb);have HK:=hi9 hK;have hVn:(V.length:Int)=(n:Int):=by omega
 clear hA hK;go_enter Tryz.func35,Tryz.ntmps35;go_wp2_with fail;obtain⟨w0,hw0⟩:∃w0,w.alloc (.cells #[.slice none 0 0,.int .i64 0] 30)=w0:=⟨_,rfl⟩
 rw [hw0] at B0 R0 ⊢;clear hw0;go_loopw [5,8] (fun v u wr=>∃j:Nat,u = .int .i64 j∧j≤n∧v = .bool ((L.take j).all (zj [42]))∧Hid (Below w0.heap.size w0 wr)) (fun _ u _=>n-(intOf u).toNat)
 case atStart=>exact⟨0,rfl,Nat.zero_le _,rfl,hi9 (Below.refl _ _)⟩
 case round =>
  obtain⟨j,rfl,hj,rfl,hB⟩:=hrel;obtain⟨w1,rfl⟩:∃w1:World,w1=wr:=⟨_,rfl⟩
  by_cases hlt:j<n
  ·obtain⟨a,rfl,u0,u1,hl,hv,-,hc⟩:=jo (HA.out _ (bh B0 hB.out).out) HK.out (show j<V.length by omega);have KC:=hi9 (hc 42 0 w1 (Below.refl _ _));rw [jB _ hv] at KC;have HT:=hi9 (show(L.take (j+1)).all (zj [42])=((L.take j).all (zj [42])&& zj [42] L[j]) from by rw [List.take_succ_eq_append_getElem hl,List.all_append];simp);have hji:(j:Int)<(n:Int):=by omega
   generalize V[j]=y at *;generalize L[j]=kk at *;generalize zj [42] kk=m at *;clear hc hv;rcases hb:(L.take j).all (zj [42]) with _|_
   ·rw [hb] at HT;go_wp2_with fail;go_roundw
    case rel=>exact⟨j+1,by go_num,by omega,by rw [HT.out];simp,hB⟩
    case measure=>simp [intOf];omega
   ·rw [hb] at HT;go_wp2_with fail;refine KC.out.mono ?_;rintro e w2 ⟨rfl,b2⟩;have HB2:=bh hB b2;clear b2;go_wp2_with fail;go_roundw
    case rel=>exact⟨j+1,by go_num,by omega,by rw [HT.out];simp,HB2⟩
    case measure=>simp [intOf];omega
  ·have hjn:j=n:=by omega
   subst hjn;have HAL:=hi9 (show L.take j=L from List.take_of_length_le (by rw [←HK.out.len,hV];exact Nat.le_refl _));rw [HAL.out];have B1:=bh B0 hB.out;have R1:=hi9 (R0.out.keep hB.out);rcases hb:L.all (zj [42]) with _|_
   ·have hb:=hb;go_wp2_with fail;refine(zH _ _).mono ?_;rintro e w2 ⟨rfl,b2⟩;have B2:=bh B1 b2;have R2:=hi9 (R1.out.keep b2);clear b2 B1 R1;have RS:=R2.out.set (.slice none 0 0) (.int .i64 2);obtain⟨s0,s1,-,-⟩:=RS;have GF:=hi9 (zq (S:=S) (r := .error 2) (zY _) zI B2.out (show w.heap.size≤w.heap.size by omega));obtain⟨r0,r1,z0,z1⟩:=R2.out;go_wp2_with fail;exact bodyPost_ret (v := .agg #[.slice none 0 0,.int .i64 2]) (by simp [results,Tryz.results35,go_sem,s0,s1]) rfl (by rw [show rr = .error 2 from by rw [HRR.out];simp [hb]];exact GF.out)
   ·have hb:=hb;go_wp2_with fail;refine(jh 42 _).mono ?_;rintro e w2 ⟨A2,n2,c2,rfl,hN2,hf2,b2⟩;have B2:=bh B1 b2;have HFR:=hi9 (jz (S:=S) B1.out R1.out hf2);have R2:=hi9 (R1.out.keep b2);have NZ:=hi9 hN2;clear b2 B1 R1 hN2 hf2;have RS:=R2.out.set (.slice A2 n2 c2) (.int .i64 0);obtain⟨s0,s1,-,-⟩:=RS;have GF:=hi9 (zq (S:=S) (r := .ok (.base 42)) NZ.out HFR.out B2.out (show w.heap.size≤w.heap.size by omega));obtain⟨r0,r1,z0,z1⟩:=R2.out;go_wp2_with fail;exact bodyPost_ret (v := .agg #[.slice A2 n2 c2,.int .i64 0]) (by simp [results,Tryz.results35,go_sem,s0,s1]) rfl (by rw [show rr = .ok (.base 42) from by rw [HRR.out];simp [hb]];exact GF.out)
theorem zoz(S:Nat→Prop)(A:Option Addr)(n c:Nat)(V:List Sl)(L:List Kd)(w:World)(hV:V.length=n)(hA:zb6 w A V)(hK:jX V L)(hn:n≤4000):
 Calls Tryz.prog 35 #[.int .i64 17,.slice A n c] w (zR S w (zC 17 L)):=by
 have HR:=hi9 (show zC 17 L=if L.all (zj [42])=true then .ok (.base 42) else .error 2 from by unfold zC zG j9;simp);obtain⟨rr,hrr⟩:∃rr,rr=zC 17 L:=⟨_,rfl⟩
 rw [←hrr];have HRR:=hi9 (hrr.trans HR.out);clear HR hrr;have R0:=hi9 (zQ w (.slice none 0 0) (.int .i64 0) 30);have B0:=hi9 (za w (.cells #[.slice none 0 0,.int .i64 0] 30));have HA:=hi9 (fun w' (hb:Below w.heap.size w w')=>hA.keep hb);have HK:=hi9 hK;have hVn:(V.length:Int)=(n:Int):=by omega
 clear hA hK;go_enter Tryz.func35,Tryz.ntmps35;go_wp2_with fail;obtain⟨w0,hw0⟩:∃w0,w.alloc (.cells #[.slice none 0 0,.int .i64 0] 30)=w0:=⟨_,rfl⟩
 rw [hw0] at B0 R0 ⊢;clear hw0;go_loopw [5,8] (fun v u wr=>∃j:Nat,u = .int .i64 j∧j≤n∧v = .bool ((L.take j).all (zj [42]))∧Hid (Below w0.heap.size w0 wr)) (fun _ u _=>n-(intOf u).toNat)
 case atStart=>exact⟨0,rfl,Nat.zero_le _,rfl,hi9 (Below.refl _ _)⟩
 case round =>
  obtain⟨j,rfl,hj,rfl,hB⟩:=hrel;obtain⟨w1,rfl⟩:∃w1:World,w1=wr:=⟨_,rfl⟩
  by_cases hlt:j<n
  ·obtain⟨a,rfl,u0,u1,hl,hv,-,hc⟩:=jo (HA.out _ (bh B0 hB.out).out) HK.out (show j<V.length by omega);have KC:=hi9 (hc 42 0 w1 (Below.refl _ _));rw [jB _ hv] at KC;have HT:=hi9 (show(L.take (j+1)).all (zj [42])=((L.take j).all (zj [42])&& zj [42] L[j]) from by rw [List.take_succ_eq_append_getElem hl,List.all_append];simp);have hji:(j:Int)<(n:Int):=by omega
   generalize V[j]=y at *;generalize L[j]=kk at *;generalize zj [42] kk=m at *;clear hc hv;rcases hb:(L.take j).all (zj [42]) with _|_
   ·rw [hb] at HT;go_wp2_with fail;go_roundw
    case rel=>exact⟨j+1,by go_num,by omega,by rw [HT.out];simp,hB⟩
    case measure=>simp [intOf];omega
   ·rw [hb] at HT;go_wp2_with fail;refine KC.out.mono ?_;rintro e w2 ⟨rfl,b2⟩;have HB2:=bh hB b2;clear b2;go_wp2_with fail;go_roundw
    case rel=>exact⟨j+1,by go_num,by omega,by rw [HT.out];simp,HB2⟩
    case measure=>simp [intOf];omega
  ·have hjn:j=n:=by omega
   subst hjn;have HAL:=hi9 (show L.take j=L from List.take_of_length_le (by rw [←HK.out.len,hV];exact Nat.le_refl _));rw [HAL.out];have B1:=bh B0 hB.out;have R1:=hi9 (R0.out.keep hB.out);rcases hb:L.all (zj [42]) with _|_
   ·have hb:=hb;go_wp2_with fail;refine(zH _ _).mono ?_;rintro e w2 ⟨rfl,b2⟩;have B2:=bh B1 b2;have R2:=hi9 (R1.out.keep b2);clear b2 B1 R1;have RS:=R2.out.set (.slice none 0 0) (.int .i64 2);obtain⟨s0,s1,-,-⟩:=RS;have GF:=hi9 (zq (S:=S) (r := .error 2) (zY _) zI B2.out (show w.heap.size≤w.heap.size by omega));obtain⟨r0,r1,z0,z1⟩:=R2.out;go_wp2_with fail;exact bodyPost_ret (v := .agg #[.slice none 0 0,.int .i64 2]) (by simp [results,Tryz.results35,go_sem,s0,s1]) rfl (by rw [show rr = .error 2 from by rw [HRR.out];simp [hb]];exact GF.out)
   ·have hb:=hb;go_wp2_with fail;refine(jh 42 _).mono ?_;rintro e w2 ⟨A2,n2,c2,rfl,hN2,hf2,b2⟩;have B2:=bh B1 b2;have HFR:=hi9 (jz (S:=S) B1.out R1.out hf2);have R2:=hi9 (R1.out.keep b2);have NZ:=hi9 hN2;clear b2 B1 R1 hN2 hf2;have RS:=R2.out.set (.slice A2 n2 c2) (.int .i64 0);obtain⟨s0,s1,-,-⟩:=RS;have GF:=hi9 (zq (S:=S) (r := .ok (.base 42)) NZ.out HFR.out B2.out (show w.heap.size≤w.heap.size by omega));obtain⟨r0,r1,z0,z1⟩:=R2.out;go_wp2_with fail;exact bodyPost_ret (v := .agg #[.slice A2 n2 c2,.int .i64 0]) (by simp [results,Tryz.results35,go_sem,s0,s1]) rfl (by rw [show rr = .ok (.base 42) from by rw [HRR.out];simp [hb]];exact GF.out)
theorem zoH(S:Nat→Prop)(A:Option Addr)(n c:Nat)(V:List Sl)(L:List Kd)(w:World)(hV:V.length=n)(hA:zb6 w A V)(hK:jX V L)(hn:n≤4000):
 Calls Tryz.prog 35 #[.int .i64 18,.slice A n c] w (zR S w (zC 18 L)):=by
 have HR:=hi9 (show zC 18 L=if L.all (zj [42])=true then .ok (.base 42) else .error 2 from by unfold zC zG j9;simp);obtain⟨rr,hrr⟩:∃rr,rr=zC 18 L:=⟨_,rfl⟩
 rw [←hrr];have HRR:=hi9 (hrr.trans HR.out);clear HR hrr;have R0:=hi9 (zQ w (.slice none 0 0) (.int .i64 0) 30);have B0:=hi9 (za w (.cells #[.slice none 0 0,.int .i64 0] 30));have HA:=hi9 (fun w' (hb:Below w.heap.size w w')=>hA.keep hb);have HK:=hi9 hK;have hVn:(V.length:Int)=(n:Int):=by omega
 clear hA hK;go_enter Tryz.func35,Tryz.ntmps35;go_wp2_with fail;obtain⟨w0,hw0⟩:∃w0,w.alloc (.cells #[.slice none 0 0,.int .i64 0] 30)=w0:=⟨_,rfl⟩
 rw [hw0] at B0 R0 ⊢;clear hw0;go_loopw [5,8] (fun v u wr=>∃j:Nat,u = .int .i64 j∧j≤n∧v = .bool ((L.take j).all (zj [42]))∧Hid (Below w0.heap.size w0 wr)) (fun _ u _=>n-(intOf u).toNat)
 case atStart=>exact⟨0,rfl,Nat.zero_le _,rfl,hi9 (Below.refl _ _)⟩
 case round =>
  obtain⟨j,rfl,hj,rfl,hB⟩:=hrel;obtain⟨w1,rfl⟩:∃w1:World,w1=wr:=⟨_,rfl⟩
  by_cases hlt:j<n
  ·obtain⟨a,rfl,u0,u1,hl,hv,-,hc⟩:=jo (HA.out _ (bh B0 hB.out).out) HK.out (show j<V.length by omega);have KC:=hi9 (hc 42 0 w1 (Below.refl _ _));rw [jB _ hv] at KC;have HT:=hi9 (show(L.take (j+1)).all (zj [42])=((L.take j).all (zj [42])&& zj [42] L[j]) from by rw [List.take_succ_eq_append_getElem hl,List.all_append];simp);have hji:(j:Int)<(n:Int):=by omega
   generalize V[j]=y at *;generalize L[j]=kk at *;generalize zj [42] kk=m at *;clear hc hv;rcases hb:(L.take j).all (zj [42]) with _|_
   ·rw [hb] at HT;go_wp2_with fail;go_roundw
    case rel=>exact⟨j+1,by go_num,by omega,by rw [HT.out];simp,hB⟩
    case measure=>simp [intOf];omega
   ·rw [hb] at HT;go_wp2_with fail;refine KC.out.mono ?_;rintro e w2 ⟨rfl,b2⟩;have HB2:=bh hB b2;clear b2;go_wp2_with fail;go_roundw
    case rel=>exact⟨j+1,by go_num,by omega,by rw [HT.out];simp,HB2⟩
    case measure=>simp [intOf];omega
  ·have hjn:j=n:=by omega
   subst hjn;have HAL:=hi9 (show L.take j=L from List.take_of_length_le (by rw [←HK.out.len,hV];exact Nat.le_refl _));rw [HAL.out];have B1:=bh B0 hB.out;have R1:=hi9 (R0.out.keep hB.out);rcases hb:L.all (zj [42]) with _|_
   ·have hb:=hb;go_wp2_with fail;refine(zH _ _).mono ?_;rintro e w2 ⟨rfl,b2⟩;have B2:=bh B1 b2;have R2:=hi9 (R1.out.keep b2);clear b2 B1 R1;have RS:=R2.out.set (.slice none 0 0) (.int .i64 2);obtain⟨s0,s1,-,-⟩:=RS;have GF:=hi9 (zq (S:=S) (r := .error 2) (zY _) zI B2.out (show w.heap.size≤w.heap.size by omega));obtain⟨r0,r1,z0,z1⟩:=R2.out;go_wp2_with fail;exact bodyPost_ret (v := .agg #[.slice none 0 0,.int .i64 2]) (by simp [results,Tryz.results35,go_sem,s0,s1]) rfl (by rw [show rr = .error 2 from by rw [HRR.out];simp [hb]];exact GF.out)
   ·have hb:=hb;go_wp2_with fail;refine(jh 42 _).mono ?_;rintro e w2 ⟨A2,n2,c2,rfl,hN2,hf2,b2⟩;have B2:=bh B1 b2;have HFR:=hi9 (jz (S:=S) B1.out R1.out hf2);have R2:=hi9 (R1.out.keep b2);have NZ:=hi9 hN2;clear b2 B1 R1 hN2 hf2;have RS:=R2.out.set (.slice A2 n2 c2) (.int .i64 0);obtain⟨s0,s1,-,-⟩:=RS;have GF:=hi9 (zq (S:=S) (r := .ok (.base 42)) NZ.out HFR.out B2.out (show w.heap.size≤w.heap.size by omega));obtain⟨r0,r1,z0,z1⟩:=R2.out;go_wp2_with fail;exact bodyPost_ret (v := .agg #[.slice A2 n2 c2,.int .i64 0]) (by simp [results,Tryz.results35,go_sem,s0,s1]) rfl (by rw [show rr = .ok (.base 42) from by rw [HRR.out];simp [hb]];exact GF.out)
theorem zov(S:Nat→Prop)(A:Option Addr)(n c:Nat)(V:List Sl)(L:List Kd)(w:World)(hV:V.length=n)(hA:zb6 w A V)(hK:jX V L)(hn:n≤4000):
 Calls Tryz.prog 35 #[.int .i64 19,.slice A n c] w (zR S w (zC 19 L)):=by
 have HR:=hi9 (show zC 19 L=if L.all (zj [42])=true then .ok (.base 42) else .error 2 from by unfold zC zG j9;simp);obtain⟨rr,hrr⟩:∃rr,rr=zC 19 L:=⟨_,rfl⟩
 rw [←hrr];have HRR:=hi9 (hrr.trans HR.out);clear HR hrr;have R0:=hi9 (zQ w (.slice none 0 0) (.int .i64 0) 30);have B0:=hi9 (za w (.cells #[.slice none 0 0,.int .i64 0] 30));have HA:=hi9 (fun w' (hb:Below w.heap.size w w')=>hA.keep hb);have HK:=hi9 hK;have hVn:(V.length:Int)=(n:Int):=by omega
 clear hA hK;go_enter Tryz.func35,Tryz.ntmps35;go_wp2_with fail;obtain⟨w0,hw0⟩:∃w0,w.alloc (.cells #[.slice none 0 0,.int .i64 0] 30)=w0:=⟨_,rfl⟩
 rw [hw0] at B0 R0 ⊢;clear hw0;go_loopw [5,8] (fun v u wr=>∃j:Nat,u = .int .i64 j∧j≤n∧v = .bool ((L.take j).all (zj [42]))∧Hid (Below w0.heap.size w0 wr)) (fun _ u _=>n-(intOf u).toNat)
 case atStart=>exact⟨0,rfl,Nat.zero_le _,rfl,hi9 (Below.refl _ _)⟩
 case round =>
  obtain⟨j,rfl,hj,rfl,hB⟩:=hrel;obtain⟨w1,rfl⟩:∃w1:World,w1=wr:=⟨_,rfl⟩
  by_cases hlt:j<n
  ·obtain⟨a,rfl,u0,u1,hl,hv,-,hc⟩:=jo (HA.out _ (bh B0 hB.out).out) HK.out (show j<V.length by omega);have KC:=hi9 (hc 42 0 w1 (Below.refl _ _));rw [jB _ hv] at KC;have HT:=hi9 (show(L.take (j+1)).all (zj [42])=((L.take j).all (zj [42])&& zj [42] L[j]) from by rw [List.take_succ_eq_append_getElem hl,List.all_append];simp);have hji:(j:Int)<(n:Int):=by omega
   generalize V[j]=y at *;generalize L[j]=kk at *;generalize zj [42] kk=m at *;clear hc hv;rcases hb:(L.take j).all (zj [42]) with _|_
   ·rw [hb] at HT;go_wp2_with fail;go_roundw
    case rel=>exact⟨j+1,by go_num,by omega,by rw [HT.out];simp,hB⟩
    case measure=>simp [intOf];omega
   ·rw [hb] at HT;go_wp2_with fail;refine KC.out.mono ?_;rintro e w2 ⟨rfl,b2⟩;have HB2:=bh hB b2;clear b2;go_wp2_with fail;go_roundw
    case rel=>exact⟨j+1,by go_num,by omega,by rw [HT.out];simp,HB2⟩
    case measure=>simp [intOf];omega
  ·have hjn:j=n:=by omega
   subst hjn;have HAL:=hi9 (show L.take j=L from List.take_of_length_le (by rw [←HK.out.len,hV];exact Nat.le_refl _));rw [HAL.out];have B1:=bh B0 hB.out;have R1:=hi9 (R0.out.keep hB.out);rcases hb:L.all (zj [42]) with _|_
   ·have hb:=hb;go_wp2_with fail;refine(zH _ _).mono ?_;rintro e w2 ⟨rfl,b2⟩;have B2:=bh B1 b2;have R2:=hi9 (R1.out.keep b2);clear b2 B1 R1;have RS:=R2.out.set (.slice none 0 0) (.int .i64 2);obtain⟨s0,s1,-,-⟩:=RS;have GF:=hi9 (zq (S:=S) (r := .error 2) (zY _) zI B2.out (show w.heap.size≤w.heap.size by omega));obtain⟨r0,r1,z0,z1⟩:=R2.out;go_wp2_with fail;exact bodyPost_ret (v := .agg #[.slice none 0 0,.int .i64 2]) (by simp [results,Tryz.results35,go_sem,s0,s1]) rfl (by rw [show rr = .error 2 from by rw [HRR.out];simp [hb]];exact GF.out)
   ·have hb:=hb;go_wp2_with fail;refine(jh 42 _).mono ?_;rintro e w2 ⟨A2,n2,c2,rfl,hN2,hf2,b2⟩;have B2:=bh B1 b2;have HFR:=hi9 (jz (S:=S) B1.out R1.out hf2);have R2:=hi9 (R1.out.keep b2);have NZ:=hi9 hN2;clear b2 B1 R1 hN2 hf2;have RS:=R2.out.set (.slice A2 n2 c2) (.int .i64 0);obtain⟨s0,s1,-,-⟩:=RS;have GF:=hi9 (zq (S:=S) (r := .ok (.base 42)) NZ.out HFR.out B2.out (show w.heap.size≤w.heap.size by omega));obtain⟨r0,r1,z0,z1⟩:=R2.out;go_wp2_with fail;exact bodyPost_ret (v := .agg #[.slice A2 n2 c2,.int .i64 0]) (by simp [results,Tryz.results35,go_sem,s0,s1]) rfl (by rw [show rr = .ok (.base 42) from by rw [HRR.out];simp [hb]];exact GF.out)
theorem zow(S:Nat→Prop)(A:Option Addr)(n c:Nat)(V:List Sl)(L:List Kd)(w:World)(hV:V.length=n)(hA:zb6 w A V)(hK:jX V L)(hn:n≤4000):
 Calls Tryz.prog 35 #[.int .i64 15,.slice A n c] w (zR S w (zC 15 L)):=by
 have HR:=hi9 (show zC 15 L=if L.all (zj [42])=true then .ok (.base 41) else .error 2 from by unfold zC zG j9;simp);obtain⟨rr,hrr⟩:∃rr,rr=zC 15 L:=⟨_,rfl⟩
 rw [←hrr];have HRR:=hi9 (hrr.trans HR.out);clear HR hrr;have R0:=hi9 (zQ w (.slice none 0 0) (.int .i64 0) 30);have B0:=hi9 (za w (.cells #[.slice none 0 0,.int .i64 0] 30));have HA:=hi9 (fun w' (hb:Below w.heap.size w w')=>hA.keep hb);have HK:=hi9 hK;have hVn:(V.length:Int)=(n:Int):=by omega
 clear hA hK;go_enter Tryz.func35,Tryz.ntmps35;go_wp2_with fail;obtain⟨w0,hw0⟩:∃w0,w.alloc (.cells #[.slice none 0 0,.int .i64 0] 30)=w0:=⟨_,rfl⟩
 rw [hw0] at B0 R0 ⊢;clear hw0;go_loopw [5,8] (fun v u wr=>∃j:Nat,u = .int .i64 j∧j≤n∧v = .bool ((L.take j).all (zj [42]))∧Hid (Below w0.heap.size w0 wr)) (fun _ u _=>n-(intOf u).toNat)
 case atStart=>exact⟨0,rfl,Nat.zero_le _,rfl,hi9 (Below.refl _ _)⟩
 case round =>
  obtain⟨j,rfl,hj,rfl,hB⟩:=hrel;obtain⟨w1,rfl⟩:∃w1:World,w1=wr:=⟨_,rfl⟩
  by_cases hlt:j<n
  ·obtain⟨a,rfl,u0,u1,hl,hv,-,hc⟩:=jo (HA.out _ (bh B0 hB.out).out) HK.out (show j<V.length by omega);have KC:=hi9 (hc 42 0 w1 (Below.refl _ _));rw [jB _ hv] at KC;have HT:=hi9 (show(L.take (j+1)).all (zj [42])=((L.take j).all (zj [42])&& zj [42] L[j]) from by rw [List.take_succ_eq_append_getElem hl,List.all_append];simp);have hji:(j:Int)<(n:Int):=by omega
   generalize V[j]=y at *;generalize L[j]=kk at *;generalize zj [42] kk=m at *;clear hc hv;rcases hb:(L.take j).all (zj [42]) with _|_
   ·rw [hb] at HT;go_wp2_with fail;go_roundw
    case rel=>exact⟨j+1,by go_num,by omega,by rw [HT.out];simp,hB⟩
    case measure=>simp [intOf];omega
   ·rw [hb] at HT;go_wp2_with fail;refine KC.out.mono ?_;rintro e w2 ⟨rfl,b2⟩;have HB2:=bh hB b2;clear b2;go_wp2_with fail;go_roundw
    case rel=>exact⟨j+1,by go_num,by omega,by rw [HT.out];simp,HB2⟩
    case measure=>simp [intOf];omega
  ·have hjn:j=n:=by omega
   subst hjn;have HAL:=hi9 (show L.take j=L from List.take_of_length_le (by rw [←HK.out.len,hV];exact Nat.le_refl _));rw [HAL.out];have B1:=bh B0 hB.out;have R1:=hi9 (R0.out.keep hB.out);rcases hb:L.all (zj [42]) with _|_
   ·have hb:=hb;go_wp2_with fail;refine(zH _ _).mono ?_;rintro e w2 ⟨rfl,b2⟩;have B2:=bh B1 b2;have R2:=hi9 (R1.out.keep b2);clear b2 B1 R1;have RS:=R2.out.set (.slice none 0 0) (.int .i64 2);obtain⟨s0,s1,-,-⟩:=RS;have GF:=hi9 (zq (S:=S) (r := .error 2) (zY _) zI B2.out (show w.heap.size≤w.heap.size by omega));obtain⟨r0,r1,z0,z1⟩:=R2.out;go_wp2_with fail;exact bodyPost_ret (v := .agg #[.slice none 0 0,.int .i64 2]) (by simp [results,Tryz.results35,go_sem,s0,s1]) rfl (by rw [show rr = .error 2 from by rw [HRR.out];simp [hb]];exact GF.out)
   ·have hb:=hb;go_wp2_with fail;refine(jh 41 _).mono ?_;rintro e w2 ⟨A2,n2,c2,rfl,hN2,hf2,b2⟩;have B2:=bh B1 b2;have HFR:=hi9 (jz (S:=S) B1.out R1.out hf2);have R2:=hi9 (R1.out.keep b2);have NZ:=hi9 hN2;clear b2 B1 R1 hN2 hf2;have RS:=R2.out.set (.slice A2 n2 c2) (.int .i64 0);obtain⟨s0,s1,-,-⟩:=RS;have GF:=hi9 (zq (S:=S) (r := .ok (.base 41)) NZ.out HFR.out B2.out (show w.heap.size≤w.heap.size by omega));obtain⟨r0,r1,z0,z1⟩:=R2.out;go_wp2_with fail;exact bodyPost_ret (v := .agg #[.slice A2 n2 c2,.int .i64 0]) (by simp [results,Tryz.results35,go_sem,s0,s1]) rfl (by rw [show rr = .ok (.base 41) from by rw [HRR.out];simp [hb]];exact GF.out)
theorem zo0(S:Nat→Prop)(A:Option Addr)(n c:Nat)(V:List Sl)(L:List Kd)(w:World)(hV:V.length=n)(hA:zb6 w A V)(hK:jX V L)(hn:n≤4000):
 Calls Tryz.prog 35 #[.int .i64 16,.slice A n c] w (zR S w (zC 16 L)):=by
 have HR:=hi9 (show zC 16 L=if L.all (zj [42])=true then .ok (.base 41) else .error 2 from by unfold zC zG j9;simp);obtain⟨rr,hrr⟩:∃rr,rr=zC 16 L:=⟨_,rfl⟩
 rw [←hrr];have HRR:=hi9 (hrr.trans HR.out);clear HR hrr;have R0:=hi9 (zQ w (.slice none 0 0) (.int .i64 0) 30);have B0:=hi9 (za w (.cells #[.slice none 0 0,.int .i64 0] 30));have HA:=hi9 (fun w' (hb:Below w.heap.size w w')=>hA.keep hb);have HK:=hi9 hK;have hVn:(V.length:Int)=(n:Int):=by omega
 clear hA hK;go_enter Tryz.func35,Tryz.ntmps35;go_wp2_with fail;obtain⟨w0,hw0⟩:∃w0,w.alloc (.cells #[.slice none 0 0,.int .i64 0] 30)=w0:=⟨_,rfl⟩
 rw [hw0] at B0 R0 ⊢;clear hw0;go_loopw [5,8] (fun v u wr=>∃j:Nat,u = .int .i64 j∧j≤n∧v = .bool ((L.take j).all (zj [42]))∧Hid (Below w0.heap.size w0 wr)) (fun _ u _=>n-(intOf u).toNat)
 case atStart=>exact⟨0,rfl,Nat.zero_le _,rfl,hi9 (Below.refl _ _)⟩
 case round =>
  obtain⟨j,rfl,hj,rfl,hB⟩:=hrel;obtain⟨w1,rfl⟩:∃w1:World,w1=wr:=⟨_,rfl⟩
  by_cases hlt:j<n
  ·obtain⟨a,rfl,u0,u1,hl,hv,-,hc⟩:=jo (HA.out _ (bh B0 hB.out).out) HK.out (show j<V.length by omega);have KC:=hi9 (hc 42 0 w1 (Below.refl _ _));rw [jB _ hv] at KC;have HT:=hi9 (show(L.take (j+1)).all (zj [42])=((L.take j).all (zj [42])&& zj [42] L[j]) from by rw [List.take_succ_eq_append_getElem hl,List.all_append];simp);have hji:(j:Int)<(n:Int):=by omega
   generalize V[j]=y at *;generalize L[j]=kk at *;generalize zj [42] kk=m at *;clear hc hv;rcases hb:(L.take j).all (zj [42]) with _|_
   ·rw [hb] at HT;go_wp2_with fail;go_roundw
    case rel=>exact⟨j+1,by go_num,by omega,by rw [HT.out];simp,hB⟩
    case measure=>simp [intOf];omega
   ·rw [hb] at HT;go_wp2_with fail;refine KC.out.mono ?_;rintro e w2 ⟨rfl,b2⟩;have HB2:=bh hB b2;clear b2;go_wp2_with fail;go_roundw
    case rel=>exact⟨j+1,by go_num,by omega,by rw [HT.out];simp,HB2⟩
    case measure=>simp [intOf];omega
  ·have hjn:j=n:=by omega
   subst hjn;have HAL:=hi9 (show L.take j=L from List.take_of_length_le (by rw [←HK.out.len,hV];exact Nat.le_refl _));rw [HAL.out];have B1:=bh B0 hB.out;have R1:=hi9 (R0.out.keep hB.out);rcases hb:L.all (zj [42]) with _|_
   ·have hb:=hb;go_wp2_with fail;refine(zH _ _).mono ?_;rintro e w2 ⟨rfl,b2⟩;have B2:=bh B1 b2;have R2:=hi9 (R1.out.keep b2);clear b2 B1 R1;have RS:=R2.out.set (.slice none 0 0) (.int .i64 2);obtain⟨s0,s1,-,-⟩:=RS;have GF:=hi9 (zq (S:=S) (r := .error 2) (zY _) zI B2.out (show w.heap.size≤w.heap.size by omega));obtain⟨r0,r1,z0,z1⟩:=R2.out;go_wp2_with fail;exact bodyPost_ret (v := .agg #[.slice none 0 0,.int .i64 2]) (by simp [results,Tryz.results35,go_sem,s0,s1]) rfl (by rw [show rr = .error 2 from by rw [HRR.out];simp [hb]];exact GF.out)
   ·have hb:=hb;go_wp2_with fail;refine(jh 41 _).mono ?_;rintro e w2 ⟨A2,n2,c2,rfl,hN2,hf2,b2⟩;have B2:=bh B1 b2;have HFR:=hi9 (jz (S:=S) B1.out R1.out hf2);have R2:=hi9 (R1.out.keep b2);have NZ:=hi9 hN2;clear b2 B1 R1 hN2 hf2;have RS:=R2.out.set (.slice A2 n2 c2) (.int .i64 0);obtain⟨s0,s1,-,-⟩:=RS;have GF:=hi9 (zq (S:=S) (r := .ok (.base 41)) NZ.out HFR.out B2.out (show w.heap.size≤w.heap.size by omega));obtain⟨r0,r1,z0,z1⟩:=R2.out;go_wp2_with fail;exact bodyPost_ret (v := .agg #[.slice A2 n2 c2,.int .i64 0]) (by simp [results,Tryz.results35,go_sem,s0,s1]) rfl (by rw [show rr = .ok (.base 41) from by rw [HRR.out];simp [hb]];exact GF.out)
theorem zrK(S:Nat→Prop)(A:Option Addr)(n c:Nat)(V:List Sl)(L:List Kd)(w:World)(hV:V.length=n)(hA:zb6 w A V)(hK:jX V L)(hL:∃k,L = [k]):
 Calls Tryz.prog 35 #[.int .i64 23,.slice A n c] w (zR S w (zC 23 L)):=by
 obtain⟨k,rfl⟩:=hL;have HR:=hi9 (show zC 23 [k]=if zj [43] k=true then .ok (.base 41) else .error 2 from by unfold zC zG j9;simp);obtain⟨rr,hrr⟩:∃rr,rr=zC 23 [k]:=⟨_,rfl⟩
 rw [←hrr];have HRR:=hi9 (hrr.trans HR.out);have hn1:0<n:=by have:=hK.len;simp at this;omega
 have hni:(0:Int)<(n:Int):=by omega
 clear HR hrr;have R0:=hi9 (zQ w (.slice none 0 0) (.int .i64 0) 30);have B0:=hi9 (za w (.cells #[.slice none 0 0,.int .i64 0] 30));have HA:=hi9 (fun w' (hb:Below w.heap.size w w')=>hA.keep hb);have HK:=hi9 hK;obtain⟨a,rfl,u0,u1,hl,hv,-,hc⟩:=jo (HA.out _ B0.out) HK.out (show 0<V.length by omega);have KC:=hi9 (hc 43 0 _ (Below.refl _ _));rw [jB _ hv] at KC;simp only [List.getElem_cons_zero] at KC;generalize V[0]=y at *;rw [show a.add (0*2)=a from rfl] at u0 u1;clear hc hv hA hK HA HK hV hl;go_enter Tryz.func35,Tryz.ntmps35;go_wp2_with fail;refine(KC.out).mono ?_;rintro e w1 ⟨rfl,b1⟩;have B1:=bh B0 b1;have R1:=hi9 (R0.out.keep b1);clear b1 B0 R0;clear u0 u1;rcases hb:zj [43] k with _|_
 ·have hb:=hb;go_wp2_with fail;refine(zH _ _).mono ?_;rintro e w2 ⟨rfl,b2⟩;have B2:=bh B1 b2;have R2:=hi9 (R1.out.keep b2);clear b2 B1 R1;have RS:=R2.out.set (.slice none 0 0) (.int .i64 2);obtain⟨s0,s1,-,-⟩:=RS;have GF:=hi9 (zq (S:=S) (r := .error 2) (zY _) zI B2.out (show w.heap.size≤w.heap.size by omega));obtain⟨r0,r1,z0,z1⟩:=R2.out;go_wp2_with fail;exact bodyPost_ret (v := .agg #[.slice none 0 0,.int .i64 2]) (by simp [results,Tryz.results35,go_sem,s0,s1]) rfl (by rw [show rr = .error 2 from by rw [HRR.out];simp [hb]];exact GF.out)
 ·have hb:=hb;go_wp2_with fail;refine(jh 41 _).mono ?_;rintro e w2 ⟨A2,n2,c2,rfl,hN2,hf2,b2⟩;have B2:=bh B1 b2;have HFR:=hi9 (jz (S:=S) B1.out R1.out hf2);have R2:=hi9 (R1.out.keep b2);have NZ:=hi9 hN2;clear b2 B1 R1 hN2 hf2;have RS:=R2.out.set (.slice A2 n2 c2) (.int .i64 0);obtain⟨s0,s1,-,-⟩:=RS;have GF:=hi9 (zq (S:=S) (r := .ok (.base 41)) NZ.out HFR.out B2.out (show w.heap.size≤w.heap.size by omega));obtain⟨r0,r1,z0,z1⟩:=R2.out;go_wp2_with fail;exact bodyPost_ret (v := .agg #[.slice A2 n2 c2,.int .i64 0]) (by simp [results,Tryz.results35,go_sem,s0,s1]) rfl (by rw [show rr = .ok (.base 41) from by rw [HRR.out];simp [hb]];exact GF.out)
theorem ztf(S:Nat→Prop)(A:Option Addr)(n c:Nat)(V:List Sl)(L:List Kd)(w:World)(hV:V.length=n)(hA:zb6 w A V)(hK:jX V L)(hL:∃k,L = [k]):
 Calls Tryz.prog 35 #[.int .i64 24,.slice A n c] w (zR S w (zC 24 L)):=by
 obtain⟨k,rfl⟩:=hL;have HR:=hi9 (show zC 24 [k]=if zj [44] k=true then .ok (.base 41) else .error 2 from by unfold zC zG j9;simp);obtain⟨rr,hrr⟩:∃rr,rr=zC 24 [k]:=⟨_,rfl⟩
 rw [←hrr];have HRR:=hi9 (hrr.trans HR.out);have hn1:0<n:=by have:=hK.len;simp at this;omega
 have hni:(0:Int)<(n:Int):=by omega
 clear HR hrr;have R0:=hi9 (zQ w (.slice none 0 0) (.int .i64 0) 30);have B0:=hi9 (za w (.cells #[.slice none 0 0,.int .i64 0] 30));have HA:=hi9 (fun w' (hb:Below w.heap.size w w')=>hA.keep hb);have HK:=hi9 hK;obtain⟨a,rfl,u0,u1,hl,hv,-,hc⟩:=jo (HA.out _ B0.out) HK.out (show 0<V.length by omega);have KC:=hi9 (hc 44 0 _ (Below.refl _ _));rw [jB _ hv] at KC;simp only [List.getElem_cons_zero] at KC;generalize V[0]=y at *;rw [show a.add (0*2)=a from rfl] at u0 u1;clear hc hv hA hK HA HK hV hl;go_enter Tryz.func35,Tryz.ntmps35;go_wp2_with fail;refine(KC.out).mono ?_;rintro e w1 ⟨rfl,b1⟩;have B1:=bh B0 b1;have R1:=hi9 (R0.out.keep b1);clear b1 B0 R0;clear u0 u1;rcases hb:zj [44] k with _|_
 ·have hb:=hb;go_wp2_with fail;refine(zH _ _).mono ?_;rintro e w2 ⟨rfl,b2⟩;have B2:=bh B1 b2;have R2:=hi9 (R1.out.keep b2);clear b2 B1 R1;have RS:=R2.out.set (.slice none 0 0) (.int .i64 2);obtain⟨s0,s1,-,-⟩:=RS;have GF:=hi9 (zq (S:=S) (r := .error 2) (zY _) zI B2.out (show w.heap.size≤w.heap.size by omega));obtain⟨r0,r1,z0,z1⟩:=R2.out;go_wp2_with fail;exact bodyPost_ret (v := .agg #[.slice none 0 0,.int .i64 2]) (by simp [results,Tryz.results35,go_sem,s0,s1]) rfl (by rw [show rr = .error 2 from by rw [HRR.out];simp [hb]];exact GF.out)
 ·have hb:=hb;go_wp2_with fail;refine(jh 41 _).mono ?_;rintro e w2 ⟨A2,n2,c2,rfl,hN2,hf2,b2⟩;have B2:=bh B1 b2;have HFR:=hi9 (jz (S:=S) B1.out R1.out hf2);have R2:=hi9 (R1.out.keep b2);have NZ:=hi9 hN2;clear b2 B1 R1 hN2 hf2;have RS:=R2.out.set (.slice A2 n2 c2) (.int .i64 0);obtain⟨s0,s1,-,-⟩:=RS;have GF:=hi9 (zq (S:=S) (r := .ok (.base 41)) NZ.out HFR.out B2.out (show w.heap.size≤w.heap.size by omega));obtain⟨r0,r1,z0,z1⟩:=R2.out;go_wp2_with fail;exact bodyPost_ret (v := .agg #[.slice A2 n2 c2,.int .i64 0]) (by simp [results,Tryz.results35,go_sem,s0,s1]) rfl (by rw [show rr = .ok (.base 41) from by rw [HRR.out];simp [hb]];exact GF.out)
theorem zsG(S:Nat→Prop)(A:Option Addr)(n c:Nat)(V:List Sl)(L:List Kd)(w:World)(hV:V.length=n)(hA:zb6 w A V)(hK:jX V L)(hL:∃k,L = [k]):
 Calls Tryz.prog 35 #[.int .i64 21,.slice A n c] w (zR S w (zC 21 L)):=by
 obtain⟨k,rfl⟩:=hL;have HR:=hi9 (show zC 21 [k]=if zj [46,44] k=true then .ok (.base 41) else .error 2 from by unfold zC zG j9;simp);obtain⟨rr,hrr⟩:∃rr,rr=zC 21 [k]:=⟨_,rfl⟩
 rw [←hrr];have HRR:=hi9 (hrr.trans HR.out);have hn1:0<n:=by have:=hK.len;simp at this;omega
 have hni:(0:Int)<(n:Int):=by omega
 clear HR hrr;have R0:=hi9 (zQ w (.slice none 0 0) (.int .i64 0) 30);have B0:=hi9 (za w (.cells #[.slice none 0 0,.int .i64 0] 30));have HA:=hi9 (fun w' (hb:Below w.heap.size w w')=>hA.keep hb);have HK:=hi9 hK;obtain⟨a,rfl,u0,u1,hl,hv,-,hc⟩:=jo (HA.out _ B0.out) HK.out (show 0<V.length by omega);have KC:=hi9 (hc 46 44 _ (Below.refl _ _));simp only [List.getElem_cons_zero] at KC;generalize V[0]=y at *;rw [show a.add (0*2)=a from rfl] at u0 u1;clear hc hv hA hK HA HK hV hl;go_enter Tryz.func35,Tryz.ntmps35;go_wp2_with fail;refine(KC.out).mono ?_;rintro e w1 ⟨rfl,b1⟩;have B1:=bh B0 b1;have R1:=hi9 (R0.out.keep b1);clear b1 B0 R0;clear u0 u1;rcases hb:zj [46,44] k with _|_
 ·have hb:=hb;go_wp2_with fail;refine(zH _ _).mono ?_;rintro e w2 ⟨rfl,b2⟩;have B2:=bh B1 b2;have R2:=hi9 (R1.out.keep b2);clear b2 B1 R1;have RS:=R2.out.set (.slice none 0 0) (.int .i64 2);obtain⟨s0,s1,-,-⟩:=RS;have GF:=hi9 (zq (S:=S) (r := .error 2) (zY _) zI B2.out (show w.heap.size≤w.heap.size by omega));obtain⟨r0,r1,z0,z1⟩:=R2.out;go_wp2_with fail;exact bodyPost_ret (v := .agg #[.slice none 0 0,.int .i64 2]) (by simp [results,Tryz.results35,go_sem,s0,s1]) rfl (by rw [show rr = .error 2 from by rw [HRR.out];simp [hb]];exact GF.out)
 ·have hb:=hb;go_wp2_with fail;refine(jh 41 _).mono ?_;rintro e w2 ⟨A2,n2,c2,rfl,hN2,hf2,b2⟩;have B2:=bh B1 b2;have HFR:=hi9 (jz (S:=S) B1.out R1.out hf2);have R2:=hi9 (R1.out.keep b2);have NZ:=hi9 hN2;clear b2 B1 R1 hN2 hf2;have RS:=R2.out.set (.slice A2 n2 c2) (.int .i64 0);obtain⟨s0,s1,-,-⟩:=RS;have GF:=hi9 (zq (S:=S) (r := .ok (.base 41)) NZ.out HFR.out B2.out (show w.heap.size≤w.heap.size by omega));obtain⟨r0,r1,z0,z1⟩:=R2.out;go_wp2_with fail;exact bodyPost_ret (v := .agg #[.slice A2 n2 c2,.int .i64 0]) (by simp [results,Tryz.results35,go_sem,s0,s1]) rfl (by rw [show rr = .ok (.base 41) from by rw [HRR.out];simp [hb]];exact GF.out)
theorem zsz(S:Nat→Prop)(A:Option Addr)(n c:Nat)(V:List Sl)(L:List Kd)(w:World)(hV:V.length=n)(hA:zb6 w A V)(hK:jX V L)(hL:∃k k2,L = [k,k2]):
 Calls Tryz.prog 35 #[.int .i64 25,.slice A n c] w (zR S w (zC 25 L)):=by
 obtain⟨k,k2,rfl⟩:=hL;have HR:=hi9 (show zC 25 [k,k2]=if zj [45] k=true then .ok (.base 41) else .error 2 from by unfold zC zG j9;simp);obtain⟨rr,hrr⟩:∃rr,rr=zC 25 [k,k2]:=⟨_,rfl⟩
 rw [←hrr];have HRR:=hi9 (hrr.trans HR.out);have hn1:0<n:=by have:=hK.len;simp at this;omega
 have hni:(0:Int)<(n:Int):=by omega
 clear HR hrr;have R0:=hi9 (zQ w (.slice none 0 0) (.int .i64 0) 30);have B0:=hi9 (za w (.cells #[.slice none 0 0,.int .i64 0] 30));have HA:=hi9 (fun w' (hb:Below w.heap.size w w')=>hA.keep hb);have HK:=hi9 hK;obtain⟨a,rfl,u0,u1,hl,hv,-,hc⟩:=jo (HA.out _ B0.out) HK.out (show 0<V.length by omega);have KC:=hi9 (hc 45 0 _ (Below.refl _ _));rw [jB _ hv] at KC;simp only [List.getElem_cons_zero] at KC;generalize V[0]=y at *;rw [show a.add (0*2)=a from rfl] at u0 u1;clear hc hv hA hK HA HK hV hl;go_enter Tryz.func35,Tryz.ntmps35;go_wp2_with fail;refine(KC.out).mono ?_;rintro e w1 ⟨rfl,b1⟩;have B1:=bh B0 b1;have R1:=hi9 (R0.out.keep b1);clear b1 B0 R0;clear u0 u1;rcases hb:zj [45] k with _|_
 ·have hb:=hb;go_wp2_with fail;refine(zH _ _).mono ?_;rintro e w2 ⟨rfl,b2⟩;have B2:=bh B1 b2;have R2:=hi9 (R1.out.keep b2);clear b2 B1 R1;have RS:=R2.out.set (.slice none 0 0) (.int .i64 2);obtain⟨s0,s1,-,-⟩:=RS;have GF:=hi9 (zq (S:=S) (r := .error 2) (zY _) zI B2.out (show w.heap.size≤w.heap.size by omega));obtain⟨r0,r1,z0,z1⟩:=R2.out;go_wp2_with fail;exact bodyPost_ret (v := .agg #[.slice none 0 0,.int .i64 2]) (by simp [results,Tryz.results35,go_sem,s0,s1]) rfl (by rw [show rr = .error 2 from by rw [HRR.out];simp [hb]];exact GF.out)
 ·have hb:=hb;go_wp2_with fail;refine(jh 41 _).mono ?_;rintro e w2 ⟨A2,n2,c2,rfl,hN2,hf2,b2⟩;have B2:=bh B1 b2;have HFR:=hi9 (jz (S:=S) B1.out R1.out hf2);have R2:=hi9 (R1.out.keep b2);have NZ:=hi9 hN2;clear b2 B1 R1 hN2 hf2;have RS:=R2.out.set (.slice A2 n2 c2) (.int .i64 0);obtain⟨s0,s1,-,-⟩:=RS;have GF:=hi9 (zq (S:=S) (r := .ok (.base 41)) NZ.out HFR.out B2.out (show w.heap.size≤w.heap.size by omega));obtain⟨r0,r1,z0,z1⟩:=R2.out;go_wp2_with fail;exact bodyPost_ret (v := .agg #[.slice A2 n2 c2,.int .i64 0]) (by simp [results,Tryz.results35,go_sem,s0,s1]) rfl (by rw [show rr = .ok (.base 41) from by rw [HRR.out];simp [hb]];exact GF.out)
theorem zpJ(S:Nat→Prop)(A:Option Addr)(n c:Nat)(V:List Sl)(L:List Kd)(w:World)(hV:V.length=n)(hA:zb6 w A V)(hK:jX V L)(hL:∃k k2,L = [k,k2]):
 Calls Tryz.prog 35 #[.int .i64 26,.slice A n c] w (zR S w (zC 26 L)):=by
 obtain⟨k,k2,rfl⟩:=hL;have HR:=hi9 (show zC 26 [k,k2]=if(zj [45] k && zj [45] k2)=true then .ok (.base 41) else .error 2 from by unfold zC zG j9;simp);obtain⟨rr,hrr⟩:∃rr,rr=zC 26 [k,k2]:=⟨_,rfl⟩
 rw [←hrr];have HRR:=hi9 (hrr.trans HR.out);have hn1:1<n:=by have:=hK.len;simp at this;omega
 have hn0:0<n:=by omega
 have hni:(0:Int)<(n:Int):=by omega
 have hni1:(1:Int)<(n:Int):=by omega
 clear HR hrr;have R0:=hi9 (zQ w (.slice none 0 0) (.int .i64 0) 30);have B0:=hi9 (za w (.cells #[.slice none 0 0,.int .i64 0] 30));have HA:=hi9 (fun w' (hb:Below w.heap.size w w')=>hA.keep hb);have HK:=hi9 hK;obtain⟨a,rfl,u0,u1,hl,hv,-,hc⟩:=jo (HA.out _ B0.out) HK.out (show 0<V.length by omega);obtain⟨a2,ea2,u2,u3,hl2,hv2,hN2,hc2⟩:=jo (HA.out _ B0.out) HK.out (show 1<V.length by omega);obtain rfl:a=a2:=Option.some.inj ea2;have KC:=hi9 (fun w' hb=>hc 45 0 w' hb);have KC2:=hi9 (fun w' hb=>hc2 45 0 w' hb);rw [jB _ hv] at KC;rw [jB _ hv2] at KC2;simp only [List.getElem_cons_zero,List.getElem_cons_succ] at KC KC2;have U0:=hi9 u0;have U1:=hi9 u1;have U2:=hi9 u2;have U3:=hi9 u3;clear hc hc2 hv hv2 hA hK HA HK hl hl2 u0 u1 u2 u3 hN2 ea2;generalize V[0]=y at *;generalize V[1]=y2 at *;have u0:=U0.out;have u1:=U1.out;rw [show a.add (0*2)=a from rfl] at u0 u1;clear hV;go_enter Tryz.func35,Tryz.ntmps35;go_wp2_with fail;refine(KC.out _ (Below.refl _ _)).mono ?_;rintro e w1 ⟨rfl,b1⟩;have BB:=hi9 b1;have B1:=bh B0 b1;have R1:=hi9 (R0.out.keep b1);clear b1 B0 R0;clear u0 u1 KC;rcases hb:zj [45] k with _|_
 ·have hb:=hb;go_wp2_with fail;refine(zH _ _).mono ?_;rintro e w2 ⟨rfl,b2⟩;have B2:=bh B1 b2;have R2:=hi9 (R1.out.keep b2);clear b2 B1 R1;have RS:=R2.out.set (.slice none 0 0) (.int .i64 2);obtain⟨s0,s1,-,-⟩:=RS;have GF:=hi9 (zq (S:=S) (r := .error 2) (zY _) zI B2.out (show w.heap.size≤w.heap.size by omega));obtain⟨r0,r1,z0,z1⟩:=R2.out;go_wp2_with fail;exact bodyPost_ret (v := .agg #[.slice none 0 0,.int .i64 2]) (by simp [results,Tryz.results35,go_sem,s0,s1]) rfl (by rw [show rr = .error 2 from by rw [HRR.out];simp [hb]];exact GF.out)
 ·have hb:=hb;have u2:=zb BB.out U2.out;have u3:=zb BB.out U3.out;rw [show a.add (1*2)=⟨a.block,a.off+2,none⟩ from rfl] at u2 u3;go_wp2_with fail;refine(KC2.out _ BB.out).mono ?_;rintro e w2 ⟨rfl,b2⟩;have B2:=bh B1 b2;have R2:=hi9 (R1.out.keep b2);clear b2 B1 R1;clear u2 u3 KC2;rcases hb2:zj [45] k2 with _|_
  ·have hb2:=hb2;go_wp2_with fail;refine(zH _ _).mono ?_;rintro e w3 ⟨rfl,b3⟩;have B3:=bh B2 b3;have R3:=hi9 (R2.out.keep b3);clear b3 B2 R2;have RS:=R3.out.set (.slice none 0 0) (.int .i64 2);obtain⟨s0,s1,-,-⟩:=RS;have GF:=hi9 (zq (S:=S) (r := .error 2) (zY _) zI B3.out (show w.heap.size≤w.heap.size by omega));obtain⟨r0,r1,z0,z1⟩:=R3.out;go_wp2_with fail;exact bodyPost_ret (v := .agg #[.slice none 0 0,.int .i64 2]) (by simp [results,Tryz.results35,go_sem,s0,s1]) rfl (by rw [show rr = .error 2 from by rw [HRR.out];simp [hb,hb2]];exact GF.out)
  ·have hb2:=hb2;go_wp2_with fail;refine(jh 41 _).mono ?_;rintro e w3 ⟨A3,n3,c3,rfl,hN3,hf3,b3⟩;have B3:=bh B2 b3;have HFR:=hi9 (jz (S:=S) B2.out R2.out hf3);have R3:=hi9 (R2.out.keep b3);have NZ:=hi9 hN3;clear b3 B2 R2 hN3 hf3;have RS:=R3.out.set (.slice A3 n3 c3) (.int .i64 0);obtain⟨s0,s1,-,-⟩:=RS;have GF:=hi9 (zq (S:=S) (r := .ok (.base 41)) NZ.out HFR.out B3.out (show w.heap.size≤w.heap.size by omega));obtain⟨r0,r1,z0,z1⟩:=R3.out;go_wp2_with fail;exact bodyPost_ret (v := .agg #[.slice A3 n3 c3,.int .i64 0]) (by simp [results,Tryz.results35,go_sem,s0,s1]) rfl (by rw [show rr = .ok (.base 41) from by rw [HRR.out];simp [hb,hb2]];exact GF.out)
theorem zpR(S:Nat→Prop)(A:Option Addr)(n c:Nat)(V:List Sl)(L:List Kd)(w:World)(hV:V.length=n)(hA:zb6 w A V)(hK:jX V L)(hL:∃k k2,L = [k,k2]):
 Calls Tryz.prog 35 #[.int .i64 27,.slice A n c] w (zR S w (zC 27 L)):=by
 obtain⟨k,k2,rfl⟩:=hL;have HR:=hi9 (show zC 27 [k,k2]=if(zj [45] k && zj [45] k2)=true then .ok (.base 41) else .error 2 from by unfold zC zG j9;simp);obtain⟨rr,hrr⟩:∃rr,rr=zC 27 [k,k2]:=⟨_,rfl⟩
 rw [←hrr];have HRR:=hi9 (hrr.trans HR.out);have hn1:1<n:=by have:=hK.len;simp at this;omega
 have hn0:0<n:=by omega
 have hni:(0:Int)<(n:Int):=by omega
 have hni1:(1:Int)<(n:Int):=by omega
 clear HR hrr;have R0:=hi9 (zQ w (.slice none 0 0) (.int .i64 0) 30);have B0:=hi9 (za w (.cells #[.slice none 0 0,.int .i64 0] 30));have HA:=hi9 (fun w' (hb:Below w.heap.size w w')=>hA.keep hb);have HK:=hi9 hK;obtain⟨a,rfl,u0,u1,hl,hv,-,hc⟩:=jo (HA.out _ B0.out) HK.out (show 0<V.length by omega);obtain⟨a2,ea2,u2,u3,hl2,hv2,hN2,hc2⟩:=jo (HA.out _ B0.out) HK.out (show 1<V.length by omega);obtain rfl:a=a2:=Option.some.inj ea2;have KC:=hi9 (fun w' hb=>hc 45 0 w' hb);have KC2:=hi9 (fun w' hb=>hc2 45 0 w' hb);rw [jB _ hv] at KC;rw [jB _ hv2] at KC2;simp only [List.getElem_cons_zero,List.getElem_cons_succ] at KC KC2;have U0:=hi9 u0;have U1:=hi9 u1;have U2:=hi9 u2;have U3:=hi9 u3;clear hc hc2 hv hv2 hA hK HA HK hl hl2 u0 u1 u2 u3 hN2 ea2;generalize V[0]=y at *;generalize V[1]=y2 at *;have u0:=U0.out;have u1:=U1.out;rw [show a.add (0*2)=a from rfl] at u0 u1;clear hV;go_enter Tryz.func35,Tryz.ntmps35;go_wp2_with fail;refine(KC.out _ (Below.refl _ _)).mono ?_;rintro e w1 ⟨rfl,b1⟩;have BB:=hi9 b1;have B1:=bh B0 b1;have R1:=hi9 (R0.out.keep b1);clear b1 B0 R0;clear u0 u1 KC;rcases hb:zj [45] k with _|_
 ·have hb:=hb;go_wp2_with fail;refine(zH _ _).mono ?_;rintro e w2 ⟨rfl,b2⟩;have B2:=bh B1 b2;have R2:=hi9 (R1.out.keep b2);clear b2 B1 R1;have RS:=R2.out.set (.slice none 0 0) (.int .i64 2);obtain⟨s0,s1,-,-⟩:=RS;have GF:=hi9 (zq (S:=S) (r := .error 2) (zY _) zI B2.out (show w.heap.size≤w.heap.size by omega));obtain⟨r0,r1,z0,z1⟩:=R2.out;go_wp2_with fail;exact bodyPost_ret (v := .agg #[.slice none 0 0,.int .i64 2]) (by simp [results,Tryz.results35,go_sem,s0,s1]) rfl (by rw [show rr = .error 2 from by rw [HRR.out];simp [hb]];exact GF.out)
 ·have hb:=hb;have u2:=zb BB.out U2.out;have u3:=zb BB.out U3.out;rw [show a.add (1*2)=⟨a.block,a.off+2,none⟩ from rfl] at u2 u3;go_wp2_with fail;refine(KC2.out _ BB.out).mono ?_;rintro e w2 ⟨rfl,b2⟩;have B2:=bh B1 b2;have R2:=hi9 (R1.out.keep b2);clear b2 B1 R1;clear u2 u3 KC2;rcases hb2:zj [45] k2 with _|_
  ·have hb2:=hb2;go_wp2_with fail;refine(zH _ _).mono ?_;rintro e w3 ⟨rfl,b3⟩;have B3:=bh B2 b3;have R3:=hi9 (R2.out.keep b3);clear b3 B2 R2;have RS:=R3.out.set (.slice none 0 0) (.int .i64 2);obtain⟨s0,s1,-,-⟩:=RS;have GF:=hi9 (zq (S:=S) (r := .error 2) (zY _) zI B3.out (show w.heap.size≤w.heap.size by omega));obtain⟨r0,r1,z0,z1⟩:=R3.out;go_wp2_with fail;exact bodyPost_ret (v := .agg #[.slice none 0 0,.int .i64 2]) (by simp [results,Tryz.results35,go_sem,s0,s1]) rfl (by rw [show rr = .error 2 from by rw [HRR.out];simp [hb,hb2]];exact GF.out)
  ·have hb2:=hb2;go_wp2_with fail;refine(jh 41 _).mono ?_;rintro e w3 ⟨A3,n3,c3,rfl,hN3,hf3,b3⟩;have B3:=bh B2 b3;have HFR:=hi9 (jz (S:=S) B2.out R2.out hf3);have R3:=hi9 (R2.out.keep b3);have NZ:=hi9 hN3;clear b3 B2 R2 hN3 hf3;have RS:=R3.out.set (.slice A3 n3 c3) (.int .i64 0);obtain⟨s0,s1,-,-⟩:=RS;have GF:=hi9 (zq (S:=S) (r := .ok (.base 41)) NZ.out HFR.out B3.out (show w.heap.size≤w.heap.size by omega));obtain⟨r0,r1,z0,z1⟩:=R3.out;go_wp2_with fail;exact bodyPost_ret (v := .agg #[.slice A3 n3 c3,.int .i64 0]) (by simp [results,Tryz.results35,go_sem,s0,s1]) rfl (by rw [show rr = .ok (.base 41) from by rw [HRR.out];simp [hb,hb2]];exact GF.out)
theorem ziU(p:Kd):zj [44] p=(decide (kOp p=44)|| decide (kOp p=49)):=by
 unfold zj;rw [Bool.eq_iff_iff];simp only [List.contains_cons,List.contains_nil,Bool.or_false,Bool.or_eq_true,decide_eq_true_eq,beq_iff_eq];omega
theorem zti(S:Nat→Prop)(A:Option Addr)(n c:Nat)(V:List Sl)(L:List Kd)(w:World)(hV:V.length=n)(hA:zb6 w A V)(hK:jX V L)(hL:∃k k2,L = [k,k2]):
 Calls Tryz.prog 35 #[.int .i64 20,.slice A n c] w (zR S w (zC 20 L)):=by
 obtain⟨k,k2,rfl⟩:=hL;have HR:=hi9 (show zC 20 [k,k2]=if(zj [44] k && zbd k2)=true then .ok (.base 41) else .error 2 from by unfold zC zG j9;simp);obtain⟨rr,hrr⟩:∃rr,rr=zC 20 [k,k2]:=⟨_,rfl⟩
 rw [←hrr];have HRR:=hi9 (hrr.trans HR.out);have hn1:1<n:=by have:=hK.len;simp at this;omega
 have hn0:0<n:=by omega
 have hni:(0:Int)<(n:Int):=by omega
 have hni1:(1:Int)<(n:Int):=by omega
 clear HR hrr;have R0:=hi9 (zQ w (.slice none 0 0) (.int .i64 0) 30);have B0:=hi9 (za w (.cells #[.slice none 0 0,.int .i64 0] 30));have HA:=hi9 (fun w' (hb:Below w.heap.size w w')=>hA.keep hb);have HK:=hi9 hK;obtain⟨a,rfl,u0,u1,hl,hv,-,hc⟩:=jo (HA.out _ B0.out) HK.out (show 0<V.length by omega);obtain⟨a2,ea2,u2,u3,hl2,hv2,hN2,hc2⟩:=jo (HA.out _ B0.out) HK.out (show 1<V.length by omega);obtain rfl:a=a2:=Option.some.inj ea2;have KC:=hi9 (fun w' hb=>hc 44 0 w' hb);have KC2:=hi9 (fun w' hb=>hc2 44 45 w' hb);rw [jB _ hv] at KC;simp only [List.getElem_cons_zero,List.getElem_cons_succ] at KC KC2 hN2 hv2;have U0:=hi9 u0;have U1:=hi9 u1;have U2:=hi9 u2;have U3:=hi9 u3;have HN2:=hi9 (fun w' hb=>hN2.keep (w':=w') hb);have hvv:=hi9 hv2;clear hc hc2 hv hv2 hA hK HA HK hl hl2 u0 u1 u2 u3 ea2 hN2;generalize V[0]=y at *;generalize V[1]=y2 at *;have u0:=U0.out;have u1:=U1.out;rw [show a.add (0*2)=a from rfl] at u0 u1;clear hV;go_enter Tryz.func35,Tryz.ntmps35;go_wp2_with fail;refine(KC.out _ (Below.refl _ _)).mono ?_;rintro e w1 ⟨rfl,b1⟩;have BB:=hi9 b1;have B1:=bh B0 b1;have R1:=hi9 (R0.out.keep b1);clear b1 B0 R0;clear u0 u1 KC;rcases hb:zj [44] k with _|_
 ·have hb:=hb;go_wp2_with fail;refine(zH _ _).mono ?_;rintro e w2 ⟨rfl,b2⟩;have B2:=bh B1 b2;have R2:=hi9 (R1.out.keep b2);clear b2 B1 R1;have RS:=R2.out.set (.slice none 0 0) (.int .i64 2);obtain⟨s0,s1,-,-⟩:=RS;have GF:=hi9 (zq (S:=S) (r := .error 2) (zY _) zI B2.out (show w.heap.size≤w.heap.size by omega));obtain⟨r0,r1,z0,z1⟩:=R2.out;go_wp2_with fail;exact bodyPost_ret (v := .agg #[.slice none 0 0,.int .i64 2]) (by simp [results,Tryz.results35,go_sem,s0,s1]) rfl (by rw [show rr = .error 2 from by rw [HRR.out];simp [hb]];exact GF.out)
 ·have hb:=hb;have u2:=zb BB.out U2.out;have u3:=zb BB.out U3.out;rw [show a.add (1*2)=⟨a.block,a.off+2,none⟩ from rfl] at u2 u3;go_wp2_with fail;refine(KC2.out _ BB.out).mono ?_;rintro e w2 ⟨rfl,b2⟩;have BC:=bh BB b2;have B2:=bh B1 b2;have R2:=hi9 (R1.out.keep b2);clear b2 B1 R1;clear u2 u3 KC2;have u2:=zb BC.out U2.out;have u3:=zb BC.out U3.out;rw [show a.add (1*2)=⟨a.block,a.off+2,none⟩ from rfl] at u2 u3;have N2:=HN2.out _ BC.out;by_cases g5:kOp k2=45
  ·obtain⟨p,rfl⟩:∃p,k2 = .set p:=by
    cases k2 with
    | base x=>simp only [kOp] at g5;subst g5;exact absurd hvv.out (by show¬jq 45;decide)
    | ent u=>cases g5
    | set p=>exact⟨p,rfl⟩
    | fs g=>cases g5
   rw [show zj [44,45] (Kd.set p)=true from by rw [za8];rfl]
   have hm:=ziU p
   obtain⟨z,r,hf,ho⟩:=ze9 p
   have h2:1<y2.n:=by rw [N2.len];simp [Kd.flat,hf]
   have h2i:(1:Int)<(y2.n:Int):=by omega
   have h20:0<y2.n:=by omega
   have h20i:(0:Int)<(y2.n:Int):=by omega
   obtain⟨b,eb,v0,-⟩:=N2.at_ 0 ⟨45,0,emp,emp⟩ rfl
   obtain⟨b',eb',v1,-⟩:=N2.at_ 1 z (by simp [Kd.flat,hf])
   rw [eb] at eb'
   obtain rfl:=Option.some.inj eb'
   rw [show b.add (0*4)=b from rfl] at v0
   rw [ho,show b.add (1*4)=⟨b.block,b.off+4,none⟩ from rfl] at v1
   rw [eb] at u2
   replace hm:=hi9 (show zbd (.set p)=(decide (kOp p=44)|| decide (kOp p=49)) from hm)
   replace HRR:=hi9 (HRR.out.trans (by rw [hm.out]))
   clear hm
   generalize kOp p=op at *
   clear N2 hf ho eb eb'
   by_cases q1:op=44
   ·have f1:(op==44)=true:=beq_iff_eq.2 q1
    go_wp2_with fail;refine(jh 41 _).mono ?_;rintro e w3 ⟨A3,n3,c3,rfl,hN3,hf3,b3⟩;have B3:=bh B2 b3;have HFR:=hi9 (jz (S:=S) B2.out R2.out hf3);have R3:=hi9 (R2.out.keep b3);have NZ:=hi9 hN3;clear b3 B2 R2 hN3 hf3;have RS:=R3.out.set (.slice A3 n3 c3) (.int .i64 0);obtain⟨s0,s1,-,-⟩:=RS;have GF:=hi9 (zq (S:=S) (r := .ok (.base 41)) NZ.out HFR.out B3.out (show w.heap.size≤w.heap.size by omega));obtain⟨r0,r1,z0,z1⟩:=R3.out;go_wp2_with fail;exact bodyPost_ret (v := .agg #[.slice A3 n3 c3,.int .i64 0]) (by simp [results,Tryz.results35,go_sem,s0,s1]) rfl (by rw [show rr = .ok (.base 41) from by rw [HRR.out];simp [hb,q1]];exact GF.out)
   ·have f1:(op==44)=false:=beq_eq_false_iff_ne.2 q1
    by_cases q2:op=49
    ·have f2:(op==49)=true:=beq_iff_eq.2 q2;go_wp2_with fail;refine(jh 41 _).mono ?_;rintro e w3 ⟨A3,n3,c3,rfl,hN3,hf3,b3⟩;have B3:=bh B2 b3;have HFR:=hi9 (jz (S:=S) B2.out R2.out hf3);have R3:=hi9 (R2.out.keep b3);have NZ:=hi9 hN3;clear b3 B2 R2 hN3 hf3;have RS:=R3.out.set (.slice A3 n3 c3) (.int .i64 0);obtain⟨s0,s1,-,-⟩:=RS;have GF:=hi9 (zq (S:=S) (r := .ok (.base 41)) NZ.out HFR.out B3.out (show w.heap.size≤w.heap.size by omega));obtain⟨r0,r1,z0,z1⟩:=R3.out;go_wp2_with fail;exact bodyPost_ret (v := .agg #[.slice A3 n3 c3,.int .i64 0]) (by simp [results,Tryz.results35,go_sem,s0,s1]) rfl (by rw [show rr = .ok (.base 41) from by rw [HRR.out];simp [hb,q2]];exact GF.out)
    ·have f2:(op==49)=false:=beq_eq_false_iff_ne.2 q2;go_wp2_with fail;refine(zH _ _).mono ?_;rintro e w3 ⟨rfl,b3⟩;have B3:=bh B2 b3;have R3:=hi9 (R2.out.keep b3);clear b3 B2 R2;have RS:=R3.out.set (.slice none 0 0) (.int .i64 2);obtain⟨s0,s1,-,-⟩:=RS;have GF:=hi9 (zq (S:=S) (r := .error 2) (zY _) zI B3.out (show w.heap.size≤w.heap.size by omega));obtain⟨r0,r1,z0,z1⟩:=R3.out;go_wp2_with fail;exact bodyPost_ret (v := .agg #[.slice none 0 0,.int .i64 2]) (by simp [results,Tryz.results35,go_sem,s0,s1]) rfl (by rw [show rr = .error 2 from by rw [HRR.out];simp [hb,q1,q2]];exact GF.out)
  ·have hm:zbd k2=zj [44,45] k2:=by
    cases k2 with
    | set p=>exact absurd rfl g5
    | base x=>rw [za8];show zj [44] (.base x)=_;rw [ziU];simp only [decide_eq_false g5,Bool.false_or]
    | ent u=>rfl
    | fs g=>rfl
   replace HRR:=hi9 (HRR.out.trans (by rw [hm]))
   clear hm
   rcases hb2:zj [44,45] k2 with _|_
   ·have hb2:=hb2
    go_wp2_with fail;refine(zH _ _).mono ?_;rintro e w3 ⟨rfl,b3⟩;have B3:=bh B2 b3;have R3:=hi9 (R2.out.keep b3);clear b3 B2 R2;have RS:=R3.out.set (.slice none 0 0) (.int .i64 2);obtain⟨s0,s1,-,-⟩:=RS;have GF:=hi9 (zq (S:=S) (r := .error 2) (zY _) zI B3.out (show w.heap.size≤w.heap.size by omega));obtain⟨r0,r1,z0,z1⟩:=R3.out;go_wp2_with fail;exact bodyPost_ret (v := .agg #[.slice none 0 0,.int .i64 2]) (by simp [results,Tryz.results35,go_sem,s0,s1]) rfl (by rw [show rr = .error 2 from by rw [HRR.out];simp [hb,hb2]];exact GF.out)
   ·have hb2:=hb2
    obtain⟨z,r,hf,ho⟩:=ze9 k2;have h20:0<y2.n:=by rw [N2.len,hf];simp
    have h20i:(0:Int)<(y2.n:Int):=by omega
    obtain⟨b,eb,v0,-⟩:=N2.at_ 0 z (by rw [hf];rfl);rw [show b.add (0*4)=b from rfl,ho] at v0;rw [eb] at u2;have f5:(kOp k2==45)=false:=beq_eq_false_iff_ne.2 g5;clear N2 hf ho eb;go_wp2_with fail;refine(jh 41 _).mono ?_;rintro e w3 ⟨A3,n3,c3,rfl,hN3,hf3,b3⟩;have B3:=bh B2 b3;have HFR:=hi9 (jz (S:=S) B2.out R2.out hf3);have R3:=hi9 (R2.out.keep b3);have NZ:=hi9 hN3;clear b3 B2 R2 hN3 hf3;have RS:=R3.out.set (.slice A3 n3 c3) (.int .i64 0);obtain⟨s0,s1,-,-⟩:=RS;have GF:=hi9 (zq (S:=S) (r := .ok (.base 41)) NZ.out HFR.out B3.out (show w.heap.size≤w.heap.size by omega));obtain⟨r0,r1,z0,z1⟩:=R3.out;go_wp2_with fail;exact bodyPost_ret (v := .agg #[.slice A3 n3 c3,.int .i64 0]) (by simp [results,Tryz.results35,go_sem,s0,s1]) rfl (by rw [show rr = .ok (.base 41) from by rw [HRR.out];simp [hb,hb2]];exact GF.out)
end Go.Proofs.YtjcdeikbghjpkaaGreatDoor
