/-
  kinds.own: the type that a value has of its own: of what has no parts. kinds.own: of sets. kinds.own: of records. kinds: Has, Own over nodes that are handed in.
-/
import Derived.Deep.RegionHeld3
import Derived.Test.YtlkfaliomdbaoaaGreatDoorQ3
import Derived.Test.YtlkfaliomdbaoaaGreatDoorQ11
import Derived.Test.YtlkfaliomdbaoaaGreatDoorQ20
import Derived.Test.YtlkfaliomdbaoaaGreatDoorQ30
set_option maxRecDepth 100000
set_option maxHeartbeats 8000000
namespace Go.Proofs.YtlkfaliomdbaoaaGreatDoor
open Go.RowKit Go.Wk Go.Sort
def zf1(w:World)(k:Kd)(e:Ending)(w':World):Prop:=∃u,e = .returned (.agg u.toArray)∧KAt w' (fun b=>w.heap.size≤b) k u∧Below w.heap.size w w'
def zpq(N:Nat):Prop:=∀(A:Option Addr) (n c:Nat) (P:List Nd) (w:World),P.length≤N→P.length≤200→Ns w A n c P→IsV P→Calls Tryz.prog 27 #[.slice A n c] w (zf1 w (zK P))
theorem zno(A:Option Addr)(n c:Nat)(P:List Nd)(w:World)(hns:Ns w A n c P)(hV:IsV P)(h5:zk P≠5)(h6:zk P≠6):
 Calls Tryz.prog 27 #[.slice A n c] w (zf1 w (zK P)):=by
 have hop:=zgz hV;have e1:=@zij P;have e2:=@zh5 P;have e3:=@ziz P;have e4:=@ziH P;generalize zK P=kk at *;obtain⟨x,r,rfl,-,-⟩:=za2 hV;change x.op=1→_ at e1;change x.op=2→_ at e2;change x.op=3→_ at e3;change x.op=4→kk = .ent x.s at e4;change x.op=1∨x.op=2∨x.op=3∨x.op=4∨x.op=5∨x.op=6 at hop;change x.op≠5 at h5;change x.op≠6 at h6;obtain⟨a,rfl,q0,q1,q2,q3⟩:=hns.at_ 0 x rfl;rw [show a.add (0*4)=a from rfl] at q0 q1 q2 q3;have hl:a.block<w.heap.size:=block_lt_of_cell q0;have hn1:1≤n:=by rw [hns.len,List.length_cons];omega
 have hm:=hns.max;unfold maxLen at hm;have HB:=hi9 (fun o1 o2=>(za w o1).trans ((za (w.alloc o1) o2).mono (by simp)));clear hns hV;rcases hop with h|h|h|h|h|h
 ·rw [e1 h];rw [h] at q0;clear h h5 h6 e1 e2 e3 e4;go_enter Tryz.func27,Tryz.ntmps27;go_wp2_with fail;refine bodyPost_ret (v := .agg #[.int .i64 41,.int .i64 0,.string ⟨#[]⟩,.string ⟨#[]⟩,.pointer none,.slice none 0 0]) (by simp [results,Tryz.results27,go_sem]) rfl ?_;exact⟨[.int .i64 41,.int .i64 0,.string ⟨#[]⟩,.string ⟨#[]⟩,.pointer none,.slice none 0 0],rfl,⟨0,rfl⟩,HB.out _ _⟩
 ·rw [e2 h];rw [h] at q0;clear h h5 h6 e1 e2 e3 e4;go_enter Tryz.func27,Tryz.ntmps27;go_wp2_with fail;refine bodyPost_ret (v := .agg #[.int .i64 42,.int .i64 0,.string ⟨#[]⟩,.string ⟨#[]⟩,.pointer none,.slice none 0 0]) (by simp [results,Tryz.results27,go_sem]) rfl ?_;exact⟨[.int .i64 42,.int .i64 0,.string ⟨#[]⟩,.string ⟨#[]⟩,.pointer none,.slice none 0 0],rfl,⟨0,rfl⟩,HB.out _ _⟩
 ·rw [e3 h];rw [h] at q0;clear h h5 h6 e1 e2 e3 e4;go_enter Tryz.func27,Tryz.ntmps27;go_wp2_with fail;refine bodyPost_ret (v := .agg #[.int .i64 43,.int .i64 0,.string ⟨#[]⟩,.string ⟨#[]⟩,.pointer none,.slice none 0 0]) (by simp [results,Tryz.results27,go_sem]) rfl ?_;exact⟨[.int .i64 43,.int .i64 0,.string ⟨#[]⟩,.string ⟨#[]⟩,.pointer none,.slice none 0 0],rfl,⟨0,rfl⟩,HB.out _ _⟩
 ·rw [e4 h];rw [h] at q0;clear h h5 h6 e1 e2 e3 e4;go_enter Tryz.func27,Tryz.ntmps27;go_wp2_with fail;refine bodyPost_ret (v := .agg #[.int .i64 44,.int .i64 0,.string x.s,.string ⟨#[]⟩,.pointer none,.slice none 0 0]) (by simp [results,Tryz.results27,go_sem]) rfl ?_;exact⟨[.int .i64 44,.int .i64 0,.string x.s,.string ⟨#[]⟩,.pointer none,.slice none 0 0],rfl,⟨0,rfl⟩,HB.out _ _⟩
 ·exact absurd h h5
 ·exact absurd h h6
theorem zml{L:List (List Nd)}{k:Nat}(h:k<L.length):((L.take (k+1)).map zK).foldl zl (.base 49)=zl (((L.take k).map zK).foldl zl (.base 49)) (zK L[k]):=by
 rw [List.take_succ_eq_append_getElem h,List.map_append,List.foldl_append];rfl
theorem zo8{L:List (List Nd)}(hL:∀Q∈L,IsV Q)(k:Nat):(((L.take k).map zK).foldl zl (.base 49)).sz≤1+2*L.flatten.length:=by
 have h1:=zcN ((L.take k).map zK) (.base 49) trivial (fun y hy=>by
  obtain⟨Q,hQ,rfl⟩:=List.mem_map.1 hy
  exact zh2 (hL Q (List.mem_of_mem_take hQ)))
 have h2:(((L.take k).map zK).map Kd.sz).sum≤2*(L.take k).flatten.length:=by
  rw [zgi,List.map_map,←zfW];exact zif _ _ _ fun Q hQ=>ziB (hL Q (List.mem_of_mem_take hQ))
 have h3:(L.take k).flatten.length≤L.flatten.length:=by
  have e:L.flatten=(L.take k).flatten ++(L.drop k).flatten:=by rw [←List.flatten_append,List.take_append_drop]
  rw [e,List.length_append];omega
 have h4:(Kd.base 49).sz=1:=rfl;omega
theorem zli{L:List (List Nd)}(hL:∀Q∈L,IsV Q)(k:Nat):(((L.take k).map zK).foldl zl (.base 49)).valid :=
 zbh _ _ (by unfold Kd.valid jm;omega) (fun y hy=>by
  obtain⟨Q,hQ,rfl⟩:=List.mem_map.1 hy
  exact zc8 (hL Q (List.mem_of_mem_take hQ)))
theorem zlM:∀L:List (List Nd),(∀Q∈L,1≤Q.length)→L.length≤(L.map List.length).sum
 | [],_=>Nat.le_refl _
 | Q :: L,h=>by
  have h1:=h Q (by simp);have h2:=zlM L fun Q hQ=>h Q (by simp [hQ]);simp only [List.length_cons,List.map_cons,List.sum_cons];omega
theorem zki{q:Kd}{L:List (List Nd)}{k:Nat}(hq:q=((L.take k).map zK).foldl zl (.base 49))(h:k<L.length):zl q (zK L[k])=((L.take (k+1)).map zK).foldl zl (.base 49):=by
 rw [zml h,hq]
structure SLp(w wr:World)(vp:Value)(V:List Sl)(q:Kd)(o n:Int)(s t:ByteArray)(p A:Option Addr)(m c:Nat):Prop where
 R:Bx6 wr w.heap.size (.int .i64 0) (.int .i64 0) (.string ⟨#[]⟩) (.string ⟨#[]⟩) (.pointer none) (.slice none 0 0)
 X:Bx6 wr (w.heap.size+2) (.int .i64 o) (.int .i64 n) (.string s) (.string t) (.pointer p) (.slice A m c)
 K:KAt wr (fun b=>w.heap.size+3≤b) q [.int .i64 o,.int .i64 n,.string s,.string t,.pointer p,.slice A m c]
 V:js wr (w.heap.size+3) vp V
 G:Below w.heap.size w wr
 z:w.heap.size+3≤wr.heap.size
theorem zlF(N:Nat)(ih:zpq N)(A:Option Addr)(n c:Nat)(P:List Nd)(w:World)(hN:P.length≤N+1)(h200:P.length≤200)(hns:Ns w A n c P)(hV:IsV P)(h5:zk P=5):
 Calls Tryz.prog 27 #[.slice A n c] w (zf1 w (zK P)):=by
 have HE:=hi9 (zgu hV h5);have HPV:=hi9 (za0 hV h5).2.2.1;have HPS:=hi9 (fun Q (hQ:Q∈zm P)=>zbL hV h5 hQ);have HPF:=hi9 (show(zm P).flatten.length≤200 by
  have:=(za0 hV h5).1
  have h2:=congrArg List.length this
  rw [List.length_cons] at h2
  omega)
 have HPT:=hi9 (show zeP P=zm P∧zdo P=0 by
  have h0:zD P=0:=zbf.2 ⟨h200,hV⟩
  have h1:zdo P=0:=by unfold zdo;rw [if_pos h0,if_pos (.inl h5)]
  refine⟨?_,h1⟩
  unfold zeP
  rw [if_pos h1,if_pos h5])
 have HPA:=hi9 (fun w' hb=>zhU A n c P w' (hns.keep (w':=w') hb));obtain⟨x,r,rfl,-,-⟩:=za2 hV;change x.op=5 at h5;obtain⟨a,rfl,q0,q1,q2,q3⟩:=hns.at_ 0 x rfl;rw [show a.add (0*4)=a from rfl] at q0 q1 q2 q3;have hl:a.block<w.heap.size:=block_lt_of_cell q0;have hn1:1≤n:=by rw [hns.len,List.length_cons];omega
 have hm:=hns.max;unfold maxLen at hm;rw [h5] at q0;have HP:=hi9 hN;generalize zK (x :: r)=kk at *;obtain⟨PP,hPP⟩:∃PP,PP=x :: r:=⟨_,rfl⟩
 rw [←hPP] at HE HPV HPS HPF HPT HPA HP;have IH:=hi9 ih;clear hns hV h5 hPP hN h200 ih;have Ba:=za w (.cells #[.int .i64 0,.int .i64 0,.string ⟨#[]⟩,.string ⟨#[]⟩,.pointer none,.slice none 0 0] 68);have Bb:=za (w.alloc (.cells #[.int .i64 0,.int .i64 0,.string ⟨#[]⟩,.string ⟨#[]⟩,.pointer none,.slice none 0 0] 68)) (.cells #[.int .i64 5,.int .i64 x.n,.string x.s,.string x.t] 40);have Bc:=za ((w.alloc (.cells #[.int .i64 0,.int .i64 0,.string ⟨#[]⟩,.string ⟨#[]⟩,.pointer none,.slice none 0 0] 68)).alloc (.cells #[.int .i64 5,.int .i64 x.n,.string x.s,.string x.t] 40)) (.cells #[.int .i64 49,.int .i64 0,.string ⟨#[]⟩,.string ⟨#[]⟩,.pointer none,.slice none 0 0] 68);have B3:=hi9 (Ba.trans ((Bb.trans (Bc.mono (by simp))).mono (by simp)));have XR:=hi9 (((zS w (.int .i64 0) (.int .i64 0) (.string ⟨#[]⟩) (.string ⟨#[]⟩) (.pointer none) (.slice none 0 0) 68).keep Bb).keep Bc);have xp:=zS ((w.alloc (.cells #[.int .i64 0,.int .i64 0,.string ⟨#[]⟩,.string ⟨#[]⟩,.pointer none,.slice none 0 0] 68)).alloc (.cells #[.int .i64 5,.int .i64 x.n,.string x.s,.string x.t] 40)) (.int .i64 49) (.int .i64 0) (.string ⟨#[]⟩) (.string ⟨#[]⟩) (.pointer none) (.slice none 0 0) 68;have hz2:((w.alloc (.cells #[.int .i64 0,.int .i64 0,.string ⟨#[]⟩,.string ⟨#[]⟩,.pointer none,.slice none 0 0] 68)).alloc (.cells #[.int .i64 5,.int .i64 x.n,.string x.s,.string x.t] 40)).heap.size=w.heap.size+2:=by simp
 have hz3:(((w.alloc (.cells #[.int .i64 0,.int .i64 0,.string ⟨#[]⟩,.string ⟨#[]⟩,.pointer none,.slice none 0 0] 68)).alloc (.cells #[.int .i64 5,.int .i64 x.n,.string x.s,.string x.t] 40)).alloc (.cells #[.int .i64 49,.int .i64 0,.string ⟨#[]⟩,.string ⟨#[]⟩,.pointer none,.slice none 0 0] 68)).heap.size=w.heap.size+3:=by simp
 rw [hz2] at xp;have XP:=hi9 xp;have HZ3:=hi9 hz3;clear Ba Bb Bc xp hz2 hz3;go_enter Tryz.func27,Tryz.ntmps27;go_wp2_with fail;obtain⟨w3,hw3⟩:∃w3,(((w.alloc (.cells #[.int .i64 0,.int .i64 0,.string ⟨#[]⟩,.string ⟨#[]⟩,.pointer none,.slice none 0 0] 68)).alloc (.cells #[.int .i64 5,.int .i64 x.n,.string x.s,.string x.t] 40)).alloc (.cells #[.int .i64 49,.int .i64 0,.string ⟨#[]⟩,.string ⟨#[]⟩,.pointer none,.slice none 0 0] 68))=w3:=⟨_,rfl⟩
 rw [hw3] at B3 XR XP HZ3 ⊢;clear hw3 q0 q1 q2 q3;refine(HPA.out _ B3.out).mono ?_;rintro e w4 ⟨v,V,rfl,hV4,hVL,hVA,b4⟩;rw [HPT.out.2,zr];rw [HPT.out.1] at hVL;have HVL:=hi9 hVL;rw [HZ3.out] at hV4;have HVA:=hi9 (show∀r∈V,∀a,r.A=some a→w.heap.size+3≤a.block from fun r hr a ha=>by have:=hVA r hr a ha;have:=HZ3.out;omega);have LP:=hi9 (show SLp w w4 v V (.base 49) 49 0 ⟨#[]⟩ ⟨#[]⟩ none none 0 0 from⟨XR.out.keep b4,XP.out.keep b4,⟨0,rfl⟩,hV4,B3.out.trans (b4.mono B3.out.size),by have:=b4.size;have:=HZ3.out;omega⟩);obtain⟨A5,c5,hv5,-,-⟩:=hV4.at
 obtain⟨nv,hnv⟩:∃nv,nv=V.length:=⟨_,rfl⟩
 have HNV:=hi9 hnv;have HNL:=hi9 (show nv≤200 by
  have h1:=congrArg List.length hVL
  rw [List.length_map] at h1
  have h2:=HPF.out
  rw [zgi] at h2
  have h3:=zlM (zm PP) (fun Q hQ=>by obtain⟨x,r,e,-⟩:=za2 (HPV.out Q hQ);rw [e];simp)
  omega)
 rw [←hnv] at hv5;subst hv5;have hnl:nv≤200:=HNL.out;clear hV4 hVL hVA hnv b4 B3 XR XP HPA;go_wp2_with fail;go_loopw [49] (fun i wr=>∃(k:Nat) (q:Kd) (o n':Int) (s t:ByteArray) (p A:Option Addr) (m c:Nat),i = .int .i64 k∧k≤nv∧Hid (q=(((zm PP).take k).map zK).foldl zl (.base 49))∧Hid (SLp w wr (.slice A5 nv c5) V q o n' s t p A m c)) (fun i _=>nv-(intOf i).toNat)
 case atStart=>exact⟨0,_,_,_,_,_,_,_,_,_,rfl,Nat.zero_le _,hi9 rfl,LP⟩
 case round =>
  clear LP;obtain⟨k,q,o,n',s,t,p,A,m,c,rfl,hk,hq,hL⟩:=hrel;by_cases hlt:k<nv
  ·have hkV:k<V.length:=by rw [←HNV.out];exact hlt
   have hkS:k<(zm PP).length:=by rw [←HVL.out,List.length_map];exact hkV
   have heP:V[k].P=(zm PP)[k]:=by simp [←HVL.out]
   have hmem:(zm PP)[k]∈zm PP:=List.getElem_mem hkS;have HVK:=hi9 (HPV.out _ hmem);have HLT:=hi9 (HPS.out _ hmem);have HL2:=hi9 (show(zm PP)[k].length≤200 by have:=zkg hmem;have:=HPF.out;omega);have HNX:=hi9 (zki hq.out hkS);have HQV:=hi9 (show q.valid by rw [hq.out];exact zli HPV.out k);have HQS:=hi9 (show q.sz≤90000 by
    have h1:=zo8 HPV.out k
    have h2:=HPF.out
    rw [←hq.out] at h1
    omega)
   obtain⟨A5',c5',e5,-,hsl⟩:=hL.out.V.at
   injection e5 with e5 e5n e5';clear e5n;subst e5 e5';obtain⟨a5,rfl,hcell,hns5⟩:=hsl.at hkV;rw [heP] at hns5;obtain⟨y,hy⟩:∃y,y=V[k]:=⟨_,rfl⟩
   rw [←hy] at hcell hns5;obtain⟨yP,hyP⟩:∃yP,yP=(zm PP)[k]:=⟨_,rfl⟩
   rw [←hyP] at hns5 HVK HLT HL2 HNX;obtain⟨yA,yn,yc,yp⟩:=y;simp only at hcell hns5;have bd:Below wr.heap.size wr wr.drew:=⟨rfl,rfl,rfl,Nat.le_refl _,fun _ _=>rfl⟩
   have KO:=hi9 (IH.out yA yn yc yP wr.drew (by have:=HLT.out;have:=HP.out;omega) HL2.out (hns5.keep bd) HVK.out);have HSZ:=hi9 (ziB HVK.out);have HOV:=hi9 (zc8 HVK.out);have BD:=hi9 bd;have HS:=hi9 (fun(w':World) (hb:Below wr.heap.size wr w')=>(show w'.cell? ⟨w.heap.size+2,0,none⟩=some (.int .i64 o)∧w'.cell? ⟨w.heap.size+2,1,none⟩=some (.int .i64 n')∧w'.cell? ⟨w.heap.size+2,2,none⟩=some (.string s)∧w'.cell? ⟨w.heap.size+2,3,none⟩=some (.string t)∧w'.cell? ⟨w.heap.size+2,4,none⟩=some (.pointer p)∧w'.cell? ⟨w.heap.size+2,5,none⟩=some (Value.slice A m c) from by
    obtain⟨a0,a1,a2,a3,a4,a5,-,-,-,-,-,-⟩:=hL.out.X.keep hb
    exact⟨a0,a1,a2,a3,a4,a5⟩))
   clear heP hmem hsl hy hyP hns5 bd;go_wp2_with fail;clear hcell;refine wp_region_noPanic ?_;refine zac (fun(w':World)=>w'.cell? ⟨w.heap.size+2,0,none⟩=some (.int .i64 o)∧w'.cell? ⟨w.heap.size+2,1,none⟩=some (.int .i64 n')∧w'.cell? ⟨w.heap.size+2,2,none⟩=some (.string s)∧w'.cell? ⟨w.heap.size+2,3,none⟩=some (.string t)∧w'.cell? ⟨w.heap.size+2,4,none⟩=some (.pointer p)∧w'.cell? ⟨w.heap.size+2,5,none⟩=some (Value.slice A m c)) 4 (by kernel_rfl) (HS.out _ BD.out) (fun hHeld=>?_);refine zj (i:=0) (oi:=⟨some 53,_,_,_,_,_⟩) (v := .agg #[.int .i64 o,.int .i64 n',.string s,.string t,.pointer p,.slice A m c]) rfl (by kernel_rfl) (by kernel_rfl) (by kernel_rfl) (by kernel_rfl) (fun _ _ _ h=>h) (.inl ⟨by rfl,fun w' hSw=>?_⟩) hHeld ?_
   ·obtain⟨a0,a1,a2,a3,a4,a5⟩:=hSw;go_simp
   simp only [Act.put,List.setIfInBounds_toArray,List.set_cons_zero,List.set_cons_succ];refine zj (i:=1) (oi:=⟨some 54,_,_,_,_,_⟩) (v := .slice yA yn yc) rfl (by kernel_rfl) (by kernel_rfl) (by kernel_rfl) (by kernel_rfl) (fun _ _ _ h=>h) (.inl ⟨by rfl,fun w' hSw=>?_⟩) hHeld ?_
   ·clear hSw;go_simp
   simp only [Act.put,List.setIfInBounds_toArray,List.set_cons_zero,List.set_cons_succ];refine zq (i:=2) (o:=⟨some 55,_,_,_,_,_⟩) (by kernel_rfl) rfl (fun K' hK'=>?_);go_simp;go_at_call 27;refine KO.out.mono ?_;rintro e w6 ⟨u,rfl,ku,b6⟩;have B6:=hi9 (BD.out.trans (b6.mono BD.out.size));have KJ:=hi9 (zdc _ q (zK yP) _ u w6 (fun b=>w.heap.size+3≤b∧b<w6.heap.size) (Nat.le_refl _) HQS.out (by have:=HSZ.out;have:=HL2.out;omega)
    (((hL.out.K.mono (B':=fun b=>w.heap.size+3≤b∧b<wr.heap.size) fun b h1 h2=>⟨h1,h2⟩).cong (w':=w6) fun b hb=>B6.out.block b hb.2).mono fun b hb h2=>⟨hb.1,h2⟩)
    (ku.mono fun b h1 h2=>⟨Nat.le_trans hL.out.z h1,h2⟩) HQV.out HOV.out (fun b hb=>hb.2))
   obtain⟨o6,n6,s6,t6,p6,A6,m6,c6,rfl⟩:=jL ku;clear ku b6;go_wp2_with fail;refine hK'.out _ _ (fun _=>HS.out _ B6.out) ?_;clear hK' K' hHeld
   try simp only [Act.put,List.setIfInBounds_toArray,List.set_cons_zero,List.set_cons_succ]
   refine zq (i:=3) (o:=⟨some 56,_,_,_,_,_⟩) (by kernel_rfl) rfl (fun K' hK'=>?_);go_simp;go_at_call 64;refine KJ.out.mono ?_;rintro e w7 ⟨u,rfl,ku,b7⟩;have B7:=hi9 (B6.out.trans (b7.mono B6.out.size));obtain⟨o7,n7,s7,t7,p7,A7,m7,c7,rfl⟩:=jL ku;have KU:=hi9 (ku.mono (B':=fun b=>w.heap.size+3≤b) fun b h1 _=>by
    rcases h1 with h|h
    ·exact h.1
    ·have:=hL.out.z;have:=B6.out.size;omega)
   clear ku b7 KJ;go_wp2_with fail;refine hK'.out _ _ (fun _=>HS.out _ B7.out) ?_;clear hK' K'
   try simp only [Act.put,List.setIfInBounds_toArray,List.set_cons_zero,List.set_cons_succ]
   obtain⟨a0,a1,a2,a3,a4,a5,j0,j1,j2,j3,j4,j5⟩:=hL.out.X.keep B7.out;refine zq (i:=4) (o:=⟨none,_,_,_,_,_⟩) (by kernel_rfl) rfl (fun K' hK'=>?_);go_simp;refine hK'.out _ _ (fun h=>absurd rfl h) ?_;refine jv (by kernel_rfl) ?_;refine NoPanic.normal ?_;clear hK' K' a0 a1 a2 a3 a4 a5 j0 j1 j2 j3 j4 j5;have gs:=ja w7 (w.heap.size+2) (.int .i64 o7) (.int .i64 n7) (.string s7) (.string t7) (.pointer p7) (.slice A7 m7 c7);have V7:=hL.out.V.keep B7.out;have HNL:=hi9 (show SLp w ((((((w7.setCell ⟨w.heap.size+2,0,none⟩ (.int .i64 o7)).setCell ⟨w.heap.size+2,1,none⟩ (.int .i64 n7)).setCell ⟨w.heap.size+2,2,none⟩ (.string s7)).setCell ⟨w.heap.size+2,3,none⟩ (.string t7)).setCell ⟨w.heap.size+2,4,none⟩ (.pointer p7)).setCell ⟨w.heap.size+2,5,none⟩ (.slice A7 m7 c7)) (.slice (some a5) nv c5) V (zl q (zK yP)) o7 n7 s7 t7 p7 A7 m7 c7 from
    ⟨(hL.out.R.keep B7.out).but gs (fun e=>by injection e with e;omega),(hL.out.X.keep B7.out).set (.int .i64 o7) (.int .i64 n7) (.string s7) (.string t7) (.pointer p7) (.slice A7 m7 c7),
     KU.out.cong fun b hb=>jl w7 (w.heap.size+2) (.int .i64 o7) (.int .i64 n7) (.string s7) (.string t7) (.pointer p7) (.slice A7 m7 c7) (by omega),
     V7.row gs (.inr (fun e=>by have:=(V7.own.lt _ e).1;omega)) (fun r hr _ a ha e=>by injection e with e;have:=HVA.out r hr a ha;omega),
     jk (hL.out.G.trans (B7.out.mono hL.out.G.size)) (by omega) (.int .i64 o7) (.int .i64 n7) (.string s7) (.string t7) (.pointer p7) (.slice A7 m7 c7),by have:=hL.out.z;have:=B7.out.size;simp [World.setCell];omega⟩)
   clear gs V7;go_wp2_with fail;go_roundw
   case rel=>exact⟨k+1,_,o7,n7,s7,t7,p7,A7,m7,c7,by go_num,hlt,HNX,HNL⟩
   case measure=>simp [intOf];omega
  ·have hke:k=nv:=by omega
   have HK:=hi9 (show kk = .set q by
    have h1:=hq.out
    have h2:(zm PP).length=nv:=by rw [←HVL.out,List.length_map,HNV.out]
    rw [hke,←h2,List.take_length] at h1
    rw [HE.out,h1]
    rfl)
   obtain⟨r0,r1,r2,r3,r4,r5,y0,y1,y2,y3,y4,y5⟩:=hL.out.R;go_wp2_with fail;obtain⟨j0,j1,j2,j3,j4,j5,-,-,-,-,-,-⟩:=hL.out.R.set (.int .i64 45) (.int .i64 0) (.string ⟨#[]⟩) (.string ⟨#[]⟩) (.pointer (some ⟨w.heap.size+2,0,none⟩)) (.slice none 0 0);refine bodyPost_ret (v := .agg #[.int .i64 45,.int .i64 0,.string ⟨#[]⟩,.string ⟨#[]⟩,.pointer (some ⟨w.heap.size+2,0,none⟩),.slice none 0 0]) (by simp [results,Tryz.results27,go_sem,j0,j1,j2,j3,j4,j5]) rfl ?_;rw [HK.out];refine⟨[.int .i64 45,.int .i64 0,.string ⟨#[]⟩,.string ⟨#[]⟩,.pointer (some ⟨w.heap.size+2,0,none⟩),.slice none 0 0],rfl,⟨0,w.heap.size+2,_,rfl,by omega,hL.out.X.row.cong (jl wr w.heap.size _ _ _ _ _ _ (by show w.heap.size+2≠w.heap.size;omega)),?_⟩,jk hL.out.G (Nat.le_refl _) _ _ _ _ _ _⟩;exact(hL.out.K.cong fun b hb=>jl wr w.heap.size _ _ _ _ _ _ (by omega)).mono fun b hb _=>by omega
theorem zhd{ops:Array Oper}{o:Oper}{a:Act}{w:World}{K:Act→World→Prop}{Q:Exit→Act→World→Prop}{E':Prop}(hgd:o.guard=none)(s x:Operand)
 (ho:o.op = .call { callee := .builtin .append,args:=#[s,x],argTypes:=#[66,66] })
 (base:Nat) (v:Value) (E:List Fe) (hs:a.eval s=v) (hrow:zbR w base v E) (z:Fe) (ad:Addr) (c:Nat) (hx:a.eval x = .slice (some ad) 1 c)
 (hnews:∀j u,z.eight[j]?=some u→w.cell? (ad.add j)=some u) (hz:KAt w (fun b=>base≤b∧some b≠v.ownBlock) z.y.2.2 z.u) (hl:E.length≤1000000) (hbase:base≤w.heap.size)
 (h:∀v' w',zbR w' base v' (E ++ [z])→w.grownBy w' v.ownBlock→K (a.put o.dst v') w'):
 if Region.wanted o (yielded ops a.tmps)=true then Oper.wp Tryz.prog o a w K Q else E':=by
 have hi:=zkS
 cases hq:Tryz.prog.info? 122 with
 | none=>rw [hq] at hi;cases hi
 | some i0 =>
  rw [hq] at hi
  simp only [Option.map_some,Option.some.injEq,Prod.mk.injEq] at hi
  refine step_append_lies w hgd s x _ ho base _ i0 _ 8 104 Tryz.underlying66 hq hi.1 hi.2.1 hi.2.2 (by decide) (by decide) v E.length (jc E) hs hrow.own ad 1 c z.eight hx rfl hnews ?_ (by decide) (by unfold maxLen;omega) (by omega) hbase _ rfl ?_
  ·intro u hu
   have:=zbG [z] u (by simpa [jc,Fe.eight,Fe.u] using hu);exact this
  ·intro g cap w' h1 h2 h3 _
   refine h _ w' (hrow.snoc hz h1 h2 ?_) h2;rcases h3 with h3|h3
   ·exact .inl h3.symm
   ·exact .inr (by rw [h3];rfl)
structure RLp(w w4 wr:World)(E:List Fe)(v:Value):Prop where
 X:Bx6 wr (w.heap.size+2) (.int .i64 46) (.int .i64 0) (.string ⟨#[]⟩) (.string ⟨#[]⟩) (.pointer none) v
 F:zbR wr w4.heap.size v E
 H:w4.grownBy wr (some (w.heap.size+2))
theorem zlD{w:World}{a:Addr}{n c i:Nat}{P:List Nd}(h:Ns w (some a) n c P)(hi:i≤n)(hlt:i<n→i<c)(a':Addr)(ha:i<c→a'=a.add (i*4)):Ns w (some a') (n-i) (c-i) (P.drop i):=by
 have hl:=h.len;have hc:=h.cap;have hm:=h.max;refine⟨by rw [List.length_drop];omega,by omega,by omega,fun k y hy=>?_,fun y hy=>h.ok y (List.mem_of_mem_drop hy)⟩;rw [List.getElem?_drop] at hy;have hk:i+k<P.length:=by
  rcases Nat.lt_or_ge (i+k) P.length with h1|h1
  ·exact h1
  ·rw [List.getElem?_eq_none h1] at hy;cases hy
 obtain⟨b,e,q0,q1,q2,q3⟩:=h.at_ (i+k) y hy;injection e with e;subst e;refine⟨a',rfl,?_⟩;rw [ha (hlt (by omega)),add_add,show i*4+k*4=(i+k)*4 by omega];exact⟨q0,q1,q2,q3⟩
theorem zkw(L:List (ByteArray × List Nd))(k:Nat)(h:k<L.length):zaw (L.drop k)=zcS L[k].1 ::(L[k].2 ++ zaw (L.drop (k+1))):=by
 rw [List.drop_eq_getElem_cons h];rfl
theorem zlI(N:Nat)(ih:zpq N)(A:Option Addr)(n c:Nat)(P:List Nd)(w:World)(hN:P.length≤N+1)(h200:P.length≤200)(hns:Ns w A n c P)(hV:IsV P)(h6:zk P=6):
 Calls Tryz.prog 27 #[.slice A n c] w (zf1 w (zK P)):=by
 have HE:=hi9 (zgQ hV h6);have HPV:=hi9 (zaG hV h6).2.2.1;have HPS:=hi9 (fun x (hx:x∈zi P)=>zbx hV h6 hx);have HPF:=hi9 (zaG hV h6).1;have HPT:=hi9 (show zeP P=(zi P).map (·.2)∧zdo P=0 by
  have h0:zD P=0:=zbf.2 ⟨h200,hV⟩
  have h1:zdo P=0:=by unfold zdo;rw [if_pos h0,if_pos (.inr h6)]
  refine⟨?_,h1⟩
  unfold zeP
  rw [if_pos h1,if_neg (by omega)])
 have HPA:=hi9 (fun w' hb=>zhU A n c P w' (hns.keep (w':=w') hb));have HNS:=hi9 hns;have HLEN:=hi9 hns.len;obtain⟨x,r,hPx,-,-⟩:=za2 hV;have hop:x.op=6:=by rw [hPx] at h6;exact h6
 obtain⟨a,rfl,q0,q1,q2,q3⟩:=hns.at_ 0 x (by rw [hPx];rfl);rw [show a.add (0*4)=a from rfl] at q0 q1 q2 q3;have hl:a.block<w.heap.size:=block_lt_of_cell q0;have hn1:1≤n:=by rw [hns.len,hPx,List.length_cons];omega
 have hnc:n≤c:=hns.cap;have hm:=hns.max;unfold maxLen at hm;rw [hop] at q0;have HP:=hi9 hN;have H200:=hi9 h200;generalize zK P=kk at *;have IH:=hi9 ih;clear hns hV h6 hPx hop hN h200 ih;have Ba:=za w (.cells #[.int .i64 0,.int .i64 0,.string ⟨#[]⟩,.string ⟨#[]⟩,.pointer none,.slice none 0 0] 68);have Bb:=za (w.alloc (.cells #[.int .i64 0,.int .i64 0,.string ⟨#[]⟩,.string ⟨#[]⟩,.pointer none,.slice none 0 0] 68)) (.cells #[.int .i64 6,.int .i64 x.n,.string x.s,.string x.t] 40);have Bc:=za ((w.alloc (.cells #[.int .i64 0,.int .i64 0,.string ⟨#[]⟩,.string ⟨#[]⟩,.pointer none,.slice none 0 0] 68)).alloc (.cells #[.int .i64 6,.int .i64 x.n,.string x.s,.string x.t] 40)) (.cells #[.int .i64 46,.int .i64 0,.string ⟨#[]⟩,.string ⟨#[]⟩,.pointer none,.slice none 0 0] 68);have B3:=hi9 (Ba.trans ((Bb.trans (Bc.mono (by simp))).mono (by simp)));have XR:=hi9 (((zS w (.int .i64 0) (.int .i64 0) (.string ⟨#[]⟩) (.string ⟨#[]⟩) (.pointer none) (.slice none 0 0) 68).keep Bb).keep Bc);have xp:=zS ((w.alloc (.cells #[.int .i64 0,.int .i64 0,.string ⟨#[]⟩,.string ⟨#[]⟩,.pointer none,.slice none 0 0] 68)).alloc (.cells #[.int .i64 6,.int .i64 x.n,.string x.s,.string x.t] 40)) (.int .i64 46) (.int .i64 0) (.string ⟨#[]⟩) (.string ⟨#[]⟩) (.pointer none) (.slice none 0 0) 68;have hz2:((w.alloc (.cells #[.int .i64 0,.int .i64 0,.string ⟨#[]⟩,.string ⟨#[]⟩,.pointer none,.slice none 0 0] 68)).alloc (.cells #[.int .i64 6,.int .i64 x.n,.string x.s,.string x.t] 40)).heap.size=w.heap.size+2:=by simp
 have hz3:(((w.alloc (.cells #[.int .i64 0,.int .i64 0,.string ⟨#[]⟩,.string ⟨#[]⟩,.pointer none,.slice none 0 0] 68)).alloc (.cells #[.int .i64 6,.int .i64 x.n,.string x.s,.string x.t] 40)).alloc (.cells #[.int .i64 46,.int .i64 0,.string ⟨#[]⟩,.string ⟨#[]⟩,.pointer none,.slice none 0 0] 68)).heap.size=w.heap.size+3:=by simp
 rw [hz2] at xp;have XP:=hi9 xp;have HZ3:=hi9 hz3;clear Ba Bb Bc xp hz2 hz3;have HFL:=hi9 (show(zaw (zi P)).length+1=n by
  have h2:=congrArg List.length HPF.out
  rw [List.length_cons] at h2
  rw [HLEN.out];exact h2.symm)
 have HR1:=hi9 (show c=1→Ns w (some a) 0 0 (zaw (zi P)) from fun h=>by
  have h0:zaw (zi P)= []:=List.eq_nil_of_length_eq_zero (by have:=HFL.out;omega)
  rw [h0]
  exact⟨rfl,Nat.le_refl _,Nat.zero_le _,fun k y hy=>by simp at hy,fun y hy=>nomatch hy⟩)
 have HR2:=hi9 (show¬c=1→Ns w (some (a.add 4)) (n-1) (c-1) (zaw (zi P)) from fun h=>by
  have h1:=zlD (i:=1) HNS.out hn1 (fun h=>by omega) (a.add 4) (fun _=>rfl)
  rw [HPF.out] at h1
  exact h1)
 rcases Decidable.em (c=1) with rfl|hc
 all_goals
  go_enter Tryz.func27,Tryz.ntmps27;go_wp2_with fail;obtain⟨w3,hw3⟩:∃w3,((w.alloc (.cells #[.int .i64 0,.int .i64 0,.string ⟨#[]⟩,.string ⟨#[]⟩,.pointer none,.slice none 0 0] 68)).alloc (.cells #[.int .i64 6,.int .i64 x.n,.string x.s,.string x.t] 40)).alloc (.cells #[.int .i64 46,.int .i64 0,.string ⟨#[]⟩,.string ⟨#[]⟩,.pointer none,.slice none 0 0] 68)=w3:=⟨_,rfl⟩
  rw [hw3] at B3 XR XP HZ3 ⊢;clear hw3 q0 q1 q2 q3;refine(HPA.out _ B3.out).mono ?_;rintro e w4 ⟨v,V,rfl,hV4,hVL,hVA,b4⟩;rw [HPT.out.2,zr];rw [HPT.out.1] at hVL;have HVL:=hi9 hVL;rw [HZ3.out] at hV4;have HVA:=hi9 (show∀r∈V,∀a,r.A=some a→w.heap.size+3≤a.block from fun r hr a ha=>by have:=hVA r hr a ha;have:=HZ3.out;omega);have HB4:=hi9 (B3.out.trans (b4.mono B3.out.size));have XR4:=hi9 (XR.out.keep b4);have XP4:=hi9 (XP.out.keep b4);have HZ4:=hi9 (show w.heap.size+3≤w4.heap.size by have:=b4.size;have:=HZ3.out;omega);have HV4:=hi9 hV4;obtain⟨A5,c5,hv5,-,-⟩:=hV4.at
  obtain⟨nv,hnv⟩:∃nv,nv=V.length:=⟨_,rfl⟩
  have HNV:=hi9 hnv;have hnl:nv≤200:=by
   have h1:=congrArg List.length hVL;rw [List.length_map,List.length_map] at h1;have h2:=congrArg List.length HPF.out;rw [List.length_cons,zdA] at h2;have h3:(zi P).length≤((zi P).map fun x=>x.2.length+1).sum:=by
    have:∀L:List (ByteArray × List Nd),L.length≤(L.map fun x=>x.2.length+1).sum:=fun L=>by
     induction L with
     | nil=>exact Nat.le_refl _
     | cons y L ih=>simp only [List.length_cons,List.map_cons,List.sum_cons];omega
    exact this _
   have:=H200.out;omega
  rw [←hnv] at hv5;subst hv5;clear hV4 hVL hVA hnv b4 B3 XR XP HPA;go_wp2_with fail;go_loopw [10,71] (fun u i wr=>∃(k:Nat) (E:List Fe) (v:Value) (Ar:Option Addr) (nr cr:Nat),u = .slice Ar nr cr∧i = .int .i64 k∧k≤nv∧Hid (E.map Fe.y=((zi P).take k).map fun x=>(x.1,true,zK x.2))∧Hid (Ns w4 Ar nr cr (zaw ((zi P).drop k))∧∀b,Ar=some b→b.block<w.heap.size)∧Hid (RLp w w4 wr E v)) (fun _ i _=>nv-(intOf i).toNat)
  case atStart =>
   refine⟨0,[],_,_,_,_,rfl,rfl,Nat.zero_le _,hi9 rfl,hi9 ⟨?_,?_⟩,hi9 ⟨XP4.out,zbR.nil _ _,World.grownBy.refl _ _⟩⟩
   ·rw [List.drop_zero]
    first
     | exact(HR1.out (by trivial)).keep HB4.out
     | exact(HR2.out (by assumption)).keep HB4.out
   ·intro b e;injection e with e;subst e;exact hl
  case round =>
   obtain⟨k,E,v,Ar,nr,cr,rfl,rfl,hk,hE,hN,hL⟩:=hrel;by_cases hlt:k<nv
   ·have hkV:k<V.length:=by rw [←HNV.out];exact hlt
    have hkS:k<(zi P).length:=by
     have:=congrArg List.length HVL.out;rw [List.length_map,List.length_map] at this;omega
    have heP:V[k].P=(zi P)[k].2:=by
     have h1:(V.map Sl.P)[k]?=((zi P).map (·.2))[k]?:=by rw [HVL.out]
     rw [List.getElem?_map,List.getElem?_map,List.getElem?_eq_getElem hkV,List.getElem?_eq_getElem hkS] at h1;simpa using h1
    have hmem:(zi P)[k]∈zi P:=List.getElem_mem hkS;have HVK:=hi9 (HPV.out _ hmem).1;have HLT:=hi9 (HPS.out _ hmem);have HDR:=hi9 (zkw (zi P) k hkS);have HNX:=hi9 (show∀z:Fe,z.y=((zi P)[k].1,true,zK (zi P)[k].2)→(E ++ [z]).map Fe.y=((zi P).take (k+1)).map fun x=>(x.1,true,zK x.2) from fun z hz=>by
     rw [List.take_succ_eq_append_getElem hkS,List.map_append,List.map_append,hE.out]
     simp [hz])
    have HEL:=hi9 (show E.length≤1000000 by
     have:=congrArg List.length hE.out
     simp at this
     omega)
    have hns:=hN.out.1;rw [HDR.out] at hns;obtain⟨ar,har,-,-,g2,-⟩:=hns.at_ 0 _ rfl;have hab:=hN.out.2 ar har;subst har;rw [show ar.add (0*4)=ar from rfl] at g2;have hnr1:1≤nr:=by have:=hns.len;rw [List.length_cons] at this;omega
    have hnr0:¬nr=0:=by omega
    have hnr2:(0:Int)<(nr:Int):=by omega
    have HNR:=hi9 hns.len;have HNC:=hi9 hns.cap;have HNM:=hi9 hns.max;have HRN:=hi9 hns;obtain⟨A5',c5',e5,-,hsl⟩:=HV4.out.at
    injection e5 with e5 e5n e5';clear e5n;subst e5 e5';obtain⟨a5,rfl,hcell,hns5⟩:=hsl.at hkV;rw [heP] at hns5;have hA5:w.heap.size+3≤a5.block:=by
     rcases HV4.out.own.2 with ⟨e0,-⟩|⟨gg,cap,cur,e0,hBg,-⟩
     ·cases e0
     ·injection e0 with e0;injection e0 with e0;subst e0;exact hBg
    have HVK5:=hi9 (HVA.out _ (List.getElem_mem hkV));obtain⟨y,hy⟩:∃y,y=V[k]:=⟨_,rfl⟩
    rw [←hy] at hcell hns5 HVK5;obtain⟨yP,hyP⟩:∃yP,yP=(zi P)[k].2:=⟨_,rfl⟩
    obtain⟨nm,hnm⟩:∃nm,nm=(zi P)[k].1:=⟨_,rfl⟩
    rw [←hyP] at hns5 HVK HLT HNX HRN HNR;rw [←hnm] at HNX HRN HNR;have g2:w4.cell? ⟨ar.block,ar.off+2,none⟩=some (.string nm):=by rw [hnm];exact g2
    obtain⟨yA,yn,yc,yp⟩:=y;simp only at hcell hns5 HVK5;have hyn:yn=yP.length:=hns5.len;have hynr:yn+1≤nr:=by have:=HNR.out;rw [List.length_cons,List.length_append] at this;omega
    have HYN:=hi9 hyn;have hcell2:wr.cell? (a5.add k)=some (.slice yA yn yc):=(World.cell?_of_block (hL.out.H.block (a5.add k).block (block_lt_of_cell hcell) (fun e=>by rw [jI] at e;injection e with e;omega))).trans hcell;have hns6:=Ns.row (r:=⟨yA,yn,yc,yP⟩) hns5 hL.out.H (fun _ b hb e=>by injection e with e;have:=HVK5.out b hb;omega);have hab2:ar.block<w4.heap.size:=block_lt_of_cell (a:=⟨ar.block,ar.off+2,none⟩) g2;have G2:=hi9 (show∀w',w4.grownBy w' (some (w.heap.size+2))→w'.cell? ⟨ar.block,ar.off+2,none⟩=some (.string nm) from fun w' hg=>(World.cell?_of_block (a:=⟨ar.block,ar.off+2,none⟩) (hg.block ar.block hab2 (fun e=>by injection e with e;omega))).trans g2);have bd:Below wr.heap.size wr wr.drew:=⟨rfl,rfl,rfl,Nat.le_refl _,fun _ _=>rfl⟩
    have KO:=hi9 (IH.out yA yn yc yP wr.drew (by have:=HLT.out;have:=HP.out;omega) (by have:=HLT.out;have:=H200.out;omega) (hns6.keep bd) HVK.out);have HW:=hi9 hL.out.H.size;have BD:=hi9 bd;have HS:=hi9 (fun(w':World) (hb:Below wr.heap.size wr w')=>(show w'.cell? ⟨w.heap.size+2,5,none⟩=some v∧w'.cell? ⟨ar.block,ar.off+2,none⟩=some (.string nm) from⟨(hL.out.X.keep hb).c5,G2.out w' (zd hL.out.H (zc hb _))⟩));have HKL:=hi9 (show w.heap.size+3≤w4.heap.size from HZ4.out);clear heP hmem hsl hy hyP hnm hyn hns5 hns6 bd hns g2 hcell;go_wp2_with fail;clear hcell2;refine wp_region_noPanic ?_;refine zac (fun(w':World)=>w'.cell? ⟨w.heap.size+2,5,none⟩=some v∧w'.cell? ⟨ar.block,ar.off+2,none⟩=some (.string nm)) 12 (by kernel_rfl) (HS.out _ BD.out) (fun hHeld=>?_);refine zj (i:=0) (oi:=⟨some 75,_,_,_,_,_⟩) (v := .pointer (some ⟨w.heap.size+2,5,none⟩)) rfl (by kernel_rfl) (by kernel_rfl) (by kernel_rfl) (by kernel_rfl) (fun _ _ _ h=>h) (.inl ⟨by rfl,fun w' hSw=>?_⟩) hHeld ?_
    ·obtain⟨a0,a1⟩:=hSw;go_simp
    try simp only [Act.put,List.setIfInBounds_toArray,List.set_cons_zero,List.set_cons_succ]
    refine zj (i:=1) (oi:=⟨some 76,_,_,_,_,_⟩) (v:=v) rfl (by kernel_rfl) (by kernel_rfl) (by kernel_rfl) (by kernel_rfl) (fun _ _ _ h=>h) (.inl ⟨by rfl,fun w' hSw=>?_⟩) hHeld ?_
    ·obtain⟨a0,a1⟩:=hSw;go_simp
    try simp only [Act.put,List.setIfInBounds_toArray,List.set_cons_zero,List.set_cons_succ]
    refine zj (i:=2) (oi:=⟨some 77,_,_,_,_,_⟩) (v := .slice (some ar) nr cr) rfl (by kernel_rfl) (by kernel_rfl) (by kernel_rfl) (by kernel_rfl) (fun _ _ _ h=>h) (.inl ⟨by rfl,fun w' hSw=>?_⟩) hHeld ?_
    ·obtain⟨a0,a1⟩:=hSw;go_simp
    try simp only [Act.put,List.setIfInBounds_toArray,List.set_cons_zero,List.set_cons_succ]
    refine zj (i:=3) (oi:=⟨some 78,_,_,_,_,_⟩) (v := .pointer (some ar)) rfl (by kernel_rfl) (by kernel_rfl) (by kernel_rfl) (by kernel_rfl) (fun _ _ _ h=>h) (.inl ⟨by rfl,fun w' hSw=>?_⟩) hHeld ?_
    ·obtain⟨a0,a1⟩:=hSw;go_simp
    try simp only [Act.put,List.setIfInBounds_toArray,List.set_cons_zero,List.set_cons_succ]
    refine zj (i:=4) (oi:=⟨some 79,_,_,_,_,_⟩) (v := .pointer (some ⟨ar.block,ar.off+2,none⟩)) rfl (by kernel_rfl) (by kernel_rfl) (by kernel_rfl) (by kernel_rfl) (fun _ _ _ h=>h) (.inl ⟨by rfl,fun w' hSw=>?_⟩) hHeld ?_
    ·obtain⟨a0,a1⟩:=hSw;go_simp
    try simp only [Act.put,List.setIfInBounds_toArray,List.set_cons_zero,List.set_cons_succ]
    refine zj (i:=5) (oi:=⟨some 80,_,_,_,_,_⟩) (v := .string nm) rfl (by kernel_rfl) (by kernel_rfl) (by kernel_rfl) (by kernel_rfl) (fun _ _ _ h=>h) (.inl ⟨by rfl,fun w' hSw=>?_⟩) hHeld ?_
    ·obtain⟨a0,a1⟩:=hSw;go_simp
    try simp only [Act.put,List.setIfInBounds_toArray,List.set_cons_zero,List.set_cons_succ]
    refine zj (i:=6) (oi:=⟨some 81,_,_,_,_,_⟩) (v := .slice yA yn yc) rfl (by kernel_rfl) (by kernel_rfl) (by kernel_rfl) (by kernel_rfl) (fun _ _ _ h=>h) (.inl ⟨by rfl,fun w' hSw=>?_⟩) hHeld ?_
    ·obtain⟨a0,a1⟩:=hSw;go_simp
    try simp only [Act.put,List.setIfInBounds_toArray,List.set_cons_zero,List.set_cons_succ]
    refine zq (i:=7) (o:=⟨some 82,_,_,_,_,_⟩) (by kernel_rfl) rfl (fun K' hK'=>?_);go_simp;go_at_call 27;refine KO.out.mono ?_;rintro e w6 ⟨u,rfl,ku,b6⟩;have B6:=hi9 (BD.out.trans (b6.mono BD.out.size));obtain⟨o6,n6,s6,t6,p6,A6,m6,c6,rfl⟩:=jL ku;have KU:=hi9 ku;clear ku b6;go_wp2_with fail;refine hK'.out _ _ (fun _=>HS.out _ B6.out) ?_;clear hK' K' hHeld
    try simp only [Act.put,List.setIfInBounds_toArray,List.set_cons_zero,List.set_cons_succ]
    refine zj (i:=8) (oi:=⟨some 83,_,_,_,_,_⟩) (v := .agg #[.string nm,.bool true,.int .i64 o6,.int .i64 n6,.string s6,.string t6,.pointer p6,.slice A6 m6 c6]) rfl (by kernel_rfl) (by kernel_rfl) (by kernel_rfl) (by kernel_rfl) (fun _ _ _ h=>h) (.inl ⟨by rfl,fun w' hSw=>?_⟩) (HS.out _ B6.out) ?_
    ·clear hSw;go_simp
    try simp only [Act.put,List.setIfInBounds_toArray,List.set_cons_zero,List.set_cons_succ]
    have B7:=hi9 (B6.out.trans ((za w6 (.cells #[.string nm,.bool true,.int .i64 o6,.int .i64 n6,.string s6,.string t6,.pointer p6,.slice A6 m6 c6] 122)).mono B6.out.size));refine zq (i:=9) (o:=⟨some 84,_,_,_,_,_⟩) (by kernel_rfl) rfl (fun K' hK'=>?_);go_simp;refine hK'.out _ _ (fun _=>HS.out _ B7.out) ?_;clear hK' K'
    try simp only [Act.put,List.setIfInBounds_toArray,List.set_cons_zero,List.set_cons_succ]
    have RN:=hi9 (za3 w6 [.string nm,.bool true,.int .i64 o6,.int .i64 n6,.string s6,.string t6,.pointer p6,.slice A6 m6 c6] 122);have X7:=hi9 (hL.out.X.keep B7.out);have F7:=hi9 (hL.out.F.keepN (zc B7.out none));have H7:=hi9 (zd hL.out.H (zc B7.out (some (w.heap.size+2))));have HOL:=hi9 (fun g hg=>hL.out.F.own.lt g hg);have KK:=hi9 (show KAt (w6.alloc (.cells #[.string nm,.bool true,.int .i64 o6,.int .i64 n6,.string s6,.string t6,.pointer p6,.slice A6 m6 c6] 122)) (fun b=>w4.heap.size≤b∧some b≠v.ownBlock) (zK yP) [.int .i64 o6,.int .i64 n6,.string s6,.string t6,.pointer p6,.slice A6 m6 c6] from
     ((KU.out.mono (B':=fun b=>wr.heap.size≤b∧b<w6.heap.size) fun b h1 h2=>⟨h1,h2⟩).cong fun b hb=>(za w6 _).block b hb.2).mono fun b hb _=>⟨Nat.le_trans HW.out hb.1,fun e=>by have:=(HOL.out b e.symm).2;have:=hb.1;omega⟩)
    have HB7:=hi9 (show w4.heap.size≤(w6.alloc (.cells #[.string nm,.bool true,.int .i64 o6,.int .i64 n6,.string s6,.string t6,.pointer p6,.slice A6 m6 c6] 122)).heap.size from Nat.le_trans HW.out B7.out.size);refine zq (i:=10) (o:=⟨some 85,_,_,_,_,_⟩) (by kernel_rfl) rfl (fun K' hK'=>?_);refine zhd rfl (.tmp 76) (.tmp 84) rfl w4.heap.size v E rfl F7.out ⟨(nm,true,zK yP),o6,n6,s6,t6,p6,A6,m6,c6⟩ ⟨w6.heap.size,0,none⟩ 1 rfl RN.out KK.out HEL.out HB7.out ?_;intro v' w8 hrow hg;have hn:∀b,b<w4.heap.size→some b≠v.ownBlock:=fun b hb e=>by have:=(HOL.out b e.symm).1;omega
    have X8:=hi9 (X7.out.but hg (hn _ (by have:=HKL.out;omega)));have H8:=hi9 (show w4.grownBy w8 (some (w.heap.size+2)) from by
     rcases hv2:v.ownBlock with _|q
     ·rw [hv2] at hg
      exact zd H7.out ⟨hg.os,hg.tape,hg.output,hg.size,fun i hi _=>hg.block i hi (fun e=>nomatch e)⟩
     ·rw [hv2] at hg
      exact jg H7.out hg (HOL.out q hv2).1)
    have S8:=hi9 (show w8.cell? ⟨w.heap.size+2,5,none⟩=some v∧w8.cell? ⟨ar.block,ar.off+2,none⟩=some (.string nm) from⟨X8.out.c5,G2.out w8 H8.out⟩);have HROW:=hi9 hrow;obtain⟨A8,cp8,hv',-,-,-⟩:=hrow.fat;obtain⟨nl,hnl⟩:∃nl,nl=(E ++ [(⟨(nm,true,zK yP),o6,n6,s6,t6,p6,A6,m6,c6⟩:Fe)]).length:=⟨_,rfl⟩
    rw [←hnl] at hv';subst hv';refine hK'.out _ _ (fun _=>S8.out) ?_;clear hnl hrow hg hn hK' K'
    try simp only [Act.put,List.setIfInBounds_toArray,List.set_cons_zero,List.set_cons_succ]
    refine zj (i:=11) (oi:=⟨some 86,_,_,_,_,_⟩) (v := .pointer (some ⟨w.heap.size+2,5,none⟩)) rfl (by kernel_rfl) (by kernel_rfl) (by kernel_rfl) (by kernel_rfl) (fun _ _ _ h=>h) (.inl ⟨by rfl,fun w' hSw=>?_⟩) S8.out ?_
    ·clear hSw;go_simp
    try simp only [Act.put,List.setIfInBounds_toArray,List.set_cons_zero,List.set_cons_succ]
    obtain⟨k0,k1,k2,k3,k4,k5,y0,y1,y2,y3,y4,y5⟩:=X8.out;refine zq (i:=12) (o:=⟨none,_,_,_,_,_⟩) (by kernel_rfl) rfl (fun K' hK'=>?_);go_simp;refine hK'.out _ _ (fun h=>absurd rfl h) ?_;refine jv (by kernel_rfl) ?_;refine NoPanic.normal ?_;clear hK' K' k0 k1 k2 k3 k4 k5 y0 y1 y2 y3 y4 y5;have HNL:=hi9 (show RLp w w4 (w8.setCell ⟨w.heap.size+2,5,none⟩ (.slice A8 nl cp8)) (E ++ [⟨(nm,true,zK yP),o6,n6,s6,t6,p6,A6,m6,c6⟩]) (.slice A8 nl cp8) from by
     have gs:w8.grownBy (w8.setCell ⟨w.heap.size+2,5,none⟩ (.slice A8 nl cp8)) (some (w.heap.size+2)):=zg w8 ⟨w.heap.size+2,5,none⟩ _
     exact⟨X8.out.set5 _,HROW.out.keep gs (by have:=HKL.out;omega),zd H8.out gs⟩)
    have hyb:yn≤200:=by have:=HLT.out;have:=H200.out;have:=HYN.out;omega
    have HNS2:=hi9 (show∀a',(1+yn<cr→a'=ar.add ((1+yn)*4))→Ns w4 (some a') (nr-(1+yn)) (cr-(1+yn)) (zaw ((zi P).drop (k+1))) from fun a' ha'=>by
     have h1:=zlD (i:=1+yn) HRN.out (by omega) (fun h=>by have:=HNC.out;omega) a' ha'
     have e:(zcS nm ::(yP ++ zaw ((zi P).drop (k+1)))).drop (1+yn)=zaw ((zi P).drop (k+1)):=by
      rw [HYN.out,Nat.add_comm,List.drop_succ_cons,List.drop_append_of_le_length (Nat.le_refl _),List.drop_length,List.nil_append]
     rw [e] at h1
     exact h1)
    have hnc2:1+yn≤cr:=by have:=HNC.out;omega
    go_wp2_with fail;go_roundw
    case rel =>
     obtain⟨a',e',ha',hb'⟩:∃a':Addr,(if cr=1+yn then some ar else some (ar.add ((1+yn)*4)))=some a'∧(1+yn<cr→a'=ar.add ((1+yn)*4))∧a'.block<w.heap.size:=by
      split
      ·exact⟨ar,rfl,fun h=>by omega,hab⟩
      ·exact⟨_,rfl,fun _=>rfl,by rw [jI];exact hab⟩
     exact⟨k+1,E ++ [⟨(nm,true,zK yP),o6,n6,s6,t6,p6,A6,m6,c6⟩],_,some a',_,_,by rw [e'],by go_num,hlt,hi9 (HNX.out _ rfl),hi9 ⟨HNS2.out a' ha',fun b e=>by injection e with e;subst e;exact hb'⟩,HNL⟩
    case measure=>simp [intOf];omega
   ·have hke:k=nv:=by omega
    have HEQ:=hi9 (show kk = .fs (ofL (E.map Fe.y)) by
     have h1:=hE.out
     have h2:(zi P).length=nv:=by
      have:=congrArg List.length HVL.out
      rw [List.length_map,List.length_map] at this
      rw [HNV.out];omega
     rw [hke,←h2,List.take_length] at h1
     rw [HE.out,h1])
    have R4:=hi9 (XR4.out.but hL.out.H (fun e=>by injection e with e;omega));obtain⟨A7,cp7,hv',hfat,hle,hcm⟩:=hL.out.F.fat;have hlen:(ofL (E.map Fe.y)).len=E.length:=by rw [zfY,List.length_map]
    rw [←hlen] at hv' hle;obtain⟨nl,hnl⟩:∃nl,nl=(ofL (E.map Fe.y)).len:=⟨_,rfl⟩
    rw [←hnl] at hv' hle;subst hv';have HFA:=hi9 hfat;have HLE:=hi9 hle;have HCM:=hi9 hcm;have HNLL:=hi9 hnl;have HBW:=hi9 (show Below w.heap.size w wr from HB4.out.trans (jt hL.out.H (by omega) HB4.out.size));have HZ:=hi9 (show w.heap.size+3≤w4.heap.size from HZ4.out);clear hfat hle hcm hlen hnl hke;obtain⟨k0,k1,k2,k3,k4,k5,-,-,-,-,-,-⟩:=hL.out.X;obtain⟨z0,z1,z2,z3,z4,z5,r0,r1,r2,r3,r4,r5⟩:=R4.out;go_wp2_with fail;obtain⟨j0,j1,j2,j3,j4,j5,-,-,-,-,-,-⟩:=R4.out.set (.int .i64 46) (.int .i64 0) (.string ⟨#[]⟩) (.string ⟨#[]⟩) (.pointer none) (.slice A7 nl cp7);refine bodyPost_ret (v := .agg #[.int .i64 46,.int .i64 0,.string ⟨#[]⟩,.string ⟨#[]⟩,.pointer none,.slice A7 nl cp7]) (by simp [results,Tryz.results27,go_sem,j0,j1,j2,j3,j4,j5]) rfl ?_;rw [HEQ.out];refine⟨[.int .i64 46,.int .i64 0,.string ⟨#[]⟩,.string ⟨#[]⟩,.pointer none,.slice A7 nl cp7],rfl,⟨0,A7,cp7,by rw [HNLL.out];rfl,by rw [←HNLL.out];exact HLE.out,HCM.out,?_⟩,jk HBW.out (Nat.le_refl _) _ _ _ _ _ _⟩;exact(HFA.out.cong fun b hb=>jl wr w.heap.size _ _ _ _ _ _ (by have:=HZ.out;omega)).mono fun b hb _=>by have:=HZ.out;omega
theorem zg3:∀N:Nat,zpq N
 | 0=>fun A n c P w h _ _ hV=>absurd hV.pos (by omega)
 | N+1=>fun A n c P w h h2 hns hV=>by
  by_cases h5:zk P=5
  ·exact zlF N (zg3 N) A n c P w h h2 hns hV h5
  ·by_cases h6:zk P=6
   ·exact zlI N (zg3 N) A n c P w h h2 hns hV h6
   ·exact zno A n c P w hns hV h5 h6
theorem Ns.kinds_Own{A1:Option Addr}{n1 c1:Nat}{V:List Nd}{w:World}(h:Ns w A1 n1 c1 V):
 Calls Tryz.prog 10 #[.slice A1 n1 c1] w fun e w'=>∃(A:Option Addr) (n c:Nat),e = .returned (.tuple #[.slice A n c,jE (zeE V)])∧Ns w' A n c (zkM V)∧Below w.heap.size w w':=by
 have C:=hi9 (zca h);by_cases h0:zD V=0
 ·obtain⟨hl,hV⟩:=zbf.1 h0;have HOK:=hi9 ((zc8 hV).nds (by have:=ziB hV;omega));have HFL:=hi9 (((zfR _).1 (zK V) (Nat.le_refl _)).2);have HSZ:=hi9 (show(zK V).sz≤400 by have:=ziB hV;omega);have HOE:=hi9 (show zeE V=if 200<(zK V).flat.length then 4 else 0 by unfold zeE;rw [if_pos h0]);have HON:=hi9 (show zkM V=if zeE V=0 then(zK V).flat else [] from rfl);have KO:=hi9 (fun w' (hb:Below w.heap.size w w')=>zg3 _ A1 n1 c1 V w' (Nat.le_refl _) hl (h.keep hb) hV);rw [h0,zr] at C;clear h h0 hl hV;go_enter Tryz.func10,Tryz.ntmps10;go_wp2_with fail;refine C.out.mono ?_;rintro e w1 ⟨rfl,b1⟩;have B1:=hi9 b1;clear b1;go_wp2_with fail;refine(KO.out w1 B1.out).mono ?_;rintro e w2 ⟨u,rfl,ku,b2⟩;have B2:=hi9 (B1.out.trans (b2.mono B1.out.size));have KF:=hi9 (zeD _ (zK V) u w2 (fun g=>g<w2.heap.size) w2.heap.size (.slice none 0 0) [] (Nat.le_refl _) (by have:=HFL.out;have:=HSZ.out;simp;omega) (ku.mono fun g _ hg=>hg) (zj9 _ _) (Nat.le_refl _) (fun g hg=>hg));obtain⟨o3,n3,s3,t3,p3,A3,m3,c3,rfl⟩:=jL ku;clear b2 KO ku;go_wp2_with fail;refine KF.out.mono ?_;rintro e w3 ⟨v3,rfl,r3,g3,-⟩;rw [List.nil_append] at r3;have B3:=hi9 (show Below w.heap.size w w3 from B2.out.trans ((show Below w2.heap.size w2 w3 from⟨g3.os,g3.tape,g3.output,g3.size,fun k hk=>g3.block k hk (fun e=>nomatch (show some k=none from e))⟩).mono B2.out.size));obtain⟨A4,n4,c4,rfl,hn4,N4⟩:=r3.ns HOK.out (by have:=HFL.out;have:=HSZ.out;omega);have NS:=hi9 N4;have HN4:=hi9 hn4;have hl4:n4≤800:=by have:=HFL.out;have:=HSZ.out;omega
  clear r3 g3 N4 KF hn4;by_cases hb:200<n4
  ·have HE:=hi9 (show zeE V=4 by rw [HOE.out,if_pos (by rw [←HN4.out];exact hb)]);have HV:=hi9 (show zkM V = [] by rw [HON.out,HE.out];rfl);go_wp2_with fail;go_ret2;exact⟨none,0,0,by rw [HE.out];rfl,by rw [HV.out];exact zfV _,B3.out⟩
  ·have HE:=hi9 (show zeE V=0 by rw [HOE.out,if_neg (by rw [←HN4.out];exact hb)]);have HV:=hi9 (show zkM V=(zK V).flat by rw [HON.out,HE.out];rfl);go_wp2_with fail;go_ret2;exact⟨A4,n4,c4,by rw [HE.out];rfl,by rw [HV.out];exact NS.out,B3.out⟩
 ·have HE:=hi9 (show zeE V=zD V by unfold zeE;rw [if_neg h0]);have HV:=hi9 (show zkM V = [] by unfold zkM;rw [HE.out,if_neg h0]);rw [zA h0] at C;clear h;go_enter Tryz.func10,Tryz.ntmps10;go_wp2_with fail;refine C.out.mono ?_;rintro e w1 ⟨rfl,b1⟩;have B1:=hi9 b1;clear b1;go_wp2_with fail;go_ret2;exact⟨none,0,0,by rw [HE.out,zA h0];rfl,by rw [HV.out];exact zfV _,B1.out⟩
end Go.Proofs.YtlkfaliomdbaoaaGreatDoor
