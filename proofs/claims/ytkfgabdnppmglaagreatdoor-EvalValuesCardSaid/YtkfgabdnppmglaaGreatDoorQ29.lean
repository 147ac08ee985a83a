/-
  Package bag: has, kept, both, Has, All, Any; slices.Equal, IndexFunc, ContainsFunc. Package bag: both, Has, All, Any. Package bag: Has, All, Any.
-/
import Derived.Test.YtkfgabdnppmglaaGreatDoorQ22
set_option maxRecDepth 100000
set_option maxHeartbeats 4000000
namespace Go.Wk
def zad(L:List (List Nd))(Q:List Nd):Bool:=L.any fun P=>decide (zu P Q=0)
end Go.Wk
namespace Go.Proofs.YtkfgabdnppmglaaGreatDoor
open Go.RowKit Go.Wk Go.Sort
theorem zk6(A B:Option Addr)(n m c d:Nat)(P Q:List Nd)(w:World)(hn:n=P.length)(hm:m=Q.length)(hln:n≤maxLen)(hlm:m≤maxLen)(hP:jp w A P)(hQ:jp w B Q):
 Calls Tryz.prog 155 #[.slice A n c,.slice B m d] w fun e w'=>e = .returned (.bool (decide (zu P Q=0)))∧Below w.heap.size w w':=by
 unfold maxLen at hln hlm;have HN:=hi9 hn;have HM:=hi9 hm;have HP:=hi9 hP;have HQ:=hi9 hQ;clear hn hm hP hQ;by_cases hl:n=m
 ·subst hl;go_enter Tryz.func155,Tryz.ntmps155;go_wp2_with fail;go_loopw [5,13] (fun _ i wr=>∃k:Nat,k≤n∧i = .int .i64 k∧Hid (zu P Q=zu (P.drop k) (Q.drop k))∧Hid (Below w.heap.size w wr)) (fun _ i _=>n-(intOf i).toNat)
  case atStart=>exact⟨0,Nat.zero_le _,rfl,rfl,Below.refl _ _⟩
  case round =>
   obtain⟨k,hk,rfl,hE,hB⟩:=hrel;by_cases hlt:k<n
   ·have h1:k<P.length:=by rw [←HN.out];exact hlt
    have h2:k<Q.length:=by rw [←HM.out];exact hlt
    obtain⟨a,rfl,a1,a2,a3,a4⟩:=(HP.out.keep hB.out) k P[k] (List.getElem?_eq_getElem h1);obtain⟨b,rfl,b1,b2,b3,b4⟩:=(HQ.out.keep hB.out) k Q[k] (List.getElem?_eq_getElem h2);by_cases he:P[k]=Q[k]
    ·have HE:=hi9 (hE.out.trans ((zbO h1 h2).trans (by rw [zh5 he,zx])));rw [he] at a1 a2 a3 a4;generalize Q[k]=y at *;clear he hE;go_wp2_with fail;go_quiet (fail);go_wp2_with fail;go_roundw
     case rel=>exact⟨k+1,by omega,by go_num,HE,hB.out.drewN _⟩
     case measure=>simp [intOf];omega
    ·have HE:=hi9 (zcl h1 h2 he hE.out);have hne:=fun w=>zn0 he w;generalize P[k]=x at *;generalize Q[k]=y at *;clear he hE;go_wp2_with fail;go_quiet (fail);go_wp2_with fail;go_ret;exact⟨zq (decide_eq_false HE.out).symm,hB.out.drewN _⟩
   ·have HE:=hi9 (hE.out.trans (zbu (by rw [←HN.out];omega) (by rw [←HM.out];omega)));clear hE;go_wp2_with fail;go_ret;exact⟨zq (decide_eq_true HE.out).symm,hB.out⟩
 ·have HE:=hi9 (show zu P Q≠0 from fun h=>hl (by rw [HN.out,HM.out,(zV.zero _ _).1 h]));have h3:(n != m)=true:=by rw [bne_iff_ne];exact hl
  clear hl;go_enter Tryz.func155,Tryz.ntmps155;go_wp2_with fail;go_ret;exact⟨zq (decide_eq_false HE.out).symm,Below.refl _ _⟩
theorem zqU(A B:Option Addr)(n m c d b:Nat)(P Q:List Nd)(w:World)(h:Ns w A n c P)(k:Ns w B m d Q)(hb:w.cell? ⟨b,0,none⟩=some (.slice B m d)):
 Calls Tryz.prog 154 #[.slice A n c,.pointer (some ⟨b,0,none⟩)] w fun e w'=>e = .returned (.bool (decide (zu P Q=0)))∧Below w.heap.size w w':=by
 have E:=hi9 (zk6 A B n m c d P Q w h.len k.len h.max k.max h.at_ k.at_);clear h k;go_enter Tryz.func154,Tryz.ntmps154;go_wp2_with fail;refine(E.out).mono ?_;rintro e w1 ⟨rfl,b1⟩;go_wp2_with fail;go_ret;exact⟨rfl,b1⟩
def zem(b:Bool)(w:World)(e:Ending)(w':World):Prop:=∃i:Int,e = .returned (.int .i64 i)∧decide (0≤i)=b∧Below w.heap.size w w'
theorem zhH{V:List Sl}{p:List Nd→Bool}{k:Nat}(h:k<V.length):(V.drop k).any (fun r=>p r.P)=(p V[k].P ||(V.drop (k+1)).any fun r=>p r.P):=by
 rw [List.drop_eq_getElem_cons h];rfl
theorem zq9(A:Option Addr)(n c:Nat)(V:List Sl)(p:List Nd→Bool)(b:Nat)(w:World)(hn:n=V.length)(hm:n≤maxLen)(hV:zag w A V)
 (C:Hid (∀(r:Sl) (w':World),Below w.heap.size w w'→Ns w' r.A r.n r.c r.P→Calls Tryz.prog 154 #[.slice r.A r.n r.c,.pointer (some ⟨b,0,none⟩)] w' fun e w''=>e = .returned (.bool (p r.P))∧Below w'.heap.size w' w'')):
 Calls Tryz.prog 156 #[.slice A n c,(.func (.func 154) #[] #[.pointer (some ⟨b,0,none⟩)])] w (zem (V.any fun r=>p r.P) w):=by
 unfold maxLen at hm;have HV:=hi9 hV;have HN:=hi9 hn;clear hV hn;go_enter Tryz.func156,Tryz.ntmps156;go_wp2_with fail;go_loopw [5,8] (fun _ i wr=>∃k:Nat,k≤n∧i = .int .i64 k∧Hid ((V.any fun r=>p r.P)=(V.drop k).any fun r=>p r.P)∧Hid (Below w.heap.size w wr)) (fun _ i _=>n-(intOf i).toNat)
 case atStart=>exact⟨0,Nat.zero_le _,rfl,rfl,Below.refl _ _⟩
 case round =>
  obtain⟨k,hk,rfl,hE,hB⟩:=hrel;by_cases hlt:k<n
  ·have h1:k<V.length:=by rw [←HN.out];exact hlt
   obtain⟨a,rfl,q,hs⟩:=(HV.out.keep hB.out).at h1;have HA:=hi9 (hE.out.trans (zhH h1));have Cr:=hi9 (C.out V[k] wr hB.out hs);generalize V[k]=r at *;clear hE hs;rcases hp:p r.P with _|_
   ·rw [hp] at Cr HA;clear hp;go_wp2_with fail;refine(Cr.out).mono ?_;rintro e w1 ⟨rfl,b1⟩;go_wp2_with fail;go_roundw
    case rel=>exact⟨k+1,by omega,by go_num,HA,bh hB b1⟩
    case measure=>simp [intOf];omega
   ·rw [hp] at Cr HA;clear hp;go_wp2_with fail;refine(Cr.out).mono ?_;rintro e w1 ⟨rfl,b1⟩;go_wp2_with fail;go_ret;exact⟨_,rfl,by rw [HA.out];simp,(bh hB b1).out⟩
  ·have HA:=hi9 (hE.out.trans (by rw [List.drop_of_length_le (by rw [←HN.out];omega)];rfl:_=false));clear hE;go_wp2_with fail;go_ret;exact⟨_,rfl,by rw [HA.out];rfl,hB.out⟩
theorem zlP(A:Option Addr)(n c:Nat)(V:List Sl)(p:List Nd→Bool)(b:Nat)(w:World)(hn:n=V.length)(hm:n≤maxLen)(hV:zag w A V)
 (C:Hid (∀(r:Sl) (w':World),Below w.heap.size w w'→Ns w' r.A r.n r.c r.P→Calls Tryz.prog 154 #[.slice r.A r.n r.c,.pointer (some ⟨b,0,none⟩)] w' fun e w''=>e = .returned (.bool (p r.P))∧Below w'.heap.size w' w'')):
 Calls Tryz.prog 135 #[.slice A n c,(.func (.func 154) #[] #[.pointer (some ⟨b,0,none⟩)])] w fun e w'=>e = .returned (.bool (V.any fun r=>p r.P))∧Below w.heap.size w w':=by
 have I:=hi9 (zq9 A n c V p b w hn hm hV C);unfold zem at I;clear hn hV C;go_enter Tryz.func135,Tryz.ntmps135;go_wp2_with fail;refine(I.out).mono ?_;rintro e w1 ⟨i,rfl,hi,b1⟩;have HI:=hi9 hi;clear hi;go_wp2_with fail;go_ret;exact⟨zq HI.out,b1⟩
theorem any_map(V:List Sl)(Q:List Nd):(V.any fun r=>decide (zu r.P Q=0))=zad (V.map Sl.P) Q:=by
 unfold zad;rw [List.any_map];rfl
theorem zlh(A B:Option Addr)(n m c d:Nat)(V:List Sl)(Q:List Nd)(w:World)(hn:n=V.length)(hm:n≤maxLen)(hV:zag w A V)(k:Ns w B m d Q):
 Calls Tryz.prog 132 #[.slice A n c,.slice B m d] w fun e w'=>e = .returned (.bool (zad (V.map Sl.P) Q))∧Below w.heap.size w w':=by
 have K:=hi9 (zlP A n c V (fun P=>decide (zu P Q=0)) w.heap.size (w.alloc (.cells #[.slice B m d] 25)) hn hm (hV.keep (zb w _))
  (hi9 fun r w' hb hr=>zqU r.A B r.n m r.c d w.heap.size r.P Q w' hr ((k.keep (zb w _)).keep hb) (za hb (by simp))))
 rw [any_map] at K;clear hn hV k;go_enter Tryz.func132,Tryz.ntmps132;go_wp2_with fail;refine(K.out).mono ?_;rintro e w1 ⟨rfl,b1⟩;go_wp2_with fail;go_ret;exact⟨rfl,zy b1⟩
theorem zp5(A:Option Addr)(n c:Nat)(V:List Sl)(p:List Nd→Bool)(A0:Option Addr)(n0 c0:Nat)(w:World)(hn:n=V.length)(hm:n≤maxLen)(hV:zag w A V)
 (C:Hid (∀(r:Sl) (w':World),Below w.heap.size w w'→Ns w' r.A r.n r.c r.P→Calls Tryz.prog 132 #[.slice A0 n0 c0,.slice r.A r.n r.c] w' fun e w''=>e = .returned (.bool (p r.P))∧Below w'.heap.size w' w'')):
 Calls Tryz.prog 156 #[.slice A n c,(.func (.func 132) #[.slice A0 n0 c0] #[])] w (zem (V.any fun r=>p r.P) w):=by
 unfold maxLen at hm;have HV:=hi9 hV;have HN:=hi9 hn;clear hV hn;go_enter Tryz.func156,Tryz.ntmps156;go_wp2_with fail;go_loopw [5,8] (fun _ i wr=>∃k:Nat,k≤n∧i = .int .i64 k∧Hid ((V.any fun r=>p r.P)=(V.drop k).any fun r=>p r.P)∧Hid (Below w.heap.size w wr)) (fun _ i _=>n-(intOf i).toNat)
 case atStart=>exact⟨0,Nat.zero_le _,rfl,rfl,Below.refl _ _⟩
 case round =>
  obtain⟨k,hk,rfl,hE,hB⟩:=hrel;by_cases hlt:k<n
  ·have h1:k<V.length:=by rw [←HN.out];exact hlt
   obtain⟨a,rfl,q,hs⟩:=(HV.out.keep hB.out).at h1;have HA:=hi9 (hE.out.trans (zhH h1));have Cr:=hi9 (C.out V[k] wr hB.out hs);generalize V[k]=r at *;clear hE hs;rcases hp:p r.P with _|_
   ·rw [hp] at Cr HA;clear hp;go_wp2_with fail;refine(Cr.out).mono ?_;rintro e w1 ⟨rfl,b1⟩;go_wp2_with fail;go_roundw
    case rel=>exact⟨k+1,by omega,by go_num,HA,bh hB b1⟩
    case measure=>simp [intOf];omega
   ·rw [hp] at Cr HA;clear hp;go_wp2_with fail;refine(Cr.out).mono ?_;rintro e w1 ⟨rfl,b1⟩;go_wp2_with fail;go_ret;exact⟨_,rfl,by rw [HA.out];simp,(bh hB b1).out⟩
  ·have HA:=hi9 (hE.out.trans (by rw [List.drop_of_length_le (by rw [←HN.out];omega)];rfl:_=false));clear hE;go_wp2_with fail;go_ret;exact⟨_,rfl,by rw [HA.out];rfl,hB.out⟩
theorem zkl(A:Option Addr)(n c:Nat)(V:List Sl)(p:List Nd→Bool)(A0:Option Addr)(n0 c0:Nat)(w:World)(hn:n=V.length)(hm:n≤maxLen)(hV:zag w A V)
 (C:Hid (∀(r:Sl) (w':World),Below w.heap.size w w'→Ns w' r.A r.n r.c r.P→Calls Tryz.prog 132 #[.slice A0 n0 c0,.slice r.A r.n r.c] w' fun e w''=>e = .returned (.bool (p r.P))∧Below w'.heap.size w' w'')):
 Calls Tryz.prog 135 #[.slice A n c,(.func (.func 132) #[.slice A0 n0 c0] #[])] w fun e w'=>e = .returned (.bool (V.any fun r=>p r.P))∧Below w.heap.size w w':=by
 have I:=hi9 (zp5 A n c V p A0 n0 c0 w hn hm hV C);unfold zem at I;clear hn hV C;go_enter Tryz.func135,Tryz.ntmps135;go_wp2_with fail;refine(I.out).mono ?_;rintro e w1 ⟨i,rfl,hi,b1⟩;have HI:=hi9 hi;clear hi;go_wp2_with fail;go_ret;exact⟨zq HI.out,b1⟩
theorem zrX(A:Option Addr)(n c:Nat)(V:List Sl)(p:List Nd→Bool)(A0:Option Addr)(n0 c0:Nat)(w:World)(hn:n=V.length)(hm:n≤100000)(hV:zag w A V)
 (C:Hid (∀(r:Sl) (w':World),Below w.heap.size w w'→Ns w' r.A r.n r.c r.P→Calls Tryz.prog 132 #[.slice A0 n0 c0,.slice r.A r.n r.c] w' fun e w''=>e = .returned (.bool (p r.P))∧Below w'.heap.size w' w'')):
 Calls Tryz.prog 134 #[.slice A n c,(.func (.func 132) #[.slice A0 n0 c0] #[])] w fun e w'=>∃v,e = .returned v∧zT w' w.heap.size v (V.filter fun r=>p r.P)∧Below w.heap.size w w':=by
 obtain⟨i0,hi,hz0,hz1,hz2⟩:=info_parts zcP;have HV:=hi9 hV;have HN:=hi9 hn;clear hV hn;go_enter Tryz.func134,Tryz.ntmps134;go_wp2_with fail;go_loopw [5,7,10] (fun v _ i wr=>∃(k:Nat) (U:List Sl),k≤n∧i = .int .i64 k∧U.length≤k∧Hid ((V.filter fun r=>p r.P)=U ++((V.drop k).filter fun r=>p r.P))∧Hid (zT wr w.heap.size v U)∧Hid (Below w.heap.size w wr)) (fun _ _ i _=>n-(intOf i).toNat)
 case atStart=>exact⟨0,[],Nat.zero_le _,rfl,Nat.le_refl _,rfl,zT.nil _ _,Below.refl _ _⟩
 case round =>
  obtain⟨k,U,hk,rfl,hU,hE,hO,hB⟩:=hrel;by_cases hlt:k<n
  ·have h1:k<V.length:=by rw [←HN.out];exact hlt
   obtain⟨a,rfl,q,hs⟩:=(HV.out.keep hB.out).at h1;obtain⟨-,-,-,hs0⟩:=HV.out.at h1;have HS0:=hi9 hs0;have Cr:=hi9 (C.out V[k] wr hB.out hs);have HA:=hi9 (hE.out.trans (by rw [List.drop_eq_getElem_cons h1,List.filter_cons]:_=U ++(if p V[k].P=true then V[k] ::(V.drop (k+1)).filter (fun r=>p r.P) else(V.drop (k+1)).filter fun r=>p r.P)));generalize V[k]=r at *;clear hE hs hs0;rcases hp:p r.P with _|_
   ·rw [hp] at Cr HA;rw [if_neg (by simp)] at HA;clear hp;go_wp2_with fail;refine(Cr.out).mono ?_;rintro e w1 ⟨rfl,b1⟩;go_wp2_with fail;go_roundw
    case rel=>exact⟨k+1,U,by omega,by go_num,by omega,HA,hi9 (hO.out.keep b1),bh hB b1⟩
    case measure=>simp [intOf];omega
   ·rw [hp] at Cr HA;rw [if_pos rfl] at HA;clear hp;go_wp2_with fail;refine(Cr.out).mono ?_;rintro e w1 ⟨rfl,b1⟩;have B1:=bh hB b1;have O1:=hi9 (hO.out.keep b1);have N1:=hi9 (HS0.out.keep B1.out);have A1:=hi9 (show zaC r u5.ownBlock by
     intro h0 a' ea q'
     have:=zW O1.out.own a'.block q'
     have:=HS0.out.at_.lt h0 a' ea
     omega)
    have hsz1:=B1.out.size;clear b1 hO hB q;go_wp2_with (at_builtin;refine wpList_append_own_at _ rfl _ _ 181 rfl w.heap.size 25 i0 _ 1 24 Tryz.underlying181 hi hz0 hz1 hz2 rfl (by decide) _ U.length (U.map Sl.v) rfl (O1.out.own.alloc _) ⟨_,0,none⟩ 1 1 [.slice r.A r.n r.c] rfl rfl (cell_one_new _ _ _) (by intro u hu;simp only [List.mem_cons,List.not_mem_nil,or_false] at hu;subst hu;rfl) ?c1 ?c2 ?c3 ?_)
    case c1=>unfold maxLen;omega
    case c2=>omega
    case c3=>simp;omega
    intro v1 w2 hown hgrow _ hat;have B2:=hi9 ((B1.out.alloc B1.out.size _).grown hgrow (by simp;omega) (fun g hg=>by have:=zW O1.out.own g hg;omega));have O2:=hi9 (O1.out.snoc (r:=r) N1.out A1.out hown hgrow (by simpa using hat));have HA2:=hi9 (HA.out.trans (show _=(U ++ [r])++((V.drop (k+1)).filter fun r=>p r.P) by simp));have hl2:(U ++ [r]).length≤k+1:=by simp;omega
    clear hown hgrow hat O1 N1 A1 HA B1;go_wp2_with fail;go_roundw
    case rel=>exact⟨k+1,U ++ [r],by omega,by go_num,hl2,HA2,O2,B2⟩
    case measure=>simp [intOf];omega
  ·have HA:=hi9 (hE.out.trans (by rw [List.drop_of_length_le (by rw [←HN.out];omega)];simp:_=U));clear hE;go_wp2_with fail;go_ret;exact⟨_,rfl,by rw [HA.out];exact hO.out,hB.out⟩
end Go.Proofs.YtkfgabdnppmglaaGreatDoor
namespace Go.Wk
def ziv(P Q:List Nd):Int:=if zf P=5∧zf Q=5 then 0 else 2
def jM(P Q:List Nd):Int:=or2 (zc P) (or2 (zc Q) (ziv P Q))
theorem zdl{P Q:List Nd}:jM P Q=0↔zc P=0∧zc Q=0∧zf P=5∧zf Q=5:=by
 unfold jM or2 ziv;by_cases h1:zc P=0
 ·rw [if_pos h1];by_cases h2:zc Q=0
  ·rw [if_pos h2];by_cases h3:zf P=5∧zf Q=5
   ·rw [if_pos h3];exact⟨fun _=>⟨h1,h2,h3.1,h3.2⟩,fun _=>rfl⟩
   ·rw [if_neg h3];exact⟨fun h=>by omega,fun h=>absurd ⟨h.2.2.1,h.2.2.2⟩ h3⟩
  ·rw [if_neg h2];exact⟨fun h=>absurd h h2,fun h=>absurd h.2.1 h2⟩
 ·rw [if_neg h1];exact⟨fun h=>absurd h h1,fun h=>absurd h.1 h1⟩
theorem zjJ{P:List Nd}(h:zc P=0):(zf P=5∧zbj P=0)∨(zf P≠5∧zbj P=0)∨(zf P≠5∧zbj P=2):=by
 unfold zbj;rw [if_pos h];by_cases h5:zf P=5
 ·exact .inl ⟨h5,if_pos (.inl h5)⟩
 ·by_cases h6:zf P=6
  ·exact .inr (.inl ⟨h5,if_pos (.inr h6)⟩)
  ·exact .inr (.inr ⟨h5,if_neg (by omega)⟩)
end Go.Wk
namespace Go.Proofs.YtkfgabdnppmglaaGreatDoor
open Go.RowKit Go.Wk Go.Sort
def za3(w:World)(P Q:List Nd)(e:Ending)(w':World):Prop :=
 ∃(va vb:Value) (Va Vb:List Sl),e = .returned (.tuple #[va,vb,j3 (jM P Q)])∧zT w' w.heap.size va Va∧zT w' w.heap.size vb Vb∧(jM P Q=0→Va.map Sl.P=zl P∧Vb.map Sl.P=zl Q)∧
  (va.ownBlock=none∨va.ownBlock≠vb.ownBlock)∧(∀r∈Vb,zaC r va.ownBlock)∧Below w.heap.size w w'
theorem zc5{w w':World}{P Q:List Nd}{v:Value}(hv:v=j3 (jM P Q))(h0:jM P Q≠0)(hb:Below w.heap.size w w'):za3 w P Q (.returned (.tuple #[.slice none 0 0,.slice none 0 0,v])) w' :=
 ⟨_,_,[],[],by rw [hv],zT.nil _ _,zT.nil _ _,fun h=>absurd h h0,.inl rfl,(by intro r hr;cases hr),hb⟩
theorem zpo(A B:Option Addr)(n m c d:Nat)(P Q:List Nd)(w:World)(h:Ns w A n c P)(k:Ns w B m d Q)(h1:zc P≠0):
 Calls Tryz.prog 133 #[.slice A n c,.slice B m d] w (za3 w P Q):=by
 have i0:∀w,(Instr.index 234 (.agg #[.slice A n c,.slice B m d]) (.int .i64 0)).run Tryz.prog w = .ok (.slice A n c) w:=fun _=>by rfl
 have i1:∀w,(Instr.index 234 (.agg #[.slice A n c,.slice B m d]) (.int .i64 1)).run Tryz.prog w = .ok (.slice B m d) w:=fun _=>by rfl
 have K1:=hi9 (fun w' hb=>zU (h.keep (w':=w') hb));have K2:=hi9 (fun w' hb=>zU (k.keep (w':=w') hb));rw [zC h1] at K1;have HE:=hi9 (show jM P Q=zc P from jc h1 _);have HX:=hi9 (zC h1);have H1:=hi9 h1;clear h k h1 K2;go_enter Tryz.func133,Tryz.ntmps133;go_wp2_with fail;go_loopw [8,9,13] (fun _ _ i wr=>∃j:Nat,j≤0∧i = .int .i64 j∧Hid (Below w.heap.size w wr)) (fun _ _ i _=>2-(intOf i).toNat)
 case atStart=>exact⟨0,by omega,rfl,Below.refl _ _⟩
 case round =>
  obtain⟨j,hj,rfl,hB⟩:=hrel;obtain rfl:j=0:=by omega
  ·skip;go_wp2_with fail;refine(K1.out _ hB.out).mono ?_;rintro e w1 ⟨rfl,b1⟩;have B1:=bh hB b1;clear b1;go_wp2_with fail;go_ret3;exact zc5 (by rw [HE.out,HX.out];rfl) (by rw [HE.out];exact H1.out) B1.out
theorem zpF(A B:Option Addr)(n m c d:Nat)(P Q:List Nd)(w:World)(h:Ns w A n c P)(k:Ns w B m d Q)(h1:zc P=0)(h2:zc Q≠0):
 Calls Tryz.prog 133 #[.slice A n c,.slice B m d] w (za3 w P Q):=by
 have i0:∀w,(Instr.index 234 (.agg #[.slice A n c,.slice B m d]) (.int .i64 0)).run Tryz.prog w = .ok (.slice A n c) w:=fun _=>by rfl
 have i1:∀w,(Instr.index 234 (.agg #[.slice A n c,.slice B m d]) (.int .i64 1)).run Tryz.prog w = .ok (.slice B m d) w:=fun _=>by rfl
 have K1:=hi9 (fun w' hb=>zU (h.keep (w':=w') hb));have K2:=hi9 (fun w' hb=>zU (k.keep (w':=w') hb));rw [h1,zo] at K1;rw [zC h2] at K2;have HE:=hi9 (show jM P Q=zc Q by unfold jM;rw [h1,zx,jc h2]);have HX:=hi9 (zC h2);have H2:=hi9 h2;clear h k h1 h2;go_enter Tryz.func133,Tryz.ntmps133;go_wp2_with fail;go_loopw [8,9,13] (fun _ _ i wr=>∃j:Nat,j≤1∧i = .int .i64 j∧Hid (Below w.heap.size w wr)) (fun _ _ i _=>2-(intOf i).toNat)
 case atStart=>exact⟨0,by omega,rfl,Below.refl _ _⟩
 case round =>
  obtain⟨j,hj,rfl,hB⟩:=hrel;rcases (show j=0∨j=1 by omega) with rfl|rfl
  ·skip;go_wp2_with fail;refine(K1.out _ hB.out).mono ?_;rintro e w1 ⟨rfl,b1⟩;have B1:=bh hB b1;clear b1;go_wp2_with fail;go_roundw
   case rel=>exact⟨1,by omega,by go_num,B1⟩
   case measure=>simp [intOf]
  ·skip;go_wp2_with fail;refine(K2.out _ hB.out).mono ?_;rintro e w1 ⟨rfl,b1⟩;have B1:=bh hB b1;clear b1;go_wp2_with fail;go_ret3;exact zc5 (by rw [HE.out,HX.out];rfl) (by rw [HE.out];exact H2.out) B1.out
theorem zsC(A B:Option Addr)(n m c d:Nat)(P Q:List Nd)(w:World)(h:Ns w A n c P)(k:Ns w B m d Q)(h1:zc P=0)(h2:zc Q=0)(h5:zf P≠5)(hE:zbj P=0):
 Calls Tryz.prog 133 #[.slice A n c,.slice B m d] w (za3 w P Q):=by
 have i0:∀w,(Instr.index 234 (.agg #[.slice A n c,.slice B m d]) (.int .i64 0)).run Tryz.prog w = .ok (.slice A n c) w:=fun _=>by rfl
 have i1:∀w,(Instr.index 234 (.agg #[.slice A n c,.slice B m d]) (.int .i64 1)).run Tryz.prog w = .ok (.slice B m d) w:=fun _=>by rfl
 have K1:=hi9 (fun w' hb=>zU (h.keep (w':=w') hb));have K2:=hi9 (fun w' hb=>zU (k.keep (w':=w') hb));rw [h1,zo] at K1;rw [h2,zo] at K2;have hp1:=(zP.1 h1).2.pos;have hp2:=(zP.1 h2).2.pos;obtain⟨a,rfl,D⟩:=h.at_.nd hp1;obtain⟨b,rfl,E⟩:=k.at_.nd hp2;rw [show a.add (0*4)=a from rfl] at D;rw [show b.add (0*4)=b from rfl] at E;have hn1:0<n:=by rw [h.len];exact hp1
 have hn2:0<m:=by rw [k.len];exact hp2
 have d0:=D.c0;have e0:=E.c0;rw [←jO hp1] at d0;rw [←jO hp2] at e0;have D0:=hi9 (fun w' (hb:Below w.heap.size w w')=>za hb d0);have E0:=hi9 (fun w' (hb:Below w.heap.size w w')=>za hb e0);have T1:=hi9 (fun w' hb=>zap _ n c P w' (h.keep (w':=w') hb));have T2:=hi9 (fun w' hb=>zap _ m d Q w' (k.keep (w':=w') hb));unfold zbr at T1;rw [hE,zo] at T1;skip;skip;have HE:=hi9 (show jM P Q=2 by unfold jM ziv;rw [h1,h2,zx,zx,if_neg (fun q=>h5 q.1)]);have g5:(zf P != 5)=true:=by rw [bne_iff_ne];exact h5
 skip;clear h k h1 h2 h5 hE hp1 hp2 D E d0 e0 E0 T2;go_enter Tryz.func133,Tryz.ntmps133;go_wp2_with fail;go_loopw [8,9,13] (fun _ _ i wr=>∃j:Nat,j≤2∧i = .int .i64 j∧Hid (Below w.heap.size w wr)) (fun _ _ i _=>2-(intOf i).toNat)
 case atStart=>exact⟨0,by omega,rfl,Below.refl _ _⟩
 case round =>
  obtain⟨j,hj,rfl,hB⟩:=hrel;rcases (show j=0∨j=1∨j=2 by omega) with rfl|rfl|rfl
  ·skip;go_wp2_with fail;refine(K1.out _ hB.out).mono ?_;rintro e w1 ⟨rfl,b1⟩;have B1:=bh hB b1;clear b1;go_wp2_with fail;go_roundw
   case rel=>exact⟨1,by omega,by go_num,B1⟩
   case measure=>simp [intOf]
  ·skip;go_wp2_with fail;refine(K2.out _ hB.out).mono ?_;rintro e w1 ⟨rfl,b1⟩;have B1:=bh hB b1;clear b1;go_wp2_with fail;go_roundw
   case rel=>exact⟨2,by omega,by go_num,B1⟩
   case measure=>simp [intOf]
  ·go_wp2_with fail;refine(T1.out _ hB.out).mono ?_;rintro e w1 ⟨va,Va,rfl,hO1,hL1,hF1,b1⟩;have d1:=D0.out _ (hB.out.trans (b1.mono hB.out.size));have B1:=bh hB b1;clear b1 hB hO1 hL1 hF1;go_wp2_with fail;go_ret3;exact zc5 (by rw [HE.out];rfl) (by rw [HE.out];omega) B1.out
theorem zrO(A B:Option Addr)(n m c d:Nat)(P Q:List Nd)(w:World)(h:Ns w A n c P)(k:Ns w B m d Q)(h1:zc P=0)(h2:zc Q=0)(h5:zf P≠5)(hE:zbj P=2):
 Calls Tryz.prog 133 #[.slice A n c,.slice B m d] w (za3 w P Q):=by
 have i0:∀w,(Instr.index 234 (.agg #[.slice A n c,.slice B m d]) (.int .i64 0)).run Tryz.prog w = .ok (.slice A n c) w:=fun _=>by rfl
 have i1:∀w,(Instr.index 234 (.agg #[.slice A n c,.slice B m d]) (.int .i64 1)).run Tryz.prog w = .ok (.slice B m d) w:=fun _=>by rfl
 have K1:=hi9 (fun w' hb=>zU (h.keep (w':=w') hb));have K2:=hi9 (fun w' hb=>zU (k.keep (w':=w') hb));rw [h1,zo] at K1;rw [h2,zo] at K2;have hp1:=(zP.1 h1).2.pos;have hp2:=(zP.1 h2).2.pos;obtain⟨a,rfl,D⟩:=h.at_.nd hp1;obtain⟨b,rfl,E⟩:=k.at_.nd hp2;rw [show a.add (0*4)=a from rfl] at D;rw [show b.add (0*4)=b from rfl] at E;have hn1:0<n:=by rw [h.len];exact hp1
 have hn2:0<m:=by rw [k.len];exact hp2
 have d0:=D.c0;have e0:=E.c0;rw [←jO hp1] at d0;rw [←jO hp2] at e0;have D0:=hi9 (fun w' (hb:Below w.heap.size w w')=>za hb d0);have E0:=hi9 (fun w' (hb:Below w.heap.size w w')=>za hb e0);have T1:=hi9 (fun w' hb=>zap _ n c P w' (h.keep (w':=w') hb));have T2:=hi9 (fun w' hb=>zap _ m d Q w' (k.keep (w':=w') hb));unfold zbr at T1;rw [hE] at T1;have HT:j3 2 = .iface 28 (.int .i64 2):=rfl;rw [HT] at T1;have HE:=hi9 (show jM P Q=2 by unfold jM ziv;rw [h1,h2,zx,zx,if_neg (fun q=>h5 q.1)]);have g5:(zf P != 5)=true:=by rw [bne_iff_ne];exact h5
 clear HT;clear h k h1 h2 h5 hE hp1 hp2 D E d0 e0 E0 T2;go_enter Tryz.func133,Tryz.ntmps133;go_wp2_with fail;go_loopw [8,9,13] (fun _ _ i wr=>∃j:Nat,j≤2∧i = .int .i64 j∧Hid (Below w.heap.size w wr)) (fun _ _ i _=>2-(intOf i).toNat)
 case atStart=>exact⟨0,by omega,rfl,Below.refl _ _⟩
 case round =>
  obtain⟨j,hj,rfl,hB⟩:=hrel;rcases (show j=0∨j=1∨j=2 by omega) with rfl|rfl|rfl
  ·skip;go_wp2_with fail;refine(K1.out _ hB.out).mono ?_;rintro e w1 ⟨rfl,b1⟩;have B1:=bh hB b1;clear b1;go_wp2_with fail;go_roundw
   case rel=>exact⟨1,by omega,by go_num,B1⟩
   case measure=>simp [intOf]
  ·skip;go_wp2_with fail;refine(K2.out _ hB.out).mono ?_;rintro e w1 ⟨rfl,b1⟩;have B1:=bh hB b1;clear b1;go_wp2_with fail;go_roundw
   case rel=>exact⟨2,by omega,by go_num,B1⟩
   case measure=>simp [intOf]
  ·go_wp2_with fail;refine(T1.out _ hB.out).mono ?_;rintro e w1 ⟨va,Va,rfl,hO1,hL1,hF1,b1⟩;have d1:=D0.out _ (hB.out.trans (b1.mono hB.out.size));have B1:=bh hB b1;clear b1 hB hO1 hL1 hF1;go_wp2_with fail;go_ret3;exact zc5 (by rw [HE.out];rfl) (by rw [HE.out];omega) B1.out
theorem zq1(A B:Option Addr)(n m c d:Nat)(P Q:List Nd)(w:World)(h:Ns w A n c P)(k:Ns w B m d Q)(h1:zc P=0)(h2:zc Q=0)(h5:zf P=5)(hE1:zbj P=0)(h6:zf Q≠5)(hE:zbj Q=0):
 Calls Tryz.prog 133 #[.slice A n c,.slice B m d] w (za3 w P Q):=by
 have i0:∀w,(Instr.index 234 (.agg #[.slice A n c,.slice B m d]) (.int .i64 0)).run Tryz.prog w = .ok (.slice A n c) w:=fun _=>by rfl
 have i1:∀w,(Instr.index 234 (.agg #[.slice A n c,.slice B m d]) (.int .i64 1)).run Tryz.prog w = .ok (.slice B m d) w:=fun _=>by rfl
 have K1:=hi9 (fun w' hb=>zU (h.keep (w':=w') hb));have K2:=hi9 (fun w' hb=>zU (k.keep (w':=w') hb));rw [h1,zo] at K1;rw [h2,zo] at K2;have hp1:=(zP.1 h1).2.pos;have hp2:=(zP.1 h2).2.pos;obtain⟨a,rfl,D⟩:=h.at_.nd hp1;obtain⟨b,rfl,E⟩:=k.at_.nd hp2;rw [show a.add (0*4)=a from rfl] at D;rw [show b.add (0*4)=b from rfl] at E;have hn1:0<n:=by rw [h.len];exact hp1
 have hn2:0<m:=by rw [k.len];exact hp2
 have d0:=D.c0;have e0:=E.c0;rw [←jO hp1] at d0;rw [←jO hp2] at e0;have D0:=hi9 (fun w' (hb:Below w.heap.size w w')=>za hb d0);have E0:=hi9 (fun w' (hb:Below w.heap.size w w')=>za hb e0);have T1:=hi9 (fun w' hb=>zap _ n c P w' (h.keep (w':=w') hb));have T2:=hi9 (fun w' hb=>zap _ m d Q w' (k.keep (w':=w') hb));unfold zbr at T1 T2;rw [hE1,zo] at T1;rw [hE,zo] at T2;skip;skip;have HE:=hi9 (show jM P Q=2 by unfold jM ziv;rw [h1,h2,zx,zx,if_neg (fun q=>h6 q.2)]);have g5:(zf Q != 5)=true:=by rw [bne_iff_ne];exact h6
 rw [h5] at D0;skip;clear h k h1 h2 h5 h6 hE hE1 hp1 hp2 D E d0 e0;go_enter Tryz.func133,Tryz.ntmps133;go_wp2_with fail;go_loopw [8,9,13] (fun _ _ i wr=>∃j:Nat,j≤2∧i = .int .i64 j∧Hid (Below w.heap.size w wr)) (fun _ _ i _=>2-(intOf i).toNat)
 case atStart=>exact⟨0,by omega,rfl,Below.refl _ _⟩
 case round =>
  obtain⟨j,hj,rfl,hB⟩:=hrel;rcases (show j=0∨j=1∨j=2 by omega) with rfl|rfl|rfl
  ·skip;go_wp2_with fail;refine(K1.out _ hB.out).mono ?_;rintro e w1 ⟨rfl,b1⟩;have B1:=bh hB b1;clear b1;go_wp2_with fail;go_roundw
   case rel=>exact⟨1,by omega,by go_num,B1⟩
   case measure=>simp [intOf]
  ·skip;go_wp2_with fail;refine(K2.out _ hB.out).mono ?_;rintro e w1 ⟨rfl,b1⟩;have B1:=bh hB b1;clear b1;go_wp2_with fail;go_roundw
   case rel=>exact⟨2,by omega,by go_num,B1⟩
   case measure=>simp [intOf]
  ·go_wp2_with fail;refine(T1.out _ hB.out).mono ?_;rintro e w1 ⟨va,Va,rfl,hO1,hL1,hF1,b1⟩;have d1:=D0.out _ (hB.out.trans (b1.mono hB.out.size));have B1:=bh hB b1;have O1:=hi9 hO1;have L1:=hi9 hL1;have z1:=hB.out.size;clear b1 hB hO1 hL1 hF1;go_wp2_with fail;refine(T2.out _ B1.out).mono ?_;rintro e w2 ⟨vb,Vb,rfl,hO2,hL2,hF2,b2⟩;have e1:=E0.out _ (B1.out.trans (b2.mono B1.out.size));have B2:=bh B1 b2;clear b2 hO2 hL2 hF2 B1 O1 L1;go_wp2_with fail;go_ret3;exact zc5 (by rw [HE.out];rfl) (by rw [HE.out];omega) B2.out
theorem zsa(A B:Option Addr)(n m c d:Nat)(P Q:List Nd)(w:World)(h:Ns w A n c P)(k:Ns w B m d Q)(h1:zc P=0)(h2:zc Q=0)(h5:zf P=5)(hE1:zbj P=0)(h6:zf Q≠5)(hE:zbj Q=2):
 Calls Tryz.prog 133 #[.slice A n c,.slice B m d] w (za3 w P Q):=by
 have i0:∀w,(Instr.index 234 (.agg #[.slice A n c,.slice B m d]) (.int .i64 0)).run Tryz.prog w = .ok (.slice A n c) w:=fun _=>by rfl
 have i1:∀w,(Instr.index 234 (.agg #[.slice A n c,.slice B m d]) (.int .i64 1)).run Tryz.prog w = .ok (.slice B m d) w:=fun _=>by rfl
 have K1:=hi9 (fun w' hb=>zU (h.keep (w':=w') hb));have K2:=hi9 (fun w' hb=>zU (k.keep (w':=w') hb));rw [h1,zo] at K1;rw [h2,zo] at K2;have hp1:=(zP.1 h1).2.pos;have hp2:=(zP.1 h2).2.pos;obtain⟨a,rfl,D⟩:=h.at_.nd hp1;obtain⟨b,rfl,E⟩:=k.at_.nd hp2;rw [show a.add (0*4)=a from rfl] at D;rw [show b.add (0*4)=b from rfl] at E;have hn1:0<n:=by rw [h.len];exact hp1
 have hn2:0<m:=by rw [k.len];exact hp2
 have d0:=D.c0;have e0:=E.c0;rw [←jO hp1] at d0;rw [←jO hp2] at e0;have D0:=hi9 (fun w' (hb:Below w.heap.size w w')=>za hb d0);have E0:=hi9 (fun w' (hb:Below w.heap.size w w')=>za hb e0);have T1:=hi9 (fun w' hb=>zap _ n c P w' (h.keep (w':=w') hb));have T2:=hi9 (fun w' hb=>zap _ m d Q w' (k.keep (w':=w') hb));unfold zbr at T1 T2;rw [hE1,zo] at T1;rw [hE] at T2;have HT:j3 2 = .iface 28 (.int .i64 2):=rfl;rw [HT] at T2;have HE:=hi9 (show jM P Q=2 by unfold jM ziv;rw [h1,h2,zx,zx,if_neg (fun q=>h6 q.2)]);have g5:(zf Q != 5)=true:=by rw [bne_iff_ne];exact h6
 rw [h5] at D0;clear HT;clear h k h1 h2 h5 h6 hE hE1 hp1 hp2 D E d0 e0;go_enter Tryz.func133,Tryz.ntmps133;go_wp2_with fail;go_loopw [8,9,13] (fun _ _ i wr=>∃j:Nat,j≤2∧i = .int .i64 j∧Hid (Below w.heap.size w wr)) (fun _ _ i _=>2-(intOf i).toNat)
 case atStart=>exact⟨0,by omega,rfl,Below.refl _ _⟩
 case round =>
  obtain⟨j,hj,rfl,hB⟩:=hrel;rcases (show j=0∨j=1∨j=2 by omega) with rfl|rfl|rfl
  ·skip;go_wp2_with fail;refine(K1.out _ hB.out).mono ?_;rintro e w1 ⟨rfl,b1⟩;have B1:=bh hB b1;clear b1;go_wp2_with fail;go_roundw
   case rel=>exact⟨1,by omega,by go_num,B1⟩
   case measure=>simp [intOf]
  ·skip;go_wp2_with fail;refine(K2.out _ hB.out).mono ?_;rintro e w1 ⟨rfl,b1⟩;have B1:=bh hB b1;clear b1;go_wp2_with fail;go_roundw
   case rel=>exact⟨2,by omega,by go_num,B1⟩
   case measure=>simp [intOf]
  ·go_wp2_with fail;refine(T1.out _ hB.out).mono ?_;rintro e w1 ⟨va,Va,rfl,hO1,hL1,hF1,b1⟩;have d1:=D0.out _ (hB.out.trans (b1.mono hB.out.size));have B1:=bh hB b1;have O1:=hi9 hO1;have L1:=hi9 hL1;have z1:=hB.out.size;clear b1 hB hO1 hL1 hF1;go_wp2_with fail;refine(T2.out _ B1.out).mono ?_;rintro e w2 ⟨vb,Vb,rfl,hO2,hL2,hF2,b2⟩;have e1:=E0.out _ (B1.out.trans (b2.mono B1.out.size));have B2:=bh B1 b2;clear b2 hO2 hL2 hF2 B1 O1 L1;go_wp2_with fail;go_ret3;exact zc5 (by rw [HE.out];rfl) (by rw [HE.out];omega) B2.out
theorem ztf(A B:Option Addr)(n m c d:Nat)(P Q:List Nd)(w:World)(h:Ns w A n c P)(k:Ns w B m d Q)(h1:zc P=0)(h2:zc Q=0)(h5:zf P=5)(h6:zf Q=5):
 Calls Tryz.prog 133 #[.slice A n c,.slice B m d] w (za3 w P Q):=by
 have i0:∀w,(Instr.index 234 (.agg #[.slice A n c,.slice B m d]) (.int .i64 0)).run Tryz.prog w = .ok (.slice A n c) w:=fun _=>by rfl
 have i1:∀w,(Instr.index 234 (.agg #[.slice A n c,.slice B m d]) (.int .i64 1)).run Tryz.prog w = .ok (.slice B m d) w:=fun _=>by rfl
 have K1:=hi9 (fun w' hb=>zU (h.keep (w':=w') hb));have K2:=hi9 (fun w' hb=>zU (k.keep (w':=w') hb));rw [h1,zo] at K1;rw [h2,zo] at K2;have hp1:=(zP.1 h1).2.pos;have hp2:=(zP.1 h2).2.pos;obtain⟨a,rfl,D⟩:=h.at_.nd hp1;obtain⟨b,rfl,E⟩:=k.at_.nd hp2;rw [show a.add (0*4)=a from rfl] at D;rw [show b.add (0*4)=b from rfl] at E;have hn1:0<n:=by rw [h.len];exact hp1
 have hn2:0<m:=by rw [k.len];exact hp2
 have d0:=D.c0;have e0:=E.c0;rw [←jO hp1] at d0;rw [←jO hp2] at e0;have D0:=hi9 (fun w' (hb:Below w.heap.size w w')=>za hb d0);have E0:=hi9 (fun w' (hb:Below w.heap.size w w')=>za hb e0);have T1:=hi9 (fun w' hb=>zap _ n c P w' (h.keep (w':=w') hb));have T2:=hi9 (fun w' hb=>zap _ m d Q w' (k.keep (w':=w') hb));have hE1:zbj P=0:=by unfold zbj;rw [if_pos h1,if_pos (.inl h5)]
 have hE2:zbj Q=0:=by unfold zbj;rw [if_pos h2,if_pos (.inl h6)]
 have P1:=hi9 (show zb7 P=zl P by unfold zb7;rw [if_pos hE1,if_pos h5]);have P2:=hi9 (show zb7 Q=zl Q by unfold zb7;rw [if_pos hE2,if_pos h6]);unfold zbr at T1 T2;rw [hE1,zo] at T1;rw [hE2,zo] at T2;have HE:=hi9 (show jM P Q=0 from zdl.2 ⟨h1,h2,h5,h6⟩);rw [h5] at D0;rw [h6] at E0;clear h k h1 h2 h5 h6 hE1 hE2 hp1 hp2 D E d0 e0;go_enter Tryz.func133,Tryz.ntmps133;go_wp2_with fail;go_loopw [8,9,13] (fun _ _ i wr=>∃j:Nat,j≤2∧i = .int .i64 j∧Hid (Below w.heap.size w wr)) (fun _ _ i _=>2-(intOf i).toNat)
 case atStart=>exact⟨0,by omega,rfl,Below.refl _ _⟩
 case round =>
  obtain⟨j,hj,rfl,hB⟩:=hrel;rcases (show j=0∨j=1∨j=2 by omega) with rfl|rfl|rfl
  ·skip;go_wp2_with fail;refine(K1.out _ hB.out).mono ?_;rintro e w1 ⟨rfl,b1⟩;have B1:=bh hB b1;clear b1;go_wp2_with fail;go_roundw
   case rel=>exact⟨1,by omega,by go_num,B1⟩
   case measure=>simp [intOf]
  ·skip;go_wp2_with fail;refine(K2.out _ hB.out).mono ?_;rintro e w1 ⟨rfl,b1⟩;have B1:=bh hB b1;clear b1;go_wp2_with fail;go_roundw
   case rel=>exact⟨2,by omega,by go_num,B1⟩
   case measure=>simp [intOf]
  ·go_wp2_with fail;refine(T1.out _ hB.out).mono ?_;rintro e w1 ⟨va,Va,rfl,hO1,hL1,hF1,b1⟩;have d1:=D0.out _ (hB.out.trans (b1.mono hB.out.size));have B1:=bh hB b1;have O1:=hi9 hO1;have L1:=hi9 hL1;have z1:=hB.out.size;clear b1 hB hO1 hL1 hF1;go_wp2_with fail;refine(T2.out _ B1.out).mono ?_;rintro e w2 ⟨vb,Vb,rfl,hO2,hL2,hF2,b2⟩;have e1:=E0.out _ (B1.out.trans (b2.mono B1.out.size));have B2:=bh B1 b2;have O2:=hi9 (O1.out.keep b2);have O3:=hi9 (hO2.mono (B1.out.size));have L2:=hi9 hL2;have AB:=hi9 (show va.ownBlock=none∨va.ownBlock≠vb.ownBlock by
    rcases hv:va.ownBlock with _|g
    ·exact .inl rfl
    ·refine .inr (fun q=>?_)
     have:=zb4 O1.out.own g hv
     have:=zW hO2.own g q.symm
     omega)
   have AP:=hi9 (show∀r∈Vb,zaC r va.ownBlock from fun r hr _ a' ea q=>by
    have:=zb4 O1.out.own a'.block q
    have:=hF2 r hr a' ea
    omega)
   have M1:=hi9 (O2.out.mono z1);clear b2 hO2 hL2 hF2 O1 B1 O2;go_wp2_with fail;go_ret3;exact⟨va,vb,Va,Vb,by rw [HE.out];rfl,M1.out,O3.out,fun _=>⟨L1.out.trans P1.out,L2.out.trans P2.out⟩,AB.out,AP.out,B2.out⟩
theorem zl1(A B:Option Addr)(n m c d:Nat)(P Q:List Nd)(w:World)(h:Ns w A n c P)(k:Ns w B m d Q):Calls Tryz.prog 133 #[.slice A n c,.slice B m d] w (za3 w P Q):=by
 by_cases h1:zc P=0
 ·by_cases h2:zc Q=0
  ·rcases zjJ h1 with ⟨a1,a2⟩|⟨a1,a2⟩|⟨a1,a2⟩
   ·rcases zjJ h2 with ⟨b1,b2⟩|⟨b1,b2⟩|⟨b1,b2⟩
    ·exact ztf A B n m c d P Q w h k h1 h2 a1 b1
    ·exact zq1 A B n m c d P Q w h k h1 h2 a1 a2 b1 b2
    ·exact zsa A B n m c d P Q w h k h1 h2 a1 a2 b1 b2
   ·exact zsC A B n m c d P Q w h k h1 h2 a1 a2
   ·exact zrO A B n m c d P Q w h k h1 h2 a1 a2
  ·exact zpF A B n m c d P Q w h k h1 h2
 ·exact zpo A B n m c d P Q w h k h1
end Go.Proofs.YtkfgabdnppmglaaGreatDoor
namespace Go.Wk
def zc7(P Q:List Nd):Int:=or2 (zc P) (or2 (zc Q) (if zf P=5 then 0 else 2))
def zeo(P Q:List Nd):Bool:=decide (zc7 P Q=0)&& zad (zl P) Q
def zfa(P Q:List Nd):Bool:=decide (jM P Q=0)&& decide (((zl Q).filter fun x=>zad (zl P) x).length=(zl Q).length)
def zfY(P Q:List Nd):Bool:=decide (jM P Q=0)&&(zl Q).any fun x=>zad (zl P) x
theorem zjY{L:List (List Nd)}(h:∀Q∈L,IsV Q):L.length≤L.flatten.length:=by
 induction L with
 | nil=>simp
 | cons Q L ih =>
  have:=(h Q (by simp)).pos
  have:=ih (fun R hR=>h R (by simp [hR]))
  simp only [List.length_cons,List.flatten_cons,List.length_append]
  omega
theorem zaR{P:List Nd}(h:zc P=0)(h5:zf P=5):(zl P).length≤200:=by
 obtain⟨hl,hV⟩:=zP.1 h;obtain⟨e,-,h3,-⟩:=zdt hV h5;have:=congrArg List.length e;have:=zjY h3;simp only [List.length_cons] at *;omega
theorem zqs{P Q:List Nd}:zc7 P Q=0↔zc P=0∧zc Q=0∧zf P=5:=by
 unfold zc7 or2;by_cases h1:zc P=0
 ·rw [if_pos h1];by_cases h2:zc Q=0
  ·rw [if_pos h2];by_cases h3:zf P=5
   ·rw [if_pos h3];exact⟨fun _=>⟨h1,h2,h3⟩,fun _=>rfl⟩
   ·rw [if_neg h3];exact⟨fun h=>by omega,fun h=>absurd h.2.2 h3⟩
  ·rw [if_neg h2];exact⟨fun h=>absurd h h2,fun h=>absurd h.2.1 h2⟩
 ·rw [if_neg h1];exact⟨fun h=>absurd h h1,fun h=>absurd h.1 h1⟩
end Go.Wk
namespace Go.Proofs.YtkfgabdnppmglaaGreatDoor
open Go.RowKit Go.Wk Go.Sort
theorem zgj{w:World}{B:Nat}{v:Value}{V:List Sl}(h:zT w B v V):∃A c,v = .slice A V.length c∧zag w A V :=
 let ⟨A,c,h1,_,h2⟩:=h.at;⟨A,c,h1,h2⟩
theorem zhv(V:List Sl)(p:List Nd→Bool):(V.filter fun r=>p r.P).length=((V.map Sl.P).filter p).length:=by
 rw [List.filter_map,List.length_map];rfl
theorem zt7(A B:Option Addr)(n m c d:Nat)(P Q:List Nd)(w:World)(h:Ns w A n c P)(k:Ns w B m d Q):
 Calls Tryz.prog 89 #[.slice A n c,.slice B m d] w fun e w'=>e = .returned (.tuple #[.bool (zeo P Q),j3 (zc7 P Q)])∧Below w.heap.size w w':=by
 have K1:=hi9 (fun w' hb=>zU (h.keep (w':=w') hb));have K2:=hi9 (fun w' hb=>zU (k.keep (w':=w') hb));by_cases h1:zc P=0
 ·by_cases h2:zc Q=0
  ·rw [h1,zo] at K1;rw [h2,zo] at K2;have hp1:=(zP.1 h1).2.pos;obtain⟨a,rfl,D⟩:=h.at_.nd hp1;rw [show a.add (0*4)=a from rfl] at D;have hn1:0<n:=by rw [h.len];exact hp1
   have d0:=D.c0;rw [←jO hp1] at d0;by_cases h5:zf P=5
   ·have hE:zc7 P Q=0:=zqs.2 ⟨h1,h2,h5⟩;have HE:=hi9 hE;have HV:=hi9 (show zeo P Q=zad (zl P) Q by unfold zeo;rw [hE];simp);have hE1:zbj P=0:=by unfold zbj;rw [if_pos h1,if_pos (.inl h5)]
    have P1:=hi9 (show zb7 P=zl P by unfold zb7;rw [if_pos hE1,if_pos h5]);have T1:=hi9 (fun w' hb=>zap _ n c P w' (h.keep (w':=w') hb));unfold zbr at T1;rw [hE1,zo] at T1;have HK:=hi9 k;have HL:=hi9 (zaR h1 h5);rw [h5] at d0;have D0:=hi9 (fun w' (hb:Below w.heap.size w w')=>za hb d0);clear h k h1 h2 h5 hE hE1 hp1 D d0;go_enter Tryz.func89,Tryz.ntmps89;go_wp2_with fail;refine(K1.out _ (Below.refl _ _)).mono ?_;rintro e w1 ⟨rfl,b1⟩;have B1:=hi9 b1;clear b1;go_wp2_with fail;refine(K2.out _ B1.out).mono ?_;rintro e w2 ⟨rfl,b2⟩;have B2:=bh B1 b2;have d2:=D0.out _ B2.out;clear b2 B1;go_wp2_with fail;refine(T1.out _ B2.out).mono ?_;rintro e w3 ⟨va,Va,rfl,hO,hL,hF,b3⟩;have B3:=bh B2 b3;obtain⟨A2,c2,rfl,hS⟩:=zgj hO;have HS:=hi9 hS;have hVl:Va.length≤200:=by have:=congrArg List.length (hL.trans P1.out);have:=HL.out;simp only [List.length_map] at *;omega
    have HB:=hi9 (zlh A2 B Va.length m c2 d Va Q w3 rfl (by unfold maxLen;omega) hS (HK.out.keep B3.out));rw [hL.trans P1.out] at HB;clear hO hL hF b3 B2 d2 hS;go_wp2_with fail;refine(HB.out).mono ?_;rintro e w4 ⟨rfl,b4⟩;have B4:=bh B3 b4;clear b4 B3;go_wp2_with fail;go_ret2;exact⟨by rw [HV.out,HE.out];rfl,B4.out⟩
   ·have hE:zc7 P Q=2:=by unfold zc7;rw [h1,h2,zx,zx,if_neg h5]
    have HE:=hi9 hE;have HV:=hi9 (show zeo P Q=false by unfold zeo;rw [hE];rfl);have g5:(zf P != 5)=true:=by rw [bne_iff_ne];exact h5
    have D0:=hi9 (fun w' (hb:Below w.heap.size w w')=>za hb d0);clear h k h1 h2 h5 hE hp1 D d0;go_enter Tryz.func89,Tryz.ntmps89;go_wp2_with fail;refine(K1.out _ (Below.refl _ _)).mono ?_;rintro e w1 ⟨rfl,b1⟩;have B1:=hi9 b1;clear b1;go_wp2_with fail;refine(K2.out _ B1.out).mono ?_;rintro e w2 ⟨rfl,b2⟩;have B2:=bh B1 b2;have d2:=D0.out _ B2.out;clear b2 B1;go_wp2_with fail;go_ret2;exact⟨by rw [HV.out,HE.out];rfl,B2.out⟩
  ·have hE:zc7 P Q=zc Q:=by unfold zc7;rw [h1,zx,jc h2]
   have HV:=hi9 (show zeo P Q=false by unfold zeo;rw [hE,decide_eq_false h2];rfl);rw [h1,zo] at K1;rw [zC h2] at K2;have HX:=hi9 (zC h2);have HE:=hi9 hE;clear h k h1 h2 hE;go_enter Tryz.func89,Tryz.ntmps89;go_wp2_with fail;refine(K1.out _ (Below.refl _ _)).mono ?_;rintro e w1 ⟨rfl,b1⟩;have B1:=hi9 b1;clear b1;go_wp2_with fail;refine(K2.out _ B1.out).mono ?_;rintro e w2 ⟨rfl,b2⟩;have B2:=bh B1 b2;clear b2 B1;go_wp2_with fail;go_ret2;exact⟨by rw [HV.out,HE.out,HX.out];rfl,B2.out⟩
 ·have hE:zc7 P Q=zc P:=jc h1 _;have HV:=hi9 (show zeo P Q=false by unfold zeo;rw [hE,decide_eq_false h1];rfl);rw [zC h1] at K1;have HX:=hi9 (zC h1);have HE:=hi9 hE;clear h k h1 hE;go_enter Tryz.func89,Tryz.ntmps89;go_wp2_with fail;refine(K1.out _ (Below.refl _ _)).mono ?_;rintro e w1 ⟨rfl,b1⟩;go_wp2_with fail;go_ret2;exact⟨by rw [HV.out,HE.out,HX.out];rfl,b1⟩
theorem zs5(A B:Option Addr)(n m c d:Nat)(P Q:List Nd)(w:World)(h:Ns w A n c P)(k:Ns w B m d Q):
 Calls Tryz.prog 90 #[.slice A n c,.slice B m d] w fun e w'=>e = .returned (.tuple #[.bool (zfa P Q),j3 (jM P Q)])∧Below w.heap.size w w':=by
 have C:=hi9 (zl1 A B n m c d P Q w h k);unfold za3 at C;have hmf:∀(fn:Fn) (first cap:Array Value) (w:World),(Instr.makeFunc fn first cap).run Tryz.prog w = .ok (.func fn first cap) w:=fun _ _ _ _=>rfl;clear h k;by_cases h0:jM P Q=0
 ·have HE:=hi9 h0;have HV:=hi9 (show zfa P Q=decide (((zl Q).filter fun x=>zad (zl P) x).length=(zl Q).length) by unfold zfa;rw [h0];simp);obtain⟨h1,h2,h5,h6⟩:=zdl.1 h0;have L1:=hi9 (zaR h1 h5);have L2:=hi9 (zaR h2 h6);rw [h0,zo] at C;clear h0 h1 h2 h5 h6;go_enter Tryz.func90,Tryz.ntmps90;go_wp2_with fail;refine(C.out).mono ?_;rintro e w1 ⟨va,vb,Va,Vb,rfl,hA,hB,hL,-,-,b1⟩;obtain⟨e1,e2⟩:=hL (by first|trivial|rfl);obtain⟨A1,c1,rfl,hS1⟩:=zgj hA;obtain⟨A2,c2,rfl,hS2⟩:=zgj hB;have hl1:Va.length≤200:=by have:=congrArg List.length e1;have:=L1.out;simp only [List.length_map] at *;omega
  have hl2:Vb.length≤200:=by have:=congrArg List.length e2;have:=L2.out;simp only [List.length_map] at *;omega
  have KK:=hi9 (zrX A2 Vb.length c2 Vb (fun x=>zad (zl P) x) A1 Va.length c1 w1 rfl (by omega) hS2
   (hi9 fun r w' hb hr=>by rw [←e1];exact zlh A1 r.A Va.length r.n c1 r.c Va r.P w' rfl (by unfold maxLen;omega) (hS1.keep hb) hr))
  have E2:=hi9 e2;have B1:=hi9 b1;clear hA hB hL hS1 hS2 e1 e2 b1;go_wp2_with fail;refine KK.out.mono ?_;rintro e w2 ⟨v,rfl,hO,b2⟩;have B2:=bh B1 b2;obtain⟨A3,c3,rfl,-⟩:=zgj hO;have HLL:=hi9 (zhv Vb (fun x=>zad (zl P) x));have HLB:=hi9 (show Vb.length=(zl Q).length by have:=congrArg List.length E2.out;simpa using this);have HBB:=hi9 (show(((Vb.filter fun r=>zad (zl P) r.P).length:Int)==(Vb.length:Int))=zfa P Q by
   rw [HV.out,←E2.out,←HLL.out,List.length_map,Bool.eq_iff_iff,beq_iff_eq,decide_eq_true_iff];omega)
  clear hO b2 B1;go_wp2_with fail;go_ret2;exact⟨by rw [←HBB.out,HE.out];rfl,B2.out⟩
 ·have HE:=hi9 (zC h0);have HV:=hi9 (show zfa P Q=false by unfold zfa;rw [decide_eq_false h0];rfl);rw [zC h0] at C;clear h0;go_enter Tryz.func90,Tryz.ntmps90;go_wp2_with fail;refine(C.out).mono ?_;rintro e w1 ⟨va,vb,Va,Vb,rfl,hA,hB,hL,-,-,b1⟩;go_wp2_with fail;go_ret2;exact⟨by rw [HV.out,HE.out];rfl,b1⟩
theorem ztN(A B:Option Addr)(n m c d:Nat)(P Q:List Nd)(w:World)(h:Ns w A n c P)(k:Ns w B m d Q):
 Calls Tryz.prog 91 #[.slice A n c,.slice B m d] w fun e w'=>e = .returned (.tuple #[.bool (zfY P Q),j3 (jM P Q)])∧Below w.heap.size w w':=by
 have C:=hi9 (zl1 A B n m c d P Q w h k);unfold za3 at C;have hmf:∀(fn:Fn) (first cap:Array Value) (w:World),(Instr.makeFunc fn first cap).run Tryz.prog w = .ok (.func fn first cap) w:=fun _ _ _ _=>rfl;clear h k;by_cases h0:jM P Q=0
 ·have HE:=hi9 h0;have HV:=hi9 (show zfY P Q=(zl Q).any fun x=>zad (zl P) x by unfold zfY;rw [h0];simp);obtain⟨h1,h2,h5,h6⟩:=zdl.1 h0;have L1:=hi9 (zaR h1 h5);have L2:=hi9 (zaR h2 h6);rw [h0,zo] at C;clear h0 h1 h2 h5 h6;go_enter Tryz.func91,Tryz.ntmps91;go_wp2_with fail;refine(C.out).mono ?_;rintro e w1 ⟨va,vb,Va,Vb,rfl,hA,hB,hL,-,-,b1⟩;obtain⟨e1,e2⟩:=hL (by first|trivial|rfl);obtain⟨A1,c1,rfl,hS1⟩:=zgj hA;obtain⟨A2,c2,rfl,hS2⟩:=zgj hB;have hl1:Va.length≤200:=by have:=congrArg List.length e1;have:=L1.out;simp only [List.length_map] at *;omega
  have hl2:Vb.length≤200:=by have:=congrArg List.length e2;have:=L2.out;simp only [List.length_map] at *;omega
  have KK:=hi9 (zkl A2 Vb.length c2 Vb (fun x=>zad (zl P) x) A1 Va.length c1 w1 rfl (by unfold maxLen;omega) hS2
   (hi9 fun r w' hb hr=>by rw [←e1];exact zlh A1 r.A Va.length r.n c1 r.c Va r.P w' rfl (by unfold maxLen;omega) (hS1.keep hb) hr))
  have E2:=hi9 e2;have B1:=hi9 b1;have HVA:=hi9 (show(Vb.any fun r=>zad (zl P) r.P)=(zl Q).any fun x=>zad (zl P) x by rw [←e2,List.any_map];rfl);clear hA hB hL hS1 hS2 e1 e2 b1;go_wp2_with fail;refine KK.out.mono ?_;rintro e w2 ⟨rfl,b2⟩;have B2:=bh B1 b2;clear b2 B1;go_wp2_with fail;go_ret2;exact⟨by rw [HV.out,HE.out,←HVA.out];rfl,B2.out⟩
 ·have HE:=hi9 (zC h0);have HV:=hi9 (show zfY P Q=false by unfold zfY;rw [decide_eq_false h0];rfl);rw [zC h0] at C;clear h0;go_enter Tryz.func91,Tryz.ntmps91;go_wp2_with fail;refine(C.out).mono ?_;rintro e w1 ⟨va,vb,Va,Vb,rfl,hA,hB,hL,-,-,b1⟩;go_wp2_with fail;go_ret2;exact⟨by rw [HV.out,HE.out];rfl,b1⟩
end Go.Proofs.YtkfgabdnppmglaaGreatDoor
