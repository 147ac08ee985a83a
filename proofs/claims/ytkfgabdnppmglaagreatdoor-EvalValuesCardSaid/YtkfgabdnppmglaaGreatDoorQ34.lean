/-
  eval: the record of a value that has names. bits.Mul64 lies in Shelf. The contracts of num.Do, num.Neg and the reference's Done.
-/
import Derived.Test.YtkfgabdnppmglaaGreatDoorQ10
import Derived.Test.YtkfgabdnppmglaaGreatDoorQ16
import Derived.Test.YtkfgabdnppmglaaGreatDoorQ17
import Derived.Test.YtkfgabdnppmglaaGreatDoorQ33
set_option maxRecDepth 100000
set_option maxHeartbeats 2000000
namespace Go.Proofs.YtkfgabdnppmglaaGreatDoor
open Go.RowKit Go.Wk Go.Sort
def ze0(w:World)(r:Except Int (Option (List Nd)))(e:Ending)(w':World):Prop :=
 Below w.heap.size w w'∧match r with
  | .error k=>e = .panicked (zbh k)
  | .ok none=>e = .returned (.slice none 0 0)
  | .ok (some V)=>∃a n c,e = .returned (.slice (some a) n c)∧Ns w' (some a) n c V
theorem zkb{E:List En}{u:Ud}{k:Nat}(h:k<E.length):((E.drop k).find? fun x=>decide (x.u=u))=if E[k].u=u then some E[k] else(E.drop (k+1)).find? fun x=>decide (x.u=u):=by
 rw [List.drop_eq_getElem_cons h,List.find?_cons];by_cases g:E[k].u=u
 ·simp [g]
 ·simp [g]
theorem zrP{W w:World}{R:Nat}{k:Cx}{p:Int}(_h:jb W w R k p)(A:Option Addr)(n c:Nat)(V:List Nd)(hv:Ns w A n c V)(h0:0<V.length)(h6:zf V=6):
 Calls Tryz.prog 84 #[.pointer (some ⟨R,0,none⟩),.slice A n c] w (ze0 w (za5 k.E V)):=by
 have K:=hi9 (zcI A n c V 6 w hv h0);have f1:(zf V==6)=true:=beq_iff_eq.2 h6;rw [f1] at K;have HR:=hi9 (show za5 k.E V = .ok (some V) by unfold za5;rw [if_pos h6]);have HV:=hi9 hv;obtain⟨a,rfl,-⟩:=jm hv h0;rw [HR.out];clear hv h0 h6 f1;go_enter Tryz.func84,Tryz.ntmps84;go_wp2_with fail;refine K.out.mono ?_;rintro e w1 ⟨rfl,b1⟩;have B1:=hi9 b1;clear b1 K;go_wp2_with fail;go_ret;exact⟨B1.out,a,n,c,rfl,HV.out.keep B1.out⟩
theorem ztQ{W w:World}{R:Nat}{k:Cx}{p:Int}(_h:jb W w R k p)(A:Option Addr)(n c:Nat)(V:List Nd)(hv:Ns w A n c V)(h0:0<V.length)(h6:zf V≠6)(h4:zf V≠4):
 Calls Tryz.prog 84 #[.pointer (some ⟨R,0,none⟩),.slice A n c] w (ze0 w (za5 k.E V)):=by
 have K:=hi9 (zcI A n c V 6 w hv h0);have K2:=hi9 (fun w' hb=>zcI A n c V 4 w' (hv.keep (w':=w') hb) h0);have f1:(zf V==6)=false:=beq_eq_false_iff_ne.2 h6;have f2:(zf V==4)=false:=beq_eq_false_iff_ne.2 h4;rw [f1] at K;rw [f2] at K2;have HR:=hi9 (show za5 k.E V = .error 2 by unfold za5;rw [if_neg h6,if_neg h4]);rw [HR.out];clear hv h0 h6 h4 f1 f2;go_enter Tryz.func84,Tryz.ntmps84;go_wp2_with fail;refine K.out.mono ?_;rintro e w1 ⟨rfl,b1⟩;have B1:=hi9 b1;clear b1 K;go_wp2_with fail;refine(K2.out _ B1.out).mono ?_;rintro e w2 ⟨rfl,b2⟩;have B2:=bh B1 b2;clear b2 B1 K2;go_wp2_with fail;exact⟨rfl,B2.out,rfl⟩
theorem zsR{W w:World}{R:Nat}{k:Cx}{p:Int}(h:jb W w R k p)(A:Option Addr)(n c:Nat)(V:List Nd)(hv:Ns w A n c V)(h0:0<V.length)(h4:zf V=4):
 Calls Tryz.prog 84 #[.pointer (some ⟨R,0,none⟩),.slice A n c] w (ze0 w (za5 k.E V)):=by
 have K:=hi9 (zcI A n c V 6 w hv h0);have K2:=hi9 (fun w' hb=>zcI A n c V 4 w' (hv.keep (w':=w') hb) h0);have KU:=hi9 (fun w' hb=>ziy A n c V w' (hv.keep (w':=w') hb) h0);have f1:(zf V==6)=false:=by rw [h4];rfl
 have f2:(zf V==4)=true:=beq_iff_eq.2 h4;rw [f1] at K;rw [f2] at K2;have HR:=hi9 (show za5 k.E V = .ok ((k.E.find? fun x=>decide (x.u=jd V)).map En.P) by unfold za5;rw [if_neg (by rw [h4];decide),if_pos h4]);rw [HR.out];have HE:=hi9 h.cx.es;have HVA:=hi9 (fun x (hx:x∈k.E)=>zm (ze5 (zat.1 h.ok.ok.e).2.1 hx).1);have c0:=h.c0;have HLN:=hi9 HE.out.len;have hmx:=HE.out.max;unfold maxLen at hmx;unfold udV at KU;generalize jd V=u at *;clear hv h0 h4 f1 f2;go_enter Tryz.func84,Tryz.ntmps84;go_wp2_with fail;refine K.out.mono ?_;rintro e w1 ⟨rfl,b1⟩;have B1:=hi9 b1;clear b1 K;go_wp2_with fail;refine(K2.out _ B1.out).mono ?_;rintro e w2 ⟨rfl,b2⟩;have B2:=bh B1 b2;replace c0:=za B2.out c0;clear b2 B1 K2;go_wp2_with fail;go_loopw [21] (fun i wr=>∃j:Nat,i = .int .i64 j∧j≤k.en∧Hid ((k.E.find? fun x=>decide (x.u=u))=(k.E.drop j).find? fun x=>decide (x.u=u))∧Hid (Below w.heap.size w wr)) (fun i _=>k.en-(intOf i).toNat)
 case atStart=>exact⟨0,rfl,Nat.zero_le _,hi9 rfl,B2⟩
 case round =>
  obtain⟨j,rfl,hj,hF,hB⟩:=hrel;by_cases hlt:j<k.en
  ·have hjl:j<k.E.length:=by rw [←HLN.out];exact hlt
   obtain⟨a,hea,q0,q1,q2,q3,hok⟩:=(HE.out.keep hB.out).at_ j k.E[j] (List.getElem?_eq_getElem hjl);rw [hea];have hF2:=hF.out.trans (zkb hjl);have HV:=hi9 (HVA.out k.E[j] (List.getElem_mem hjl));generalize k.E[j]=x at *;have V0:=hi9 (zhf wr x 59);have B3:=bh hB (zb wr (.cells #[.string x.u.1,.string x.u.2,.slice x.UA x.un x.uc,.slice x.NA x.nn x.nc] 59));have HOK:=hi9 (hok.keep (zb wr (.cells #[.string x.u.1,.string x.u.2,.slice x.UA x.un x.uc,.slice x.NA x.nn x.nc] 59)));have HB3:=B3;obtain⟨w3,hw3⟩:∃w3,wr.alloc (.cells #[.string x.u.1,.string x.u.2,.slice x.UA x.un x.uc,.slice x.NA x.nn x.nc] 59)=w3:=⟨_,rfl⟩
   rw [hw3] at V0 B3 HOK HB3;have R1:=rq (w:=w3) (fun w' hb=>KU.out w' (B3.out.trans (hb.mono B3.out.size)));obtain⟨v0,v1,v2,v3⟩:=V0.out;have k0:=cell_regrown v0;have k1:=cell_regrown v1;by_cases he:x.u=u
   ·rw [if_pos he] at hF2;have HN:=hi9 hF2;have hb1:(x.u.1.toList==u.1.toList)=true:=by rw [he];exact beq_self_eq_true _
    have hb2:(x.u.2.toList==u.2.toList)=true:=by rw [he];exact beq_self_eq_true _
    clear he hF hF2;go_wp2_with fail;refine wp_region_quiet_below (by kernel_rfl) (by kernel_rfl) ?_
    repeat (first|go_big_quiet_step (with_reducible exact R1 _ _)|quiet_step (with_reducible exact R1 _ _))
    refine wpQuiet_nil ?_;intro w4 hw';have b4:=hi9 (show Below w3.heap.size w3 w4 by obtain⟨⟨d,os⟩,rfl⟩:=hw';exact below_regrown _ _ _);clear hw';have B4:=bh B3 b4.out;have V4:=hi9 (V0.out.keep b4.out);have HO4:=hi9 (HOK.out.keep b4.out);clear k0 k1 v0 v1 v2 v3 V0 HOK;obtain⟨v0,v1,v2,v3⟩:=V4.out;go_wp2_with fail;go_ret;rw [HN.out];obtain⟨a4,ha4,-⟩:=jm HO4.out.ns HV.out;refine⟨B4.out,a4,x.nn,x.nc,by rw [←ha4];rfl,by rw [←ha4];exact HO4.out.ns⟩
   ·rw [if_neg he] at hF2;have HN:=hi9 hF2;have hne:(x.u.1.toList==u.1.toList)=false∨((x.u.1.toList==u.1.toList)=true∧(x.u.2.toList==u.2.toList)=false):=zcq he;clear he hF hF2;rcases hne with h1|⟨h1,h2⟩
    all_goals
     go_wp2_with fail;refine wp_region_quiet_below (by kernel_rfl) (by kernel_rfl) ?_
     repeat (first|go_big_quiet_step (with_reducible exact R1 _ _)|quiet_step (with_reducible exact R1 _ _))
     refine wpQuiet_nil ?_;intro w4 hw';have b4:=hi9 (show Below w3.heap.size w3 w4 by obtain⟨⟨d,os⟩,rfl⟩:=hw';exact below_regrown _ _ _);clear hw';have B4:=bh B3 b4.out;clear k0 k1 v0 v1 v2 v3 V0;go_wp2_with fail;go_roundw
     case rel=>exact⟨j+1,by go_num,by omega,HN,B4⟩
     case measure=>simp [intOf];omega
  ·have HN:=hi9 (show(k.E.find? fun x=>decide (x.u=u))=none by
    rw [hF.out,List.drop_of_length_le (by rw [←HLN.out];omega)];rfl)
   clear hF
   go_wp2_with fail
   go_ret
   rw [HN.out]
   exact⟨hB.out,rfl⟩
theorem zgr{W w:World}{R:Nat}{k:Cx}{p:Int}(h:jb W w R k p)(A:Option Addr)(n c:Nat)(V:List Nd)(hv:Ns w A n c V)(h0:0<V.length):
 Calls Tryz.prog 84 #[.pointer (some ⟨R,0,none⟩),.slice A n c] w (ze0 w (za5 k.E V)):=by
 by_cases h6:zf V=6
 ·exact zrP h A n c V hv h0 h6
 by_cases h4:zf V=4
 ·exact zsR h A n c V hv h0 h4
 ·exact ztQ h A n c V hv h0 h6 h4
end Go.Proofs.YtkfgabdnppmglaaGreatDoor
namespace Go.Proofs
end Go.Proofs
namespace Go.Proofs.YtkfgabdnppmglaaGreatDoor
open Go.RowKit Go.Wk
theorem bits_Mul64(x y:Nat)(w:World)(hx:x<18446744073709551616)(hy:y<18446744073709551616):
 Calls Tryz.prog 136 #[.int .u64 x,.int .u64 y] w fun e w'=>e = .returned (.tuple #[.int .u64 (zo0 x y:Int),.int .u64 (zpj x y:Int)])∧w=w' :=
 (Tryz.bits_Mul64 x y hx hy w).mono fun _ _ ⟨h1,h2⟩=>⟨h1,h2.symm⟩
theorem zpf{a b:Int}(h:a=b):Ending.returned (.int .u64 a)= .returned (.int .u64 b):=by rw [h]
theorem jt(a:Int)(w:World)(h0 : -9223372036854775808≤a)(h1:a≤9223372036854775807):
 Calls Tryz.prog 137 #[.int .i64 a] w fun e w'=>e = .returned (.int .u64 (a.natAbs:Int))∧w=w':=by
 by_cases h:a<0
 ·have H:=hi9 (show IntKind.u64.wrap (-IntKind.u64.wrap a)=(a.natAbs:Int) by simp only [IntKind.wrap_u64];omega);go_enter Tryz.func137,Tryz.ntmps137;go_wp2;go_ret;exact⟨zpf H.out,rfl⟩
 ·have H:=hi9 (show a=(a.natAbs:Int) by omega);go_enter Tryz.func137,Tryz.ntmps137;go_wp2;go_ret;exact⟨zpf H.out,rfl⟩
theorem zoF(a b:Int)(w:World)(ha:I64 a)(hb:I64 b)(h:zak (a+b)=true):
 Calls Tryz.prog 92 #[.int .i64 17,.int .i64 a,.int .i64 b] w fun e w'=>e = .returned (.tuple #[.int .i64 (a+b),.nilIface])∧w=w':=by
 obtain⟨f1,f2⟩:=(zbJ _).1 h;obtain⟨a1,a2⟩:=ha;obtain⟨b1,b2⟩:=hb;clear h;by_cases q1:a<0 <;> by_cases q2:b<0 <;> by_cases q3:a+b<0 <;> first|(exfalso;omega)|skip
 all_goals
  go_enter Tryz.func92,Tryz.ntmps92;go_wp2;go_ret2;exact⟨rfl,rfl⟩
theorem znm(a b:Int)(w:World)(ha:I64 a)(hb:I64 b)(h:zak (a+b)=false):
 Calls Tryz.prog 92 #[.int .i64 17,.int .i64 a,.int .i64 b] w fun e w'=>e = .returned (.tuple #[.int .i64 0,j3 5])∧w=w':=by
 have hf:=(zfv _).1 h;obtain⟨a1,a2⟩:=ha;obtain⟨b1,b2⟩:=hb;clear h;rcases hf with hf|hf
 ·have q1:a<0:=by omega
  have q2:b<0:=by omega
  have q3:¬wrap64 (a+b)<0:=by unfold wrap64;omega
  clear hf;go_enter Tryz.func92,Tryz.ntmps92;go_wp2;go_ret2;exact⟨rfl,rfl⟩
 ·have q1:¬a<0:=by omega
  have q2:¬b<0:=by omega
  have q3:wrap64 (a+b)<0:=by unfold wrap64;omega
  clear hf;go_enter Tryz.func92,Tryz.ntmps92;go_wp2;go_ret2;exact⟨rfl,rfl⟩
theorem zos(a b:Int)(w:World)(ha:I64 a)(hb:I64 b)(h:zak (a-b)=true):
 Calls Tryz.prog 92 #[.int .i64 18,.int .i64 a,.int .i64 b] w fun e w'=>e = .returned (.tuple #[.int .i64 (a-b),.nilIface])∧w=w':=by
 obtain⟨f1,f2⟩:=(zbJ _).1 h;obtain⟨a1,a2⟩:=ha;obtain⟨b1,b2⟩:=hb;clear h;by_cases q1:a<0 <;> by_cases q2:b<0 <;> by_cases q3:a-b<0 <;> first|(exfalso;omega)|skip
 all_goals
  go_enter Tryz.func92,Tryz.ntmps92;go_wp2;go_ret2;exact⟨rfl,rfl⟩
theorem znl(a b:Int)(w:World)(ha:I64 a)(hb:I64 b)(h:zak (a-b)=false):
 Calls Tryz.prog 92 #[.int .i64 18,.int .i64 a,.int .i64 b] w fun e w'=>e = .returned (.tuple #[.int .i64 0,j3 5])∧w=w':=by
 have hf:=(zfv _).1 h;obtain⟨a1,a2⟩:=ha;obtain⟨b1,b2⟩:=hb;clear h;rcases hf with hf|hf
 ·have q1:a<0:=by omega
  have q2:¬b<0:=by omega
  have q3:¬wrap64 (a-b)<0:=by unfold wrap64;omega
  clear hf;go_enter Tryz.func92,Tryz.ntmps92;go_wp2;go_ret2;exact⟨rfl,rfl⟩
 ·have q1:¬a<0:=by omega
  have q2:b<0:=by omega
  have q3:wrap64 (a-b)<0:=by unfold wrap64;omega
  clear hf;go_enter Tryz.func92,Tryz.ntmps92;go_wp2;go_ret2;exact⟨rfl,rfl⟩
theorem zkd(a b:Int)(w:World)(ha:I64 a)(hb:I64 b)(h:zak (a+b)=true):
 Calls Tryz.prog 61 #[.int .i64 17,.int .i64 a,.int .i64 b] w fun e w'=>e = .returned (.tuple #[.int .i64 (a+b),.int .i64 0])∧w=w':=by
 obtain⟨f1,f2⟩:=(zbJ _).1 h;obtain⟨a1,a2⟩:=ha;obtain⟨b1,b2⟩:=hb;clear h;by_cases q2:b<0
 ·have q3:¬a<a+b:=by omega
  go_enter Tryz.func61,Tryz.ntmps61;go_wp2;go_ret2;exact⟨rfl,rfl⟩
 ·have q3:¬a+b<a:=by omega
  go_enter Tryz.func61,Tryz.ntmps61;go_wp2;go_ret2;exact⟨rfl,rfl⟩
theorem zi5(a b:Int)(w:World)(ha:I64 a)(hb:I64 b)(h:zak (a+b)=false):
 Calls Tryz.prog 61 #[.int .i64 17,.int .i64 a,.int .i64 b] w fun e w'=>e = .returned (.tuple #[.int .i64 0,.int .i64 5])∧w=w':=by
 have hf:=(zfv _).1 h;obtain⟨a1,a2⟩:=ha;obtain⟨b1,b2⟩:=hb;clear h;rcases hf with hf|hf
 ·have q1:a<0:=by omega
  have q2:b<0:=by omega
  have q3:a<wrap64 (a+b):=by unfold wrap64;omega
  clear hf;go_enter Tryz.func61,Tryz.ntmps61;go_wp2;go_ret2;exact⟨rfl,rfl⟩
 ·have q1:¬a<0:=by omega
  have q2:¬b<0:=by omega
  have q3:wrap64 (a+b)<a:=by unfold wrap64;omega
  clear hf;go_enter Tryz.func61,Tryz.ntmps61;go_wp2;go_ret2;exact⟨rfl,rfl⟩
theorem zeM(a b:Int)(w:World)(ha:I64 a)(hb:I64 b)(h:zak (a-b)=true):
 Calls Tryz.prog 61 #[.int .i64 18,.int .i64 a,.int .i64 b] w fun e w'=>e = .returned (.tuple #[.int .i64 (a-b),.int .i64 0])∧w=w':=by
 obtain⟨f1,f2⟩:=(zbJ _).1 h;obtain⟨a1,a2⟩:=ha;obtain⟨b1,b2⟩:=hb;clear h;by_cases q2:b<0
 ·have q3:¬a-b<a:=by omega
  go_enter Tryz.func61,Tryz.ntmps61;go_wp2;go_ret2;exact⟨rfl,rfl⟩
 ·have q3:¬a<a-b:=by omega
  go_enter Tryz.func61,Tryz.ntmps61;go_wp2;go_ret2;exact⟨rfl,rfl⟩
theorem zeq(a b:Int)(w:World)(ha:I64 a)(hb:I64 b)(h:zak (a-b)=false):
 Calls Tryz.prog 61 #[.int .i64 18,.int .i64 a,.int .i64 b] w fun e w'=>e = .returned (.tuple #[.int .i64 0,.int .i64 5])∧w=w':=by
 have hf:=(zfv _).1 h;obtain⟨a1,a2⟩:=ha;obtain⟨b1,b2⟩:=hb;clear h;rcases hf with hf|hf
 ·have q1:a<0:=by omega
  have q2:¬b<0:=by omega
  have q3:a<wrap64 (a-b):=by unfold wrap64;omega
  clear hf;go_enter Tryz.func61,Tryz.ntmps61;go_wp2;go_ret2;exact⟨rfl,rfl⟩
 ·have q1:¬a<0:=by omega
  have q2:b<0:=by omega
  have q3:wrap64 (a-b)<a:=by unfold wrap64;omega
  clear hf;go_enter Tryz.func61,Tryz.ntmps61;go_wp2;go_ret2;exact⟨rfl,rfl⟩
theorem ztx(op a b:Int)(w:World)(h1:op≠17)(h2:op≠18)(h3:op≠19):
 Calls Tryz.prog 92 #[.int .i64 op,.int .i64 a,.int .i64 b] w fun e w'=>e = .returned (.tuple #[.int .i64 0,j3 1])∧w=w':=by
 have q1:=beq_eq_false_iff_ne.2 h1;have q2:=beq_eq_false_iff_ne.2 h2;have q3:=beq_eq_false_iff_ne.2 h3;clear h1 h2 h3;go_enter Tryz.func92,Tryz.ntmps92;go_wp2;go_ret2;exact⟨rfl,rfl⟩
theorem zqo(op a b:Int)(w:World)(h1:op≠17)(h2:op≠18)(h3:op≠19):
 Calls Tryz.prog 61 #[.int .i64 op,.int .i64 a,.int .i64 b] w fun e w'=>e = .returned (.tuple #[.int .i64 0,.int .i64 1])∧w=w':=by
 have q1:=beq_eq_false_iff_ne.2 h1;have q2:=beq_eq_false_iff_ne.2 h2;have q3:=beq_eq_false_iff_ne.2 h3;clear h1 h2 h3;go_enter Tryz.func61,Tryz.ntmps61;go_wp2;go_ret2;exact⟨rfl,rfl⟩
theorem zkz(a b:Int)(w:World)(a1 : -9223372036854775808≤a)(a2:a≤9223372036854775807)(b1 : -9223372036854775808≤b)(b2:b≤9223372036854775807)(hi lo:Nat)
 (M:Hid (∀w,Calls Tryz.prog 136 #[.int .u64 (a.natAbs:Int),.int .u64 (b.natAbs:Int)] w fun e w'=>e = .returned (.tuple #[.int .u64 (hi:Int),.int .u64 (lo:Int)])∧w=w'))
 (q1:¬a<0) (q2:¬b<0) (p1:0<(hi:Int)):
 Calls Tryz.prog 92 #[.int .i64 19,.int .i64 a,.int .i64 b] w fun e w'=>e = .returned (.tuple #[.int .i64 0,j3 5])∧w=w':=by
 have S1:=hi9 (fun w=>jt a w a1 a2);have S2:=hi9 (fun w=>jt b w b1 b2);have hs:(!decide (a<0)==decide (b<0))=false:=by simp [q1,q2]
 clear a1 a2 b1 b2;go_enter Tryz.func92,Tryz.ntmps92;go_wp2_with fail;refine(S1.out _).mono ?_;rintro e w1 ⟨rfl,rfl⟩;go_wp2_with fail;refine(S2.out _).mono ?_;rintro e w1 ⟨rfl,rfl⟩;generalize hx:(a.natAbs:Int)=x at *;generalize hy:(b.natAbs:Int)=y at *;clear hx hy S1 S2;go_wp2_with fail;refine(M.out _).mono ?_;rintro e w1 ⟨rfl,rfl⟩;clear M;go_wp2;go_ret2;exact⟨rfl,rfl⟩
theorem zk5(a b:Int)(w:World)(a1 : -9223372036854775808≤a)(a2:a≤9223372036854775807)(b1 : -9223372036854775808≤b)(b2:b≤9223372036854775807)(hi lo:Nat)
 (M:Hid (∀w,Calls Tryz.prog 136 #[.int .u64 (a.natAbs:Int),.int .u64 (b.natAbs:Int)] w fun e w'=>e = .returned (.tuple #[.int .u64 (hi:Int),.int .u64 (lo:Int)])∧w=w'))
 (q1:¬a<0) (q2:¬b<0) (p1:¬0<(hi:Int)) (p2:(9223372036854775807:Int)<(lo:Int)):
 Calls Tryz.prog 92 #[.int .i64 19,.int .i64 a,.int .i64 b] w fun e w'=>e = .returned (.tuple #[.int .i64 0,j3 5])∧w=w':=by
 have S1:=hi9 (fun w=>jt a w a1 a2);have S2:=hi9 (fun w=>jt b w b1 b2);have hs:(!decide (a<0)==decide (b<0))=false:=by simp [q1,q2]
 clear a1 a2 b1 b2;go_enter Tryz.func92,Tryz.ntmps92;go_wp2_with fail;refine(S1.out _).mono ?_;rintro e w1 ⟨rfl,rfl⟩;go_wp2_with fail;refine(S2.out _).mono ?_;rintro e w1 ⟨rfl,rfl⟩;generalize hx:(a.natAbs:Int)=x at *;generalize hy:(b.natAbs:Int)=y at *;clear hx hy S1 S2;go_wp2_with fail;refine(M.out _).mono ?_;rintro e w1 ⟨rfl,rfl⟩;clear M;go_wp2;go_ret2;exact⟨rfl,rfl⟩
theorem zjh(a b:Int)(w:World)(a1 : -9223372036854775808≤a)(a2:a≤9223372036854775807)(b1 : -9223372036854775808≤b)(b2:b≤9223372036854775807)(hi lo:Nat)
 (M:Hid (∀w,Calls Tryz.prog 136 #[.int .u64 (a.natAbs:Int),.int .u64 (b.natAbs:Int)] w fun e w'=>e = .returned (.tuple #[.int .u64 (hi:Int),.int .u64 (lo:Int)])∧w=w'))
 (q1:¬a<0) (q2:¬b<0) (p1:¬0<(hi:Int)) (p2:¬(9223372036854775807:Int)<(lo:Int)):
 Calls Tryz.prog 92 #[.int .i64 19,.int .i64 a,.int .i64 b] w fun e w'=>e = .returned (.tuple #[.int .i64 (wrap64 (a*b)),.nilIface])∧w=w':=by
 have S1:=hi9 (fun w=>jt a w a1 a2);have S2:=hi9 (fun w=>jt b w b1 b2);have hs:(!decide (a<0)==decide (b<0))=false:=by simp [q1,q2]
 clear a1 a2 b1 b2;go_enter Tryz.func92,Tryz.ntmps92;go_wp2_with fail;refine(S1.out _).mono ?_;rintro e w1 ⟨rfl,rfl⟩;go_wp2_with fail;refine(S2.out _).mono ?_;rintro e w1 ⟨rfl,rfl⟩;generalize hx:(a.natAbs:Int)=x at *;generalize hy:(b.natAbs:Int)=y at *;clear hx hy S1 S2;go_wp2_with fail;refine(M.out _).mono ?_;rintro e w1 ⟨rfl,rfl⟩;clear M;go_wp2;go_ret2;exact⟨rfl,rfl⟩
theorem zkW(a b:Int)(w:World)(a1 : -9223372036854775808≤a)(a2:a≤9223372036854775807)(b1 : -9223372036854775808≤b)(b2:b≤9223372036854775807)(hi lo:Nat)
 (M:Hid (∀w,Calls Tryz.prog 136 #[.int .u64 (a.natAbs:Int),.int .u64 (b.natAbs:Int)] w fun e w'=>e = .returned (.tuple #[.int .u64 (hi:Int),.int .u64 (lo:Int)])∧w=w'))
 (q1:a<0) (q2:b<0) (p1:0<(hi:Int)):
 Calls Tryz.prog 92 #[.int .i64 19,.int .i64 a,.int .i64 b] w fun e w'=>e = .returned (.tuple #[.int .i64 0,j3 5])∧w=w':=by
 have S1:=hi9 (fun w=>jt a w a1 a2);have S2:=hi9 (fun w=>jt b w b1 b2);have hs:(!decide (a<0)==decide (b<0))=false:=by simp [q1,q2]
 clear a1 a2 b1 b2;go_enter Tryz.func92,Tryz.ntmps92;go_wp2_with fail;refine(S1.out _).mono ?_;rintro e w1 ⟨rfl,rfl⟩;go_wp2_with fail;refine(S2.out _).mono ?_;rintro e w1 ⟨rfl,rfl⟩;generalize hx:(a.natAbs:Int)=x at *;generalize hy:(b.natAbs:Int)=y at *;clear hx hy S1 S2;go_wp2_with fail;refine(M.out _).mono ?_;rintro e w1 ⟨rfl,rfl⟩;clear M;go_wp2;go_ret2;exact⟨rfl,rfl⟩
theorem zlb(a b:Int)(w:World)(a1 : -9223372036854775808≤a)(a2:a≤9223372036854775807)(b1 : -9223372036854775808≤b)(b2:b≤9223372036854775807)(hi lo:Nat)
 (M:Hid (∀w,Calls Tryz.prog 136 #[.int .u64 (a.natAbs:Int),.int .u64 (b.natAbs:Int)] w fun e w'=>e = .returned (.tuple #[.int .u64 (hi:Int),.int .u64 (lo:Int)])∧w=w'))
 (q1:a<0) (q2:b<0) (p1:¬0<(hi:Int)) (p2:(9223372036854775807:Int)<(lo:Int)):
 Calls Tryz.prog 92 #[.int .i64 19,.int .i64 a,.int .i64 b] w fun e w'=>e = .returned (.tuple #[.int .i64 0,j3 5])∧w=w':=by
 have S1:=hi9 (fun w=>jt a w a1 a2);have S2:=hi9 (fun w=>jt b w b1 b2);have hs:(!decide (a<0)==decide (b<0))=false:=by simp [q1,q2]
 clear a1 a2 b1 b2;go_enter Tryz.func92,Tryz.ntmps92;go_wp2_with fail;refine(S1.out _).mono ?_;rintro e w1 ⟨rfl,rfl⟩;go_wp2_with fail;refine(S2.out _).mono ?_;rintro e w1 ⟨rfl,rfl⟩;generalize hx:(a.natAbs:Int)=x at *;generalize hy:(b.natAbs:Int)=y at *;clear hx hy S1 S2;go_wp2_with fail;refine(M.out _).mono ?_;rintro e w1 ⟨rfl,rfl⟩;clear M;go_wp2;go_ret2;exact⟨rfl,rfl⟩
theorem zjk(a b:Int)(w:World)(a1 : -9223372036854775808≤a)(a2:a≤9223372036854775807)(b1 : -9223372036854775808≤b)(b2:b≤9223372036854775807)(hi lo:Nat)
 (M:Hid (∀w,Calls Tryz.prog 136 #[.int .u64 (a.natAbs:Int),.int .u64 (b.natAbs:Int)] w fun e w'=>e = .returned (.tuple #[.int .u64 (hi:Int),.int .u64 (lo:Int)])∧w=w'))
 (q1:a<0) (q2:b<0) (p1:¬0<(hi:Int)) (p2:¬(9223372036854775807:Int)<(lo:Int)):
 Calls Tryz.prog 92 #[.int .i64 19,.int .i64 a,.int .i64 b] w fun e w'=>e = .returned (.tuple #[.int .i64 (wrap64 (a*b)),.nilIface])∧w=w':=by
 have S1:=hi9 (fun w=>jt a w a1 a2);have S2:=hi9 (fun w=>jt b w b1 b2);have hs:(!decide (a<0)==decide (b<0))=false:=by simp [q1,q2]
 clear a1 a2 b1 b2;go_enter Tryz.func92,Tryz.ntmps92;go_wp2_with fail;refine(S1.out _).mono ?_;rintro e w1 ⟨rfl,rfl⟩;go_wp2_with fail;refine(S2.out _).mono ?_;rintro e w1 ⟨rfl,rfl⟩;generalize hx:(a.natAbs:Int)=x at *;generalize hy:(b.natAbs:Int)=y at *;clear hx hy S1 S2;go_wp2_with fail;refine(M.out _).mono ?_;rintro e w1 ⟨rfl,rfl⟩;clear M;go_wp2;go_ret2;exact⟨rfl,rfl⟩
theorem zkh(a b:Int)(w:World)(a1 : -9223372036854775808≤a)(a2:a≤9223372036854775807)(b1 : -9223372036854775808≤b)(b2:b≤9223372036854775807)(hi lo:Nat)
 (M:Hid (∀w,Calls Tryz.prog 136 #[.int .u64 (a.natAbs:Int),.int .u64 (b.natAbs:Int)] w fun e w'=>e = .returned (.tuple #[.int .u64 (hi:Int),.int .u64 (lo:Int)])∧w=w'))
 (q1:a<0) (q2:¬b<0) (p1:0<(hi:Int)):
 Calls Tryz.prog 92 #[.int .i64 19,.int .i64 a,.int .i64 b] w fun e w'=>e = .returned (.tuple #[.int .i64 0,j3 5])∧w=w':=by
 have S1:=hi9 (fun w=>jt a w a1 a2);have S2:=hi9 (fun w=>jt b w b1 b2);have hs:(!decide (a<0)==decide (b<0))=true:=by simp [q1,q2]
 have hs2:(!decide (b<0))=true:=by simp [q2]
 clear a1 a2 b1 b2;go_enter Tryz.func92,Tryz.ntmps92;go_wp2_with fail;refine(S1.out _).mono ?_;rintro e w1 ⟨rfl,rfl⟩;go_wp2_with fail;refine(S2.out _).mono ?_;rintro e w1 ⟨rfl,rfl⟩;generalize hx:(a.natAbs:Int)=x at *;generalize hy:(b.natAbs:Int)=y at *;clear hx hy S1 S2;go_wp2_with fail;refine(M.out _).mono ?_;rintro e w1 ⟨rfl,rfl⟩;clear M;go_wp2;go_ret2;exact⟨rfl,rfl⟩
theorem zkN(a b:Int)(w:World)(a1 : -9223372036854775808≤a)(a2:a≤9223372036854775807)(b1 : -9223372036854775808≤b)(b2:b≤9223372036854775807)(hi lo:Nat)
 (M:Hid (∀w,Calls Tryz.prog 136 #[.int .u64 (a.natAbs:Int),.int .u64 (b.natAbs:Int)] w fun e w'=>e = .returned (.tuple #[.int .u64 (hi:Int),.int .u64 (lo:Int)])∧w=w'))
 (q1:a<0) (q2:¬b<0) (p1:¬0<(hi:Int)) (p2:(9223372036854775808:Int)<(lo:Int)):
 Calls Tryz.prog 92 #[.int .i64 19,.int .i64 a,.int .i64 b] w fun e w'=>e = .returned (.tuple #[.int .i64 0,j3 5])∧w=w':=by
 have S1:=hi9 (fun w=>jt a w a1 a2);have S2:=hi9 (fun w=>jt b w b1 b2);have hs:(!decide (a<0)==decide (b<0))=true:=by simp [q1,q2]
 have hs2:(!decide (b<0))=true:=by simp [q2]
 clear a1 a2 b1 b2;go_enter Tryz.func92,Tryz.ntmps92;go_wp2_with fail;refine(S1.out _).mono ?_;rintro e w1 ⟨rfl,rfl⟩;go_wp2_with fail;refine(S2.out _).mono ?_;rintro e w1 ⟨rfl,rfl⟩;generalize hx:(a.natAbs:Int)=x at *;generalize hy:(b.natAbs:Int)=y at *;clear hx hy S1 S2;go_wp2_with fail;refine(M.out _).mono ?_;rintro e w1 ⟨rfl,rfl⟩;clear M;go_wp2;go_ret2;exact⟨rfl,rfl⟩
theorem zjc(a b:Int)(w:World)(a1 : -9223372036854775808≤a)(a2:a≤9223372036854775807)(b1 : -9223372036854775808≤b)(b2:b≤9223372036854775807)(hi lo:Nat)
 (M:Hid (∀w,Calls Tryz.prog 136 #[.int .u64 (a.natAbs:Int),.int .u64 (b.natAbs:Int)] w fun e w'=>e = .returned (.tuple #[.int .u64 (hi:Int),.int .u64 (lo:Int)])∧w=w'))
 (q1:a<0) (q2:¬b<0) (p1:¬0<(hi:Int)) (p2:¬(9223372036854775808:Int)<(lo:Int)):
 Calls Tryz.prog 92 #[.int .i64 19,.int .i64 a,.int .i64 b] w fun e w'=>e = .returned (.tuple #[.int .i64 (wrap64 (a*b)),.nilIface])∧w=w':=by
 have S1:=hi9 (fun w=>jt a w a1 a2);have S2:=hi9 (fun w=>jt b w b1 b2);have hs:(!decide (a<0)==decide (b<0))=true:=by simp [q1,q2]
 have hs2:(!decide (b<0))=true:=by simp [q2]
 clear a1 a2 b1 b2;go_enter Tryz.func92,Tryz.ntmps92;go_wp2_with fail;refine(S1.out _).mono ?_;rintro e w1 ⟨rfl,rfl⟩;go_wp2_with fail;refine(S2.out _).mono ?_;rintro e w1 ⟨rfl,rfl⟩;generalize hx:(a.natAbs:Int)=x at *;generalize hy:(b.natAbs:Int)=y at *;clear hx hy S1 S2;go_wp2_with fail;refine(M.out _).mono ?_;rintro e w1 ⟨rfl,rfl⟩;clear M;go_wp2;go_ret2;exact⟨rfl,rfl⟩
theorem zkg(a b:Int)(w:World)(a1 : -9223372036854775808≤a)(a2:a≤9223372036854775807)(b1 : -9223372036854775808≤b)(b2:b≤9223372036854775807)(hi lo:Nat)
 (M:Hid (∀w,Calls Tryz.prog 136 #[.int .u64 (a.natAbs:Int),.int .u64 (b.natAbs:Int)] w fun e w'=>e = .returned (.tuple #[.int .u64 (hi:Int),.int .u64 (lo:Int)])∧w=w'))
 (q1:¬a<0) (q2:b<0) (p1:0<(hi:Int)):
 Calls Tryz.prog 92 #[.int .i64 19,.int .i64 a,.int .i64 b] w fun e w'=>e = .returned (.tuple #[.int .i64 0,j3 5])∧w=w':=by
 have S1:=hi9 (fun w=>jt a w a1 a2);have S2:=hi9 (fun w=>jt b w b1 b2);have hs:(!decide (a<0)==decide (b<0))=true:=by simp [q1,q2]
 have hs2:(!decide (a<0))=true:=by simp [q1]
 clear a1 a2 b1 b2;go_enter Tryz.func92,Tryz.ntmps92;go_wp2_with fail;refine(S1.out _).mono ?_;rintro e w1 ⟨rfl,rfl⟩;go_wp2_with fail;refine(S2.out _).mono ?_;rintro e w1 ⟨rfl,rfl⟩;generalize hx:(a.natAbs:Int)=x at *;generalize hy:(b.natAbs:Int)=y at *;clear hx hy S1 S2;go_wp2_with fail;refine(M.out _).mono ?_;rintro e w1 ⟨rfl,rfl⟩;clear M;go_wp2;go_ret2;exact⟨rfl,rfl⟩
theorem zkt(a b:Int)(w:World)(a1 : -9223372036854775808≤a)(a2:a≤9223372036854775807)(b1 : -9223372036854775808≤b)(b2:b≤9223372036854775807)(hi lo:Nat)
 (M:Hid (∀w,Calls Tryz.prog 136 #[.int .u64 (a.natAbs:Int),.int .u64 (b.natAbs:Int)] w fun e w'=>e = .returned (.tuple #[.int .u64 (hi:Int),.int .u64 (lo:Int)])∧w=w'))
 (q1:¬a<0) (q2:b<0) (p1:¬0<(hi:Int)) (p2:(9223372036854775808:Int)<(lo:Int)):
 Calls Tryz.prog 92 #[.int .i64 19,.int .i64 a,.int .i64 b] w fun e w'=>e = .returned (.tuple #[.int .i64 0,j3 5])∧w=w':=by
 have S1:=hi9 (fun w=>jt a w a1 a2);have S2:=hi9 (fun w=>jt b w b1 b2);have hs:(!decide (a<0)==decide (b<0))=true:=by simp [q1,q2]
 have hs2:(!decide (a<0))=true:=by simp [q1]
 clear a1 a2 b1 b2;go_enter Tryz.func92,Tryz.ntmps92;go_wp2_with fail;refine(S1.out _).mono ?_;rintro e w1 ⟨rfl,rfl⟩;go_wp2_with fail;refine(S2.out _).mono ?_;rintro e w1 ⟨rfl,rfl⟩;generalize hx:(a.natAbs:Int)=x at *;generalize hy:(b.natAbs:Int)=y at *;clear hx hy S1 S2;go_wp2_with fail;refine(M.out _).mono ?_;rintro e w1 ⟨rfl,rfl⟩;clear M;go_wp2;go_ret2;exact⟨rfl,rfl⟩
theorem zi8(a b:Int)(w:World)(a1 : -9223372036854775808≤a)(a2:a≤9223372036854775807)(b1 : -9223372036854775808≤b)(b2:b≤9223372036854775807)(hi lo:Nat)
 (M:Hid (∀w,Calls Tryz.prog 136 #[.int .u64 (a.natAbs:Int),.int .u64 (b.natAbs:Int)] w fun e w'=>e = .returned (.tuple #[.int .u64 (hi:Int),.int .u64 (lo:Int)])∧w=w'))
 (q1:¬a<0) (q2:b<0) (p1:¬0<(hi:Int)) (p2:¬(9223372036854775808:Int)<(lo:Int)):
 Calls Tryz.prog 92 #[.int .i64 19,.int .i64 a,.int .i64 b] w fun e w'=>e = .returned (.tuple #[.int .i64 (wrap64 (a*b)),.nilIface])∧w=w':=by
 have S1:=hi9 (fun w=>jt a w a1 a2);have S2:=hi9 (fun w=>jt b w b1 b2);have hs:(!decide (a<0)==decide (b<0))=true:=by simp [q1,q2]
 have hs2:(!decide (a<0))=true:=by simp [q1]
 clear a1 a2 b1 b2;go_enter Tryz.func92,Tryz.ntmps92;go_wp2_with fail;refine(S1.out _).mono ?_;rintro e w1 ⟨rfl,rfl⟩;go_wp2_with fail;refine(S2.out _).mono ?_;rintro e w1 ⟨rfl,rfl⟩;generalize hx:(a.natAbs:Int)=x at *;generalize hy:(b.natAbs:Int)=y at *;clear hx hy S1 S2;go_wp2_with fail;refine(M.out _).mono ?_;rintro e w1 ⟨rfl,rfl⟩;clear M;go_wp2;go_ret2;exact⟨rfl,rfl⟩
theorem zuL(a b:Int)(w:World)(ha:I64 a)(hb:I64 b):
 Calls Tryz.prog 92 #[.int .i64 19,.int .i64 a,.int .i64 b] w fun e w'=>e = .returned (.tuple #[.int .i64 (if zak (a*b) then a*b else 0),j3 (if zak (a*b) then 0 else 5)])∧w=w':=by
 obtain⟨a1,a2⟩:=ha;obtain⟨b1,b2⟩:=hb;have M:Hid (∀w,_):=hi9 (fun w=>bits_Mul64 a.natAbs b.natAbs w (by omega) (by omega));have T0:=fun d hd=>zrN (a:=a) (b:=b) d hd;have W:=fun h:zak (a*b)=true=>zel h;generalize zo0 a.natAbs b.natAbs=hi at *;generalize zpj a.natAbs b.natAbs=lo at *;by_cases q1:a<0
 ·by_cases q2:b<0
  ·skip;have T:=T0 0 (by rw [if_pos ⟨fun _=>q2,fun _=>q1⟩]);by_cases p1:0<(hi:Int)
   ·have hf:zak (a*b)=false:=by
     rw [Bool.eq_false_iff];intro q;have:=(T.1 q).1;omega
    rw [hf]
    exact zkW a b w a1 a2 b1 b2 hi lo M q1 q2 p1
   ·by_cases p2:(9223372036854775807:Int)<(lo:Int)
    ·have hf:zak (a*b)=false:=by
      rw [Bool.eq_false_iff];intro q;have:=(T.1 q).2;omega
     rw [hf]
     exact zlb a b w a1 a2 b1 b2 hi lo M q1 q2 p1 p2
    ·have hf:zak (a*b)=true:=T.2 ⟨by omega,by omega⟩;have h:=zjk a b w a1 a2 b1 b2 hi lo M q1 q2 p1 p2;rw [W hf] at h;rw [hf];exact h
  ·skip;have T:=T0 1 (by rw [if_neg (fun q=>q2 (q.1 q1))]);by_cases p1:0<(hi:Int)
   ·have hf:zak (a*b)=false:=by
     rw [Bool.eq_false_iff];intro q;have:=(T.1 q).1;omega
    rw [hf]
    exact zkh a b w a1 a2 b1 b2 hi lo M q1 q2 p1
   ·by_cases p2:(9223372036854775808:Int)<(lo:Int)
    ·have hf:zak (a*b)=false:=by
      rw [Bool.eq_false_iff];intro q;have:=(T.1 q).2;omega
     rw [hf]
     exact zkN a b w a1 a2 b1 b2 hi lo M q1 q2 p1 p2
    ·have hf:zak (a*b)=true:=T.2 ⟨by omega,by omega⟩;have h:=zjc a b w a1 a2 b1 b2 hi lo M q1 q2 p1 p2;rw [W hf] at h;rw [hf];exact h
 ·by_cases q2:b<0
  ·skip;have T:=T0 1 (by rw [if_neg (fun q=>q1 (q.2 q2))]);by_cases p1:0<(hi:Int)
   ·have hf:zak (a*b)=false:=by
     rw [Bool.eq_false_iff];intro q;have:=(T.1 q).1;omega
    rw [hf]
    exact zkg a b w a1 a2 b1 b2 hi lo M q1 q2 p1
   ·by_cases p2:(9223372036854775808:Int)<(lo:Int)
    ·have hf:zak (a*b)=false:=by
      rw [Bool.eq_false_iff];intro q;have:=(T.1 q).2;omega
     rw [hf]
     exact zkt a b w a1 a2 b1 b2 hi lo M q1 q2 p1 p2
    ·have hf:zak (a*b)=true:=T.2 ⟨by omega,by omega⟩;have h:=zi8 a b w a1 a2 b1 b2 hi lo M q1 q2 p1 p2;rw [W hf] at h;rw [hf];exact h
  ·skip;have T:=T0 0 (by rw [if_pos ⟨fun q=>absurd q q1,fun q=>absurd q q2⟩]);by_cases p1:0<(hi:Int)
   ·have hf:zak (a*b)=false:=by
     rw [Bool.eq_false_iff];intro q;have:=(T.1 q).1;omega
    rw [hf]
    exact zkz a b w a1 a2 b1 b2 hi lo M q1 q2 p1
   ·by_cases p2:(9223372036854775807:Int)<(lo:Int)
    ·have hf:zak (a*b)=false:=by
      rw [Bool.eq_false_iff];intro q;have:=(T.1 q).2;omega
     rw [hf]
     exact zk5 a b w a1 a2 b1 b2 hi lo M q1 q2 p1 p2
    ·have hf:zak (a*b)=true:=T.2 ⟨by omega,by omega⟩;have h:=zjh a b w a1 a2 b1 b2 hi lo M q1 q2 p1 p2;rw [W hf] at h;rw [hf];exact h
theorem zkr(a b:Int)(w:World)(q0:(a==0)=false)(q0':¬a=0)(q1:(b==0)=false)(q2:(a == -1)=false)(t1 t2:Bool)(h1:(wrap64 ((wrap64 (a*b)).tdiv a)==b)=t1)(h2:((wrap64 (a*b)).tmod a==0)=t2):
 Calls Tryz.prog 61 #[.int .i64 19,.int .i64 a,.int .i64 b] w fun e w'=>e = .returned (.tuple #[.int .i64 (if(t1 && t2)=true then wrap64 (a*b) else 0),.int .i64 (if(t1 && t2)=true then 0 else 5)])∧w=w':=by
 have h3:(wrap64 ((wrap64 (a*b)).tdiv a) != b)= !t1:=by rw [←h1];rfl
 have h4:((wrap64 (a*b)).tmod a != 0)= !t2:=by rw [←h2];rfl
 cases t1 <;> cases t2
 all_goals
  simp only [Bool.not_true,Bool.not_false] at h3 h4;go_enter Tryz.func61,Tryz.ntmps61;go_wp2;go_ret2;exact⟨rfl,rfl⟩
theorem zjf(a b:Int)(w:World)(h:a=0∨b=0):
 Calls Tryz.prog 61 #[.int .i64 19,.int .i64 a,.int .i64 b] w fun e w'=>e = .returned (.tuple #[.int .i64 0,.int .i64 0])∧w=w':=by
 by_cases q0:a=0
 ·subst q0;clear h;go_enter Tryz.func61,Tryz.ntmps61;go_wp2;go_ret2;exact⟨rfl,rfl⟩
 ·have q1:b=0:=h.resolve_left q0;have q2:=beq_eq_false_iff_ne.2 q0;clear h q0;subst q1;go_enter Tryz.func61,Tryz.ntmps61;go_wp2;go_ret2;exact⟨rfl,rfl⟩
theorem zkS(b:Int)(w:World)(hb:I64 b)(h:b≠0):
 Calls Tryz.prog 61 #[.int .i64 19,.int .i64 (-1),.int .i64 b] w fun e w'=>e = .returned (.tuple #[.int .i64 (if zak (0-b)=true then 0-b else 0),.int .i64 (if zak (0-b)=true then 0 else 5)])∧w=w':=by
 have q1:=beq_eq_false_iff_ne.2 h;have z:I64 0:=by unfold I64;omega
 clear h;rcases hf:zak (0-b) with _|_
 ·have C:=hi9 (fun w=>zeq 0 b w z hb hf);clear hf z;obtain⟨b1,b2⟩:=hb;go_enter Tryz.func61,Tryz.ntmps61;go_wp2_with fail;refine(C.out _).mono ?_;rintro e w1 ⟨rfl,rfl⟩;go_wp2;go_ret2;exact⟨rfl,rfl⟩
 ·have C:=hi9 (fun w=>zeM 0 b w z hb hf);clear hf z;obtain⟨b1,b2⟩:=hb;go_enter Tryz.func61,Tryz.ntmps61;go_wp2_with fail;refine(C.out _).mono ?_;rintro e w1 ⟨rfl,rfl⟩;go_wp2;go_ret2;exact⟨rfl,rfl⟩
theorem zq7(a b:Int)(w:World)(hb:I64 b):
 Calls Tryz.prog 61 #[.int .i64 19,.int .i64 a,.int .i64 b] w fun e w'=>e = .returned (.tuple #[.int .i64 (if zak (a*b)=true then a*b else 0),.int .i64 (if zak (a*b)=true then 0 else 5)])∧w=w':=by
 by_cases h0:a=0∨b=0
 ·have e:a*b=0:=by rcases h0 with h|h <;> simp [h]
  have hf:zak 0=true:=by decide
  rw [e,hf];exact zjf a b w h0
 ·have ha0:a≠0:=fun q=>h0 (.inl q);have hb0:b≠0:=fun q=>h0 (.inr q);by_cases h1:a = -1
  ·subst h1;have e : -1*b=0-b:=by omega
   rw [e];exact zkS b w hb hb0
  ·have h:=zkr a b w (beq_eq_false_iff_ne.2 ha0) ha0 (beq_eq_false_iff_ne.2 hb0) (beq_eq_false_iff_ne.2 h1) _ _ rfl rfl;rw [←zsd ha0 h1] at h;have e:(if zak (a*b)=true then wrap64 (a*b) else 0)=if zak (a*b)=true then a*b else 0:=by
    by_cases hf:zak (a*b)=true
    ·rw [if_pos hf,if_pos hf,zel hf]
    ·rw [if_neg hf,if_neg hf]
   rw [e] at h;exact h
theorem zrm(op a b:Int)(w:World)(ha:I64 a)(hb:I64 b):
 Calls Tryz.prog 92 #[.int .i64 op,.int .i64 a,.int .i64 b] w fun e w'=>e = .returned (.tuple #[.int .i64 (zaE op a b),j3 (zan op a b)])∧w=w':=by
 by_cases h1:op=17
 ·subst h1;rcases hf:zak (a+b) with _|_
  ·have:=znm a b w ha hb hf;simpa [zaE,zan,zfS,hf] using this
  ·have:=zoF a b w ha hb hf;simpa [zaE,zan,zfS,hf,zo] using this
 ·by_cases h2:op=18
  ·subst h2;rcases hf:zak (a-b) with _|_
   ·have:=znl a b w ha hb hf;simpa [zaE,zan,zfS,hf] using this
   ·have:=zos a b w ha hb hf;simpa [zaE,zan,zfS,hf,zo] using this
  ·by_cases h3:op=19
   ·subst h3;have:=zuL a b w ha hb;simpa [zaE,zan,zfS] using this
   ·have:=ztx op a b w h1 h2 h3;simpa [zaE,zan,h1,h2,h3] using this
theorem zlR(op a b:Int)(w:World)(ha:I64 a)(hb:I64 b):
 Calls Tryz.prog 61 #[.int .i64 op,.int .i64 a,.int .i64 b] w fun e w'=>e = .returned (.tuple #[.int .i64 (zaE op a b),.int .i64 (zan op a b)])∧w=w':=by
 by_cases h1:op=17
 ·subst h1;rcases hf:zak (a+b) with _|_
  ·have:=zi5 a b w ha hb hf;simpa [zaE,zan,zfS,hf] using this
  ·have:=zkd a b w ha hb hf;simpa [zaE,zan,zfS,hf] using this
 ·by_cases h2:op=18
  ·subst h2;rcases hf:zak (a-b) with _|_
   ·have:=zeq a b w ha hb hf;simpa [zaE,zan,zfS,hf] using this
   ·have:=zeM a b w ha hb hf;simpa [zaE,zan,zfS,hf] using this
  ·by_cases h3:op=19
   ·subst h3;have:=zq7 a b w hb;simpa [zaE,zan,zfS] using this
   ·have:=zqo op a b w h1 h2 h3;simpa [zaE,zan,h1,h2,h3] using this
theorem ztJ(a:Int)(w:World)(ha:I64 a):
 Calls Tryz.prog 81 #[.int .i64 a] w fun e w'=>e = .returned (.tuple #[.int .i64 (zaE 18 0 a),j3 (zan 18 0 a)])∧w=w':=by
 have C:=hi9 (fun w=>zrm 18 0 a w (by unfold I64;omega) ha);go_enter Tryz.func81,Tryz.ntmps81;go_wp2_with fail;refine(C.out _).mono ?_;rintro e w1 ⟨rfl,rfl⟩;go_wp2;go_ret2;exact⟨rfl,rfl⟩
end Go.Proofs.YtkfgabdnppmglaaGreatDoor
