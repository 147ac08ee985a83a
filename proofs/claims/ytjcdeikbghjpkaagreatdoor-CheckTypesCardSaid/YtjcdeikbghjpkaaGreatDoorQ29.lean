/-
  ref SchemaFault, KindOf, ActOf. ref KindOf: the index of a kind, as a function. The document's got: the type of what something has by a name. (gen_reftyg.py)
-/
import Derived.Deep.RegionHeld3
import Derived.Test.YtjcdeikbghjpkaaGreatDoorQ25
import Derived.Test.YtjcdeikbghjpkaaGreatDoorQ26
import Derived.Test.YtjcdeikbghjpkaaGreatDoorQ27
import Derived.Test.YtjcdeikbghjpkaaGreatDoorQ28
set_option maxRecDepth 100000
set_option maxHeartbeats 8000000
namespace Go.Proofs.YtjcdeikbghjpkaaGreatDoor
open Go.RowKit Go.Wk Go.Sort
theorem Sc.k_at(s:Sc){i:Nat}(h:i<s.K.length):(s.k)[i]'(by unfold Sc.k;rw [List.length_map];exact h)=s.K[i].d:=by
 unfold Sc.k;rw [List.getElem_map]
theorem Sc.a_at(s:Sc){i:Nat}(h:i<s.L.length):(s.a)[i]'(by unfold Sc.a;rw [List.length_map];exact h)=s.L[i].d:=by
 unfold Sc.a;rw [List.getElem_map]
theorem Sc.k_names(s:Sc)(i:Nat):((s.k).take i).map KD.nm=(s.K.take i).map fun x=>x.d.nm:=by
 unfold Sc.k;rw [←List.map_take,List.map_map];rfl
theorem Sc.a_names(s:Sc)(i:Nat):((s.a).take i).map AD.id=(s.L.take i).map fun x=>x.d.id:=by
 unfold Sc.a;rw [←List.map_take,List.map_map];rfl
theorem zhk(s:Sc)(w:World)(h:zcO w s):
 Calls Tryz.prog 10 #[s.v] w fun e w'=>e = .returned (.int .i64 (zaa s.k s.a))∧Below w.heap.size w w':=by
 have HKL:=hi9 (show s.kn=s.k.length by unfold Sc.k;rw [List.length_map];exact h.k.len);have HAL:=hi9 (show s.an=s.a.length by unfold Sc.a;rw [List.length_map];exact h.a.len);have HKL2:=hi9 h.k.len;have HAL2:=hi9 h.a.len;have hkx:=h.k.max;have hax:=h.a.max;unfold maxLen at hkx hax;have V0:=hi9 (zb9 w s 25);have B0:=hi9 (za w (.cells #[.slice s.KA s.kn s.kc,.slice s.AA s.an s.ac] 25));have HV:=hi9 (show s.v = .agg #[.slice s.KA s.kn s.kc,.slice s.AA s.an s.ac] from rfl);by_cases h8:8<s.kn∨8<s.an
 ·have HR:=hi9 (show zaa s.k s.a=4 by unfold zaa;rw [if_pos (by rw [←HKL.out,←HAL.out];exact h8)]);rw [HV.out];by_cases h81:8<s.kn
  ·have f1:decide (8<(s.kn:Int))=true:=decide_eq_true (by omega);clear h h8 h81;go_enter Tryz.func10,Tryz.ntmps10;go_wp2_with fail;go_ret;exact⟨by rw [HR.out];rfl,B0.out⟩
  ·have f1:decide (8<(s.kn:Int))=false:=decide_eq_false (by omega);have f2:decide (8<(s.an:Int))=true:=decide_eq_true (by omega);clear h h8 h81;go_enter Tryz.func10,Tryz.ntmps10;go_wp2_with fail;go_ret;exact⟨by rw [HR.out];rfl,B0.out⟩
 ·have HR:=hi9 (show zaa s.k s.a=or2 (zeN [] s.k) (zdS [] s.a) by unfold zaa;rw [if_neg (by rw [←HKL.out,←HAL.out];exact h8)]);have f1:decide (8<(s.kn:Int))=false:=decide_eq_false (by omega);have f2:decide (8<(s.an:Int))=false:=decide_eq_false (by omega);have KK:=hi9 (fun i (hi:i<s.K.length) w' (hb:Below w.heap.size w w')=>zjg s i w' (h.keep hb) hi (by rw [←HKL2.out];omega));have KL:=hi9 (fun i (hi:i<s.L.length) w' (hb:Below w.heap.size w w')=>zkY s i w' (h.keep hb) hi (by rw [←HAL2.out];omega));rw [HV.out] at KK KL ⊢;clear h h8;go_enter Tryz.func10,Tryz.ntmps10;go_wp2_with fail;go_loopw [3] (fun i wr=>∃k:Nat,i = .int .i64 k∧k≤s.kn∧Hid (zeN [] s.k=zeN ((s.k.take k).map KD.nm) (s.k.drop k))∧Hid (Below w.heap.size w wr)∧Hid (Vs wr w.heap.size s)) (fun i _=>s.kn-(intOf i).toNat)
  case atStart=>exact⟨0,rfl,Nat.zero_le _,hi9 (by simp),B0,V0⟩
  case round =>
   obtain⟨k,rfl,hk,hF,hB,hV⟩:=hrel;obtain⟨v0,v1⟩:=hV.out;clear B0 V0;by_cases hlt:k<s.kn
   ·have hkl:k<s.K.length:=by rw [←HKL2.out];exact hlt
    have hkl2:k<s.k.length:=by rw [←HKL.out];exact hlt
    have HS:=hi9 (hF.out.trans (zjU hkl2));have C:=hi9 (KK.out k hkl wr hB.out);rw [Sc.k_at s hkl,Sc.k_names] at HS;generalize kdF ((s.K.take k).map fun x=>x.d.nm) s.K[k].d=r at *;clear hF;go_wp2_with fail;refine C.out.mono ?_;rintro e w1 ⟨rfl,b1⟩;have B1:=hi9 (hB.out.trans (b1.mono hB.out.size));have V1:=hi9 (hV.out.keep b1);clear b1 C hB hV v0 v1;by_cases hr:r=0
    ·rw [hr,zs] at HS;subst hr;go_wp2_with fail;go_roundw
     case rel=>exact⟨k+1,by go_num,hlt,HS,B1,V1⟩
     case measure=>simp [intOf];omega
    ·rw [zB hr] at HS;have HE:=hi9 (HR.out.trans (by rw [HS.out,zB hr]:_=r));have g1:(r==0)=false:=beq_eq_false_iff_ne.2 hr;have g2:(r != 0)=true:=by rw [bne_iff_ne];exact hr
     clear hr;go_wp2_with fail;go_ret;exact⟨by rw [HE.out];rfl,B1.out⟩
   ·have HS:=hi9 (show zeN [] s.k=0 by
     rw [hF.out,List.drop_eq_nil_of_le (by rw [←HKL.out];omega)];rfl)
    have HR2:=hi9 (HR.out.trans (by rw [HS.out,zs]:_=zdS [] s.a))
    clear hF HR HS hk
    go_wp2_with fail
    go_loopw [5] (fun i wr=>∃k:Nat,i = .int .i64 k∧k≤s.an∧Hid (zdS [] s.a=zdS ((s.a.take k).map AD.id) (s.a.drop k))∧Hid (Below w.heap.size w wr)∧Hid (Vs wr w.heap.size s)) (fun i _=>s.an-(intOf i).toNat)
    case atStart=>exact⟨0,rfl,Nat.zero_le _,hi9 (by simp),hB,hV⟩
    case round =>
     obtain⟨k,rfl,hk,hF,hB,hV⟩:=hrel;obtain⟨v0,v1⟩:=hV.out;by_cases hlt:k<s.an
     ·have hkl:k<s.L.length:=by rw [←HAL2.out];exact hlt
      have hkl2:k<s.a.length:=by rw [←HAL.out];exact hlt
      have HS:=hi9 (hF.out.trans (zjI hkl2));have C:=hi9 (KL.out k hkl wr hB.out);rw [Sc.a_at s hkl,Sc.a_names] at HS;generalize adF ((s.L.take k).map fun x=>x.d.id) s.L[k].d=r at *;clear hF;go_wp2_with fail;refine C.out.mono ?_;rintro e w1 ⟨rfl,b1⟩;have B1:=hi9 (hB.out.trans (b1.mono hB.out.size));have V1:=hi9 (hV.out.keep b1);clear b1 C hB hV v0 v1;by_cases hr:r=0
      ·rw [hr,zs] at HS;subst hr;go_wp2_with fail;go_roundw
       case rel=>exact⟨k+1,by go_num,hlt,HS,B1,V1⟩
       case measure=>simp [intOf];omega
      ·rw [zB hr] at HS;have HE:=hi9 (HR2.out.trans HS.out);have g1:(r==0)=false:=beq_eq_false_iff_ne.2 hr;have g2:(r != 0)=true:=by rw [bne_iff_ne];exact hr
       clear hr;go_wp2_with fail;go_ret;exact⟨by rw [HE.out];rfl,B1.out⟩
     ·have HS:=hi9 (show zaa s.k s.a=0 by
       rw [HR2.out,hF.out,List.drop_eq_nil_of_le (by rw [←HAL.out];omega)];rfl)
      clear hF
      go_wp2_with fail
      go_ret
      exact⟨by rw [HS.out];rfl,hB.out⟩
theorem zbX{α:Type}{L:List α}{p:α→Bool}{i:Nat}(h:i<L.length)(hp:p L[i]=true)(hn:∀x∈L.take i,p x=false):L.find? p=some L[i]:=by
 induction L generalizing i with
 | nil=>simp at h
 | cons a r ih =>
  cases i with
  | zero=>simp at hp;simp [hp]
  | succ i =>
   have ha:=hn a (by simp)
   simp only [List.find?_cons,ha,List.getElem_cons_succ] at *
   exact ih (by simpa using h) hp (fun x hx=>hn x (by simp [hx]))
def zmJ(w:World)(s:Sc)(x:ByteArray)(e:Ending)(w':World):Prop :=
 ((zaE s.k x=none∧e = .returned (.int .i64 (-1)))∨∃i,∃h:i<s.K.length,zaE s.k x=some s.K[i].d∧e = .returned (.int .i64 i))∧Below w.heap.size w w'
def zge(w:World)(s:Sc)(x:ByteArray)(e:Ending)(w':World):Prop :=
 ((zbx s.a x=none∧e = .returned (.int .i64 (-1)))∨∃i,∃h:i<s.L.length,zbx s.a x=some s.L[i].d∧e = .returned (.int .i64 i))∧Below w.heap.size w w'
theorem zoP(s:Sc)(x:ByteArray)(w:World)(h:zcO w s):
 Calls Tryz.prog 13 #[s.v,.string x] w (zge w s x):=by
 have HKL2:=hi9 h.a.len;have HKS:=hi9 h.a;have hkx:=h.a.max;unfold maxLen at hkx;have V0:=hi9 (zb9 w s 25);have B0:=hi9 (za w (.cells #[.slice s.KA s.kn s.kc,.slice s.AA s.an s.ac] 25));have HV:=hi9 (show s.v = .agg #[.slice s.KA s.kn s.kc,.slice s.AA s.an s.ac] from rfl);rw [HV.out];clear h;go_enter Tryz.func13,Tryz.ntmps13;go_wp2_with fail;go_loopw [5] (fun i wr=>∃k:Nat,i = .int .i64 k∧k≤s.an∧Hid (∀y∈s.L.take k,y.d.id≠x)∧Hid (Below w.heap.size w wr)∧Hid (Vs wr w.heap.size s)) (fun i _=>s.an-(intOf i).toNat)
 case atStart=>exact⟨0,rfl,Nat.zero_le _,hi9 (by intro y hy;simp at hy),B0,V0⟩
 case round =>
  obtain⟨k,rfl,hk,hN,hB,hV⟩:=hrel;obtain⟨v0,v1⟩:=hV.out;clear B0 V0;by_cases hlt:k<s.an
  ·have hkl:k<s.L.length:=by rw [←HKL2.out];exact hlt
   obtain⟨a,ea,q0,-,-,-,-⟩:=(HKS.out.keep hB.out).at_ k _ (List.getElem?_eq_getElem hkl);rw [ea] at v1;by_cases hs:s.L[k].d.id=x
   ·have HP:=hi9 (show zge w s x (.returned (.int .i64 k)) wr from⟨.inr ⟨k,hkl,by
     unfold zbx Sc.a
     rw [List.find?_map]
     rw [zbX (i:=k) hkl (by simp [hs]) (fun y hy=>by simpa using hN.out y hy)]
     rfl,rfl⟩,hB.out⟩)
    rw [hs] at q0
    clear hN hB hV hs
    go_wp2_with fail
    go_ret
    exact HP.out
   ·have HN2:=hi9 (show∀y∈s.L.take (k+1),y.d.id≠x from fun y hy=>by
     rw [List.take_succ_eq_append_getElem hkl,List.mem_append] at hy
     rcases hy with hy|hy
     ·exact hN.out y hy
     ·simp only [List.mem_cons,List.not_mem_nil,or_false] at hy
      subst hy;exact hs)
    have f6:(s.L[k].d.id.toList==x.toList)=false:=beq_eq_false_iff_ne.2 (fun q=>hs (toList_inj q))
    generalize s.L[k]=z at *
    clear hN hs
    go_wp2_with fail
    go_roundw
    case rel=>exact⟨k+1,by go_num,hlt,HN2,hB,hV⟩
    case measure=>simp [intOf];omega
  ·have HP:=hi9 (show zge w s x (.returned (.int .i64 (-1))) wr from⟨.inl ⟨by
    unfold zbx Sc.a
    rw [List.find?_eq_none]
    intro y hy
    obtain⟨z,hz,rfl⟩:=List.mem_map.1 hy
    simpa using hN.out z (by rw [List.take_of_length_le (by rw [←HKL2.out];omega)];exact hz),rfl⟩,hB.out⟩)
   clear hN hB hV
   go_wp2_with fail
   go_ret
   exact HP.out
def koI(s:Sc)(x:ByteArray):Int:=match s.K.findIdx? (fun y=>decide (y.d.nm=x)) with
 | some i=>(i:Int)
 | none => -1
theorem zsB{s:Sc}{x:ByteArray}{i:Nat}(h:i<s.K.length)(hs:s.K[i].d.nm=x)(hn:∀y∈s.K.take i,y.d.nm≠x):koI s x=(i:Int):=by
 unfold koI;rw [List.findIdx?_eq_some_iff_getElem.2 ⟨h,by simp [hs],fun j hj=>by
  simpa using hn s.K[j] (List.mem_take_iff_getElem.2 ⟨j,by omega,rfl⟩)⟩]
theorem zqL{s:Sc}{x:ByteArray}(hn:∀y∈s.K,y.d.nm≠x):koI s x = -1:=by
 unfold koI;rw [List.findIdx?_eq_none_iff.2 (fun y hy=>by simpa using hn y hy)]
theorem zpE(s:Sc)(x:ByteArray):(zaE s.k x=none∧koI s x = -1)∨∃i,∃h:i<s.K.length,zaE s.k x=some s.K[i].d∧koI s x=(i:Int):=by
 unfold koI;rcases hf:s.K.findIdx? (fun y=>decide (y.d.nm=x)) with _|i
 ·left;refine⟨?_,by rw [hf]⟩;unfold zaE Sc.k;rw [List.find?_eq_none];intro y hy;obtain⟨z,hz,rfl⟩:=List.mem_map.1 hy;have:=List.findIdx?_eq_none_iff.1 hf z hz;simpa using this
 ·right;obtain⟨h,hp,hn⟩:=List.findIdx?_eq_some_iff_getElem.1 hf;refine⟨i,h,?_,by rw [hf]⟩;unfold zaE Sc.k;rw [List.find?_map];rw [zbX (i:=i) h (by simpa using hp) (fun y hy=>by
   obtain⟨j,hj,rfl⟩:=List.mem_take_iff_getElem.1 hy
   simpa using hn j (by omega))]
  rfl
theorem zlB(s:Sc)(x:ByteArray)(w:World)(h:zcO w s):
 Calls Tryz.prog 64 #[s.v,.string x] w fun e w'=>e = .returned (.int .i64 (koI s x))∧Below w.heap.size w w':=by
 have HKL2:=hi9 h.k.len;have HKS:=hi9 h.k;have hkx:=h.k.max;unfold maxLen at hkx;have V0:=hi9 (zb9 w s 25);have B0:=hi9 (za w (.cells #[.slice s.KA s.kn s.kc,.slice s.AA s.an s.ac] 25));have HV:=hi9 (show s.v = .agg #[.slice s.KA s.kn s.kc,.slice s.AA s.an s.ac] from rfl);rw [HV.out];clear h;go_enter Tryz.func64,Tryz.ntmps64;go_wp2_with fail;go_loopw [5] (fun i wr=>∃k:Nat,i = .int .i64 k∧k≤s.kn∧Hid (∀y∈s.K.take k,y.d.nm≠x)∧Hid (Below w.heap.size w wr)∧Hid (Vs wr w.heap.size s)) (fun i _=>s.kn-(intOf i).toNat)
 case atStart=>exact⟨0,rfl,Nat.zero_le _,hi9 (by intro y hy;simp at hy),B0,V0⟩
 case round =>
  obtain⟨k,rfl,hk,hN,hB,hV⟩:=hrel;obtain⟨v0,v1⟩:=hV.out;clear B0 V0;by_cases hlt:k<s.kn
  ·have hkl:k<s.K.length:=by rw [←HKL2.out];exact hlt
   obtain⟨a,ea,q0,-,-,-⟩:=(HKS.out.keep hB.out).at_ k _ (List.getElem?_eq_getElem hkl);rw [ea] at v0;by_cases hs:s.K[k].d.nm=x
   ·have HP:=hi9 (zsB hkl hs hN.out);rw [hs] at q0;clear hN hV hs;go_wp2_with fail;go_ret;exact⟨by rw [HP.out];rfl,hB.out⟩
   ·have HN2:=hi9 (show∀y∈s.K.take (k+1),y.d.nm≠x from fun y hy=>by
     rw [List.take_succ_eq_append_getElem hkl,List.mem_append] at hy
     rcases hy with hy|hy
     ·exact hN.out y hy
     ·simp only [List.mem_cons,List.not_mem_nil,or_false] at hy
      subst hy;exact hs)
    have f6:(s.K[k].d.nm.toList==x.toList)=false:=beq_eq_false_iff_ne.2 (fun q=>hs (toList_inj q))
    generalize s.K[k]=z at *
    clear hN hs
    go_wp2_with fail
    go_roundw
    case rel=>exact⟨k+1,by go_num,hlt,HN2,hB,hV⟩
    case measure=>simp [intOf];omega
  ·have HP:=hi9 (zqL (s:=s) (x:=x) (fun y hy=>hN.out y (by rw [List.take_of_length_le (by rw [←HKL2.out];omega)];exact hy)));clear hN hV;go_wp2_with fail;go_ret;exact⟨by rw [HP.out];rfl,hB.out⟩
theorem zgU(a b:ByteArray):(a.toList==b.toList)=decide (a=b):=by
 by_cases h:a=b
 ·rw [decide_eq_true h,h];exact beq_self_eq_true _
 ·rw [decide_eq_false h];exact beq_eq_false_iff_ne.2 fun q=>h (toList_inj q)
theorem zix{L:List Ft}{j:Nat}(h:j<L.length)(P:List Nd)(s:ByteArray):jp (ftK (L.take (j+1))) P s=(jp (ftK (L.take j)) P s ||(decide (L[j].s=s)&& decide (zW L[j].P P=0))):=by
 unfold ftK jp;rw [List.take_succ_eq_append_getElem h,List.map_append,List.any_append];simp
theorem zrX(S:Nat→Prop)(x:Rs)(s:ByteArray)(A:Option Addr)(n c:Nat)(EA:Option Addr)(en ec:Nat)(FA:Option Addr)(fn fc:Nat)(w:World)(hA:∀a,A=some a→S a.block)(k:Ns w A n c (Kd.base 49).flat):
 Calls Tryz.prog 34 #[x.v,.agg #[.slice A n c,.int .i64 0],.string s,.slice EA en ec,.slice FA fn fc] w (zR S w (.ok (.base 49))):=by
 obtain⟨a0,ea0,hn1,d0,d2⟩:=zf3 k;have hn0:(0:Int)<(n:Int):=by omega
 have hn00:0<n:=hn1;subst ea0;have b1:=za w x.o;have b2:=b1.trans ((za (w.alloc x.o) (.cells #[.slice (some a0) n c,.int .i64 0] 30)).mono b1.size);have B0:=hi9 (b2.trans ((za ((w.alloc x.o).alloc (.cells #[.slice (some a0) n c,.int .i64 0] 30)) (.cells #[.slice none 0 0,.int .i64 0] 30)).mono b2.size));have V0:=hi9 (((zbf w x).keep (za _ (.cells #[.slice (some a0) n c,.int .i64 0] 30))).keep (za _ (.cells #[.slice none 0 0,.int .i64 0] 30)));have K0:=hi9 (show Vgk ((w.alloc x.o).alloc (.cells #[.slice (some a0) n c,.int .i64 0] 30)) (w.heap.size+1) (some a0) n c 0 from by have:=zcV (w.alloc x.o) (some a0) n c 0 30;rwa [show(w.alloc x.o).heap.size=w.heap.size+1 from by simp [go_sem]] at this);have K0:=hi9 (K0.out.keep (za _ (.cells #[.slice none 0 0,.int .i64 0] 30)));have R0:=hi9 (zdI w x.o (.cells #[.slice (some a0) n c,.int .i64 0] 30) 30);clear b1 b2;have N0:=hi9 (k.keep B0.out);have HFR:=hi9 (znZ (S:=S) (w:=w) (rb:=w.heap.size+1+1) (A:=some a0) (by omega) (fun a e=>⟨hA a e,by injection e with e;subst e;exact zbv k (by simp [Kd.flat])⟩));unfold Rs.o at V0 B0 K0 R0 N0;unfold Rs.v;have e0:=zb B0.out d0;simp only [kOp] at e0 d0;obtain⟨c0,c1,c2,c3,c4⟩:=V0.out;obtain⟨g0,g1⟩:=K0.out;have bq:=za w x.o;have bq2:=bq.trans ((za (w.alloc x.o) (.cells #[.slice (some a0) n c,.int .i64 0] 30)).mono bq.size);have BQ:=hi9 (bq2.trans ((za ((w.alloc x.o).alloc (.cells #[.slice (some a0) n c,.int .i64 0] 30)) (.cells #[.slice (some a0) n c,.int .i64 0] 30)).mono bq2.size));have NQ:=hi9 (k.keep BQ.out);unfold Rs.o at NQ BQ;clear k d0 d2 N0 HFR bq bq2;go_enter Tryz.func34,Tryz.ntmps34;go_wp2_with fail;exact bodyPost_ret (v := .agg #[.slice (some a0) n c,.int .i64 0]) (by simp [results,Tryz.results34,go_sem]) rfl (ztg NQ.out (fun a e => .inl (hA a e)) BQ.out)
theorem zpT(S:Nat→Prop)(x:Rs)(k0:Kd)(s:ByteArray)(A:Option Addr)(n c:Nat)(EA:Option Addr)(en ec:Nat)(FA:Option Addr)(fn fc:Nat)(w:World)(k:Ns w A n c k0.flat)(h1:kOp k0≠49)(h2:kOp k0≠44)(h3:kOp k0≠46):
 Calls Tryz.prog 34 #[x.v,.agg #[.slice A n c,.int .i64 0],.string s,.slice EA en ec,.slice FA fn fc] w (zR S w (.error 2)):=by
 obtain⟨a0,ea0,hn1,d0,d2⟩:=zf3 k;have hn0:(0:Int)<(n:Int):=by omega
 have hn00:0<n:=hn1;subst ea0;have KD:=hi9 (fun w' (hb:Below w.heap.size w w')=>zeA (some a0) n c k0 0 46 44 w' (k.keep hb));have b1:=za w x.o;have b2:=b1.trans ((za (w.alloc x.o) (.cells #[.slice (some a0) n c,.int .i64 0] 30)).mono b1.size);have B0:=hi9 (b2.trans ((za ((w.alloc x.o).alloc (.cells #[.slice (some a0) n c,.int .i64 0] 30)) (.cells #[.slice none 0 0,.int .i64 0] 30)).mono b2.size));have V0:=hi9 (((zbf w x).keep (za _ (.cells #[.slice (some a0) n c,.int .i64 0] 30))).keep (za _ (.cells #[.slice none 0 0,.int .i64 0] 30)));have K0:=hi9 (show Vgk ((w.alloc x.o).alloc (.cells #[.slice (some a0) n c,.int .i64 0] 30)) (w.heap.size+1) (some a0) n c 0 from by have:=zcV (w.alloc x.o) (some a0) n c 0 30;rwa [show(w.alloc x.o).heap.size=w.heap.size+1 from by simp [go_sem]] at this);have K0:=hi9 (K0.out.keep (za _ (.cells #[.slice none 0 0,.int .i64 0] 30)));have R0:=hi9 (zdI w x.o (.cells #[.slice (some a0) n c,.int .i64 0] 30) 30);clear b1 b2;have HM:=hi9 (show zj [46,44] k0=false by rw [za8];rw [decide_eq_false h3,decide_eq_false h2,decide_eq_false h1];rfl);unfold Rs.o at V0 B0 K0 R0;unfold Rs.v;have KE:=hi9 (KD.out _ B0.out);rw [HM.out] at KE;have e0:=zb B0.out d0;have q0:kOp k0≠49:=h1;have f1:(kOp k0==49)=false:=beq_eq_false_iff_ne.2 q0;generalize kOp k0=oo at *;obtain⟨c0,c1,c2,c3,c4⟩:=V0.out;obtain⟨g0,g1⟩:=K0.out;clear k d0 d2 h1 h2 h3 q0 KD HM;go_enter Tryz.func34,Tryz.ntmps34;go_wp2_with fail;refine(KE.out).mono ?_;rintro e w1 ⟨rfl,b1⟩;have B1:=bh B0 b1;have R1:=hi9 (R0.out.keep b1);have V1:=hi9 (V0.out.keep b1);have K1:=hi9 (K0.out.keep b1);clear b1 B0 R0 V0 K0;clear c0 c1 c2 c3 c4 g0 g1;go_wp2_with fail;refine(zH _ _).mono ?_;rintro e w2 ⟨rfl,b2⟩;have B2:=bh B1 b2;have R2:=hi9 (R1.out.keep b2);clear b2 B1 R1;have RS:=R2.out.set (.slice none 0 0) (.int .i64 2);obtain⟨s0,s1,-,-⟩:=RS;have GF:=hi9 (zq (S:=S) (r := .error 2) (zY _) zI B2.out (show w.heap.size≤w.heap.size+1+1 by omega));obtain⟨r0,r1,z0,z1⟩:=R2.out;go_wp2_with fail;exact bodyPost_ret (v := .agg #[.slice none 0 0,.int .i64 2]) (by simp [results,Tryz.results34,go_sem,s0,s1]) rfl GF.out
theorem zsl(S:Nat→Prop)(x:Rs)(g:Fl)(s:ByteArray)(A:Option Addr)(n c:Nat)(EA:Option Addr)(en ec:Nat)(P:List Nd)(FA:Option Addr)(fn fc:Nat)(L:List Ft)(w:World)(hs:s.size≤maxLen)(hg:KOk (.fs g))(hA:∀a,A=some a→S a.block)(k:Ns w A n c (Kd.fs g).flat)(hE:Ns w EA en ec P)(hF:Fts w FA fn fc L):
 Calls Tryz.prog 34 #[x.v,.agg #[.slice A n c,.int .i64 0],.string s,.slice EA en ec,.slice FA fn fc] w (zR S w (zaM g s (jp (ftK L) P s))):=by
 obtain⟨ta,ea0,hn1,d0,d2⟩:=zf3 k;have hn0:(0:Int)<(n:Int):=by omega
 have hn00:0<n:=hn1;subst ea0;have NP:=hi9 (fun w' (hb:Below w.heap.size w w')=>k.keep hb);have D0:=hi9 d0;have HTA:=hi9 (show S ta.block∧ta.block<w.heap.size from⟨hA ta rfl,zbv k (by simp [Kd.flat])⟩);have KD:=hi9 (fun w' (hb:Below w.heap.size w w')=>zeA (some ta) n c (.fs g) 0 46 44 w' (k.keep hb));clear hA;have HFL:=hi9 hF.len;have hfm:=hF.max;unfold maxLen at hfm;have HFT:=hi9 (fun w' (hb:Below w.heap.size w w')=>hF.keep hb);have HEE:=hi9 (fun w' (hb:Below w.heap.size w w')=>hE.keep hb);have h4:n≤4000:=by rw [(NP.out w (Below.refl _ _)).len,jd];have:=hg.2;omega
 have FK:=hi9 (fun w' (hb:Below w.heap.size w w')=>zbY g hg.1 (some ta) n c s w' (NP.out w' hb) h4 hs);clear k;rcases hfi:g.find s with _|⟨m,k1⟩
 ·have b1:=za w x.o;have b2:=b1.trans ((za (w.alloc x.o) (.cells #[.slice (some ta) n c,.int .i64 0] 30)).mono b1.size);have B0:=hi9 (b2.trans ((za ((w.alloc x.o).alloc (.cells #[.slice (some ta) n c,.int .i64 0] 30)) (.cells #[.slice none 0 0,.int .i64 0] 30)).mono b2.size));have V0:=hi9 (((zbf w x).keep (za _ (.cells #[.slice (some ta) n c,.int .i64 0] 30))).keep (za _ (.cells #[.slice none 0 0,.int .i64 0] 30)));have K0:=hi9 (show Vgk ((w.alloc x.o).alloc (.cells #[.slice (some ta) n c,.int .i64 0] 30)) (w.heap.size+1) (some ta) n c 0 from by have:=zcV (w.alloc x.o) (some ta) n c 0 30;rwa [show(w.alloc x.o).heap.size=w.heap.size+1 from by simp [go_sem]] at this);have K0:=hi9 (K0.out.keep (za _ (.cells #[.slice none 0 0,.int .i64 0] 30)));have R0:=hi9 (zdI w x.o (.cells #[.slice (some ta) n c,.int .i64 0] 30) 30);clear b1 b2;unfold Rs.o at V0 B0 K0 R0;unfold Rs.v;have KE:=hi9 (KD.out _ B0.out);rw [show zj [46,44] (Kd.fs g)=true from by rw [za8];rfl] at KE;have e0:=zb B0.out d0;simp only [kOp] at e0 d0;rw [zcv hfi] at FK;rw [show zaM g s (jp (ftK L) P s)= .error 3 by unfold zaM;rw [hfi]];clear hfi;clear KD d0 d2 hE hF hg h4;obtain⟨c0,c1,c2,c3,c4⟩:=V0.out;obtain⟨g0,g1⟩:=K0.out;go_enter Tryz.func34,Tryz.ntmps34;go_wp2_with fail;refine(KE.out).mono ?_;rintro e w1 ⟨rfl,b1⟩;have B1:=bh B0 b1;have R1:=hi9 (R0.out.keep b1);have V1:=hi9 (V0.out.keep b1);have K1:=hi9 (K0.out.keep b1);clear b1 B0 R0 V0 K0;clear c0 c1 c2 c3 c4 g0 g1;obtain⟨c0,c1,c2,c3,c4⟩:=V1.out;obtain⟨g0,g1⟩:=K1.out;have e0:=zb B1.out D0.out;simp only [kOp] at e0;go_wp2_with fail;refine(FK.out _ B1.out).mono ?_;rintro e w2 ⟨rfl,b2⟩;have B2:=bh B1 b2;have R2:=hi9 (R1.out.keep b2);have V2:=hi9 (V1.out.keep b2);have K2:=hi9 (K1.out.keep b2);clear b2 B1 R1 V1 K1;clear c0 c1 c2 c3 c4 g0 g1;go_wp2_with fail;refine(zH _ _).mono ?_;rintro e w3 ⟨rfl,b3⟩;have B3:=bh B2 b3;have R3:=hi9 (R2.out.keep b3);clear b3 B2 R2;have RS:=R3.out.set (.slice none 0 0) (.int .i64 3);obtain⟨s0,s1,-,-⟩:=RS;have GF:=hi9 (zq (S:=S) (r := .error 3) (zY _) zI B3.out (show w.heap.size≤w.heap.size+1+1 by omega));obtain⟨r0,r1,z0,z1⟩:=R3.out;go_wp2_with fail;exact bodyPost_ret (v := .agg #[.slice none 0 0,.int .i64 3]) (by simp [results,Tryz.results34,go_sem,s0,s1]) rfl GF.out
 ·have b1:=za w x.o;have b2:=b1.trans ((za (w.alloc x.o) (.cells #[.slice (some ta) n c,.int .i64 0] 30)).mono b1.size);have B0:=hi9 (b2.trans ((za ((w.alloc x.o).alloc (.cells #[.slice (some ta) n c,.int .i64 0] 30)) (.cells #[.slice none 0 0,.int .i64 0] 30)).mono b2.size));have V0:=hi9 (((zbf w x).keep (za _ (.cells #[.slice (some ta) n c,.int .i64 0] 30))).keep (za _ (.cells #[.slice none 0 0,.int .i64 0] 30)));have K0:=hi9 (show Vgk ((w.alloc x.o).alloc (.cells #[.slice (some ta) n c,.int .i64 0] 30)) (w.heap.size+1) (some ta) n c 0 from by have:=zcV (w.alloc x.o) (some ta) n c 0 30;rwa [show(w.alloc x.o).heap.size=w.heap.size+1 from by simp [go_sem]] at this);have K0:=hi9 (K0.out.keep (za _ (.cells #[.slice none 0 0,.int .i64 0] 30)));have R0:=hi9 (zdI w x.o (.cells #[.slice (some ta) n c,.int .i64 0] 30) 30);clear b1 b2;unfold Rs.o at V0 B0 K0 R0;unfold Rs.v;have KE:=hi9 (KD.out _ B0.out);rw [show zj [46,44] (Kd.fs g)=true from by rw [za8];rfl] at KE;have e0:=zb B0.out d0;simp only [kOp] at e0 d0;obtain⟨q,hq,hQK⟩:=zbo (za9.start hg.1) hfi;rw [hq] at FK;have HQ:=hi9 hQK.nd;have HQK:=hi9 hQK;have HFI:=hi9 hfi;have hql:q<n:=by rw [(NP.out w (Below.refl _ _)).len];exact(List.getElem?_eq_some_iff.1 hQK.nd).1
  clear hq hQK hfi;clear KD d0 d2 hE hF hg h4;obtain⟨c0,c1,c2,c3,c4⟩:=V0.out;obtain⟨g0,g1⟩:=K0.out;go_enter Tryz.func34,Tryz.ntmps34;go_wp2_with fail;refine(KE.out).mono ?_;rintro e w1 ⟨rfl,b1⟩;have B1:=bh B0 b1;have R1:=hi9 (R0.out.keep b1);have V1:=hi9 (V0.out.keep b1);have K1:=hi9 (K0.out.keep b1);clear b1 B0 R0 V0 K0;clear c0 c1 c2 c3 c4 g0 g1;obtain⟨c0,c1,c2,c3,c4⟩:=V1.out;obtain⟨g0,g1⟩:=K1.out;have e0:=zb B1.out D0.out;simp only [kOp] at e0;go_wp2_with fail;refine(FK.out _ B1.out).mono ?_;rintro e w2 ⟨rfl,b2⟩;have B2:=bh B1 b2;have R2:=hi9 (R1.out.keep b2);have V2:=hi9 (V1.out.keep b2);have K2:=hi9 (K1.out.keep b2);clear b2 B1 R1 V1 K1;clear c0 c1 c2 c3 c4 g0 g1;obtain⟨a3,ea3,t0,t1,t2,t3⟩:=(NP.out _ B2.out).at_ q _ HQ.out;obtain rfl:ta=a3:=Option.some.inj ea3;have hqi:(q:Int)<(n:Int):=by omega
  simp only [zbM] at t0 t1 t2 t3;obtain⟨mi,hmi⟩:∃mi:Int,mi=(if m=true then 1 else 0):=⟨_,rfl⟩
  rw [←hmi] at t1;have fm:(mi==1)=m:=by rw [hmi];cases m <;> rfl
  clear hmi t0 t2 t3 ea3;go_wp2_with fail;go_loopw [14,15] (fun v u wr=>∃j:Nat,u = .int .i64 j∧j≤fn∧v = .bool (m || jp (ftK (L.take j)) P s)∧Hid (Below w2.heap.size w2 wr)) (fun _ u _=>fn-(intOf u).toNat)
  case atStart=>exact⟨0,rfl,Nat.zero_le _,by simp [ftK,jp],hi9 (Below.refl _ _)⟩
  case round =>
   obtain⟨j,rfl,hj,rfl,hB⟩:=hrel;have B9:=bh B2 hB.out;by_cases hlt:j<fn
   ·have hjl:j<L.length:=by rw [←HFL.out];exact hlt
    obtain⟨fa,rfl,u0,u1,hok⟩:=(HFT.out _ B9.out).at_ j L[j] (List.getElem?_eq_getElem hjl);have HKN:=hi9 (zix hjl P s);have KN:=hi9 (zjE L[j].A EA L[j].n en L[j].c ec L[j].P P wr hok.ns.len (HEE.out _ B9.out).len hok.ns.max (HEE.out _ B9.out).max hok.ns.at_ (HEE.out _ B9.out).at_ hok.ns.ok (HEE.out _ B9.out).ok);have hji:(j:Int)<(fn:Int):=by omega
    generalize L[j]=y at *;clear hok hjl;have fs:=zgU y.s s;by_cases g:y.s=s
    ·rw [decide_eq_true g] at fs HKN;go_wp2_with fail;refine KN.out.mono ?_;rintro e w9 ⟨rfl,b9⟩;have HB9:=bh hB b9;by_cases gz:zW y.P P=0
     ·have fz:(zW y.P P==0)=true:=beq_iff_eq.2 gz;rw [decide_eq_true gz] at HKN;go_wp2_with fail;go_roundw
      case rel=>exact⟨j+1,by go_num,by omega,by rw [HKN.out];simp,HB9⟩
      case measure=>simp [intOf];omega
     ·have fz:(zW y.P P==0)=false:=beq_eq_false_iff_ne.2 gz;rw [decide_eq_false gz] at HKN;go_wp2_with fail;go_roundw
      case rel=>exact⟨j+1,by go_num,by omega,by rw [HKN.out];simp,HB9⟩
      case measure=>simp [intOf];omega
    ·rw [decide_eq_false g] at fs HKN;go_wp2_with fail;go_roundw
     case rel=>exact⟨j+1,by go_num,by omega,by rw [HKN.out];simp,hB⟩
     case measure=>simp [intOf];omega
   ·have hjf:j=fn:=by omega
    subst hjf;have HAL:=hi9 (show L.take j=L from List.take_of_length_le (by rw [←HFL.out];exact Nat.le_refl _));rw [HAL.out];have R9:=hi9 (R2.out.keep hB.out);have HK9:=hi9 (NP.out _ B9.out);obtain⟨w9,rfl⟩:∃w9:World,w9=wr:=⟨_,rfl⟩
    by_cases gb:(m || jp (ftK L) P s)=true
    ·have HR:=hi9 (show zaM g s (jp (ftK L) P s)= .ok k1 by unfold zaM;rw [HFI.out];simp only;rw [if_pos gb]);have KP:=hi9 (zce (Kd.fs g).flat q s m k1 HQK.out ta n c w9 HK9.out);have NK:=hi9 (zex HQK.out HK9.out);clear HFI t1;go_wp2_with fail;refine KP.out.mono ?_;rintro e w10 ⟨rfl,b10⟩;have B10:=bh B9 b10;have R10:=hi9 (R9.out.keep b10);have N10:=hi9 (NK.out.keep b10);clear b10;go_wp2_with fail;refine(jV _ _ _ _).mono ?_;rintro e w11 ⟨rfl,b11⟩;have B11:=bh B10 b11;have R11:=hi9 (R10.out.keep b11);have N11:=hi9 (N10.out.keep b11);have HFR:=hi9 (show∀a,some (ta.add ((q+1)*4))=some a→(S a.block∨w.heap.size≤a.block)∧a.block≠w.heap.size+1+1 from fun a e=>by injection e with e;subst e;exact⟨.inl HTA.out.1,by have:=HTA.out.2;show ta.block≠_;omega⟩);clear b11 R10 R9 N10 NK;have RS:=R11.out.set (.slice (some (ta.add ((q+1)*4))) k1.flat.length (c-(q+1))) (.int .i64 0);obtain⟨s0,s1,-,-⟩:=RS;have GF:=hi9 (zq (S:=S) (r := .ok k1) N11.out HFR.out B11.out (show w.heap.size≤w.heap.size+1+1 by omega));obtain⟨r0,r1,z0,z1⟩:=R11.out;go_wp2_with fail;exact bodyPost_ret (v := .agg #[.slice (some (ta.add ((q+1)*4))) k1.flat.length (c-(q+1)),.int .i64 0]) (by simp [results,Tryz.results34,go_sem,s0,s1]) rfl (by rw [HR.out];exact GF.out)
    ·have HR:=hi9 (show zaM g s (jp (ftK L) P s)= .error 3 by unfold zaM;rw [HFI.out];simp only;rw [if_neg gb]);have gb:=Bool.eq_false_iff.2 gb;clear HFI t1;go_wp2_with fail;refine(zH _ _).mono ?_;rintro e w10 ⟨rfl,b10⟩;have B10:=bh B9 b10;have R10:=hi9 (R9.out.keep b10);clear b10 B9 R9;have RS:=R10.out.set (.slice none 0 0) (.int .i64 3);obtain⟨s0,s1,-,-⟩:=RS;have GF:=hi9 (zq (S:=S) (r := .error 3) (zY _) zI B10.out (show w.heap.size≤w.heap.size+1+1 by omega));obtain⟨r0,r1,z0,z1⟩:=R10.out;go_wp2_with fail;exact bodyPost_ret (v := .agg #[.slice none 0 0,.int .i64 3]) (by simp [results,Tryz.results34,go_sem,s0,s1]) rfl (by rw [HR.out];exact GF.out)
theorem zsF(S:Nat→Prop)(x:Rs)(u:ByteArray)(s:ByteArray)(A:Option Addr)(n c:Nat)(EA:Option Addr)(en ec:Nat)(P:List Nd)(FA:Option Addr)(fn fc:Nat)(L:List Ft)(w:World)(h:zna w x)(hs:s.size≤maxLen)(hB:∀y∈x.s.K,∀a,y.NA=some a→S a.block)(k:Ns w A n c (Kd.ent u).flat)(hE:Ns w EA en ec P)(hF:Fts w FA fn fc L):
 Calls Tryz.prog 34 #[x.v,.agg #[.slice A n c,.int .i64 0],.string s,.slice EA en ec,.slice FA fn fc] w (zR S w (zca x.t (.ent u) s (jp (ftK L) P s))):=by
 obtain⟨a0,ea0,hn1,d0,d2⟩:=zf3 k;have hn0:(0:Int)<(n:Int):=by omega
 have hn00:0<n:=hn1;subst ea0;have KD:=hi9 (fun w' (hb:Below w.heap.size w w')=>zeA (some a0) n c (.ent u) 0 46 44 w' (k.keep hb));have KO:=hi9 (fun w' (hb:Below w.heap.size w w')=>zlB x.s u w' (h.s.keep hb));have D0:=hi9 d0;have D2:=hi9 d2;have HSC:=hi9 (fun w' (hb:Below w.heap.size w w')=>h.s.keep hb);have HRR:=hi9 (zpE x.s u);have HKD:=hi9 h.ok.kds;have HKB:=hi9 h.kds;have HDW:=hi9 h.d;unfold Sc.v at KO;rcases HRR.out with ⟨hk0,hki⟩|⟨i,hi,hk0,hki⟩
 ·have b1:=za w x.o;have b2:=b1.trans ((za (w.alloc x.o) (.cells #[.slice (some a0) n c,.int .i64 0] 30)).mono b1.size);have B0:=hi9 (b2.trans ((za ((w.alloc x.o).alloc (.cells #[.slice (some a0) n c,.int .i64 0] 30)) (.cells #[.slice none 0 0,.int .i64 0] 30)).mono b2.size));have V0:=hi9 (((zbf w x).keep (za _ (.cells #[.slice (some a0) n c,.int .i64 0] 30))).keep (za _ (.cells #[.slice none 0 0,.int .i64 0] 30)));have K0:=hi9 (show Vgk ((w.alloc x.o).alloc (.cells #[.slice (some a0) n c,.int .i64 0] 30)) (w.heap.size+1) (some a0) n c 0 from by have:=zcV (w.alloc x.o) (some a0) n c 0 30;rwa [show(w.alloc x.o).heap.size=w.heap.size+1 from by simp [go_sem]] at this);have K0:=hi9 (K0.out.keep (za _ (.cells #[.slice none 0 0,.int .i64 0] 30)));have R0:=hi9 (zdI w x.o (.cells #[.slice (some a0) n c,.int .i64 0] 30) 30);clear b1 b2;unfold Rs.o at V0 B0 K0 R0;unfold Rs.v;have KE:=hi9 (KD.out _ B0.out);rw [show zj [46,44] (Kd.ent u)=true from by rw [za8];rfl] at KE;have e0:=zb B0.out d0;simp only [kOp] at e0 d0;rw [hki] at KO;rw [show zca x.t (.ent u) s (jp (ftK L) P s)= .error 3 by unfold zca;simp only;rw [show zaE x.t.K u=none from hk0]];clear k d0 d2 h hE hF KD HSC HRR HKD HKB HDW hk0 hki;obtain⟨c0,c1,c2,c3,c4⟩:=V0.out;obtain⟨g0,g1⟩:=K0.out;go_enter Tryz.func34,Tryz.ntmps34;go_wp2_with fail;refine(KE.out).mono ?_;rintro e w1 ⟨rfl,b1⟩;have B1:=bh B0 b1;have R1:=hi9 (R0.out.keep b1);have V1:=hi9 (V0.out.keep b1);have K1:=hi9 (K0.out.keep b1);clear b1 B0 R0 V0 K0;clear c0 c1 c2 c3 c4 g0 g1;obtain⟨c0,c1,c2,c3,c4⟩:=V1.out;obtain⟨g0,g1⟩:=K1.out;have e0:=zb B1.out D0.out;have e2:=zb B1.out D2.out;simp only [kOp,kNm] at e0 e2;go_wp2_with fail;have PX:=hi9 (jU w1);have KK:∀w':World,Below w1.heap.size w1 w'→w'.cell? ⟨w.heap.size,0,none⟩=some (.slice x.s.KA x.s.kn x.s.kc)∧w'.cell? ⟨w.heap.size,1,none⟩=some (.slice x.s.AA x.s.an x.s.ac)∧w'.cell? ⟨a0.block,a0.off+2,none⟩=some (.string u):=fun w' hb=>⟨zb hb c0,zb hb c1,zb hb e2⟩
  go_region_held3 (fun w':World=>w'.cell? ⟨w.heap.size,0,none⟩=some (.slice x.s.KA x.s.kn x.s.kc)∧w'.cell? ⟨w.heap.size,1,none⟩=some (.slice x.s.AA x.s.an x.s.ac)∧w'.cell? ⟨a0.block,a0.off+2,none⟩=some (.string u)) (with_reducible exact KK _ PX.out) (first|(go_at_call 64;(with_reducible refine(KO.out _ (bh B1 PX.out).out).mono ?_);rintro e w2 ⟨rfl,b2⟩;have PX:=bh PX b2)|fail);have B2:=bh B1 PX.out;have R2:=hi9 (R1.out.keep PX.out);have V2:=hi9 (V1.out.keep PX.out);have K2:=hi9 (K1.out.keep PX.out);clear KK PX KO e0 e2;clear c0 c1 c2 c3 c4 g0 g1;obtain⟨c0,c1,c2,c3,c4⟩:=V2.out;obtain⟨g0,g1⟩:=K2.out;clear c0 c1 c2 c3 c4 g0 g1;go_wp2_with fail;refine(zH _ _).mono ?_;rintro e w3 ⟨rfl,b3⟩;have B3:=bh B2 b3;have R3:=hi9 (R2.out.keep b3);clear b3 B2 R2;have RS:=R3.out.set (.slice none 0 0) (.int .i64 3);obtain⟨s0,s1,-,-⟩:=RS;have GF:=hi9 (zq (S:=S) (r := .error 3) (zY _) zI B3.out (show w.heap.size≤w.heap.size+1+1 by omega));obtain⟨r0,r1,z0,z1⟩:=R3.out;go_wp2_with fail;exact bodyPost_ret (v := .agg #[.slice none 0 0,.int .i64 3]) (by simp [results,Tryz.results34,go_sem,s0,s1]) rfl GF.out
 ·obtain⟨f,hf⟩:=HKD.out x.s.K[i].d (ziR hk0);have hkl:i<x.s.kn:=by rw [h.s.k.len];exact hi
  obtain⟨ka,eka,hk1,hk2,hk3,hkok⟩:=h.s.k.at_ i _ (List.getElem?_eq_getElem hi);have hfl:x.s.K[i].d.P=(Kd.fs f).flat:=hf.e;have hg:KOk (.fs f):=zkp hf;have hnsk:=hkok.ns;rw [hfl] at hnsk;obtain⟨ta,eta⟩:=zmv hnsk (by simp [Kd.flat]);rw [show zca x.t (.ent u) s (jp (ftK L) P s)=zaM f s (jp (ftK L) P s) by unfold zca;simp only;rw [show zaE x.t.K u=some x.s.K[i].d from hk0];simp only;rw [zck hf]];have HTA:=hi9 (show S ta.block∧ta.block<w.heap.size from⟨hB _ (List.getElem_mem hi) ta eta,by have:=zbv (by rw [eta] at hnsk;exact hnsk) (by simp [Kd.flat]);exact this⟩);have hii:(i:Int)<(x.s.kn:Int):=by omega
  have K3:=hi9 hk3;have EKA:=hi9 eka;generalize x.s.K[i].NA=NA at *;generalize x.s.K[i].nn=tn at *;generalize x.s.K[i].nc=tc at *;subst eta;have NP:=hi9 (fun w' (hb:Below w.heap.size w w')=>hnsk.keep hb);obtain⟨g,hgf⟩:∃g,g=f:=⟨_,rfl⟩
  subst hgf;clear hfl hk1 hk2 hk3 hkok hnsk hf HRR HKD HKB HDW hk0 hi eka;have HFL:=hi9 hF.len;have hfm:=hF.max;unfold maxLen at hfm;have HFT:=hi9 (fun w' (hb:Below w.heap.size w w')=>hF.keep hb);have HEE:=hi9 (fun w' (hb:Below w.heap.size w w')=>hE.keep hb);have h4:tn≤4000:=by rw [(NP.out w (Below.refl _ _)).len,jd];have:=hg.2;omega
  have FK:=hi9 (fun w' (hb:Below w.heap.size w w')=>zbY g hg.1 (some ta) tn tc s w' (NP.out w' hb) h4 hs);rcases hfi:g.find s with _|⟨m,k1⟩
  ·have b1:=za w x.o;have b2:=b1.trans ((za (w.alloc x.o) (.cells #[.slice (some a0) n c,.int .i64 0] 30)).mono b1.size);have B0:=hi9 (b2.trans ((za ((w.alloc x.o).alloc (.cells #[.slice (some a0) n c,.int .i64 0] 30)) (.cells #[.slice none 0 0,.int .i64 0] 30)).mono b2.size));have V0:=hi9 (((zbf w x).keep (za _ (.cells #[.slice (some a0) n c,.int .i64 0] 30))).keep (za _ (.cells #[.slice none 0 0,.int .i64 0] 30)));have K0:=hi9 (show Vgk ((w.alloc x.o).alloc (.cells #[.slice (some a0) n c,.int .i64 0] 30)) (w.heap.size+1) (some a0) n c 0 from by have:=zcV (w.alloc x.o) (some a0) n c 0 30;rwa [show(w.alloc x.o).heap.size=w.heap.size+1 from by simp [go_sem]] at this);have K0:=hi9 (K0.out.keep (za _ (.cells #[.slice none 0 0,.int .i64 0] 30)));have R0:=hi9 (zdI w x.o (.cells #[.slice (some a0) n c,.int .i64 0] 30) 30);clear b1 b2;unfold Rs.o at V0 B0 K0 R0;unfold Rs.v;have KE:=hi9 (KD.out _ B0.out);rw [show zj [46,44] (Kd.ent u)=true from by rw [za8];rfl] at KE;have e0:=zb B0.out d0;simp only [kOp] at e0 d0;rw [hki] at KO;rw [zcv hfi] at FK;rw [show zaM g s (jp (ftK L) P s)= .error 3 by unfold zaM;rw [hfi]];clear hfi;clear k d0 d2 h hE hF KD HSC hki hg h4 hB;obtain⟨c0,c1,c2,c3,c4⟩:=V0.out;obtain⟨g0,g1⟩:=K0.out;go_enter Tryz.func34,Tryz.ntmps34;go_wp2_with fail;refine(KE.out).mono ?_;rintro e w1 ⟨rfl,b1⟩;have B1:=bh B0 b1;have R1:=hi9 (R0.out.keep b1);have V1:=hi9 (V0.out.keep b1);have K1:=hi9 (K0.out.keep b1);clear b1 B0 R0 V0 K0;clear c0 c1 c2 c3 c4 g0 g1;obtain⟨c0,c1,c2,c3,c4⟩:=V1.out;obtain⟨g0,g1⟩:=K1.out;have e0:=zb B1.out D0.out;have e2:=zb B1.out D2.out;simp only [kOp,kNm] at e0 e2;go_wp2_with fail;rw [EKA.out] at c0 KO;have PX:=hi9 (jU w1);have KK:∀w':World,Below w1.heap.size w1 w'→w'.cell? ⟨w.heap.size,0,none⟩=some (.slice (some ka) x.s.kn x.s.kc)∧w'.cell? ⟨w.heap.size,1,none⟩=some (.slice x.s.AA x.s.an x.s.ac)∧w'.cell? ⟨a0.block,a0.off+2,none⟩=some (.string u):=fun w' hb=>⟨zb hb c0,zb hb c1,zb hb e2⟩
   go_region_held3 (fun w':World=>w'.cell? ⟨w.heap.size,0,none⟩=some (.slice (some ka) x.s.kn x.s.kc)∧w'.cell? ⟨w.heap.size,1,none⟩=some (.slice x.s.AA x.s.an x.s.ac)∧w'.cell? ⟨a0.block,a0.off+2,none⟩=some (.string u)) (with_reducible exact KK _ PX.out) (first|(go_at_call 64;(with_reducible refine(KO.out _ (bh B1 PX.out).out).mono ?_);rintro e w2 ⟨rfl,b2⟩;have PX:=bh PX b2)|fail);have B2:=bh B1 PX.out;have R2:=hi9 (R1.out.keep PX.out);have V2:=hi9 (V1.out.keep PX.out);have K2:=hi9 (K1.out.keep PX.out);clear KK PX KO e0 e2;clear c0 c1 c2 c3 c4 g0 g1;obtain⟨c0,c1,c2,c3,c4⟩:=V2.out;obtain⟨g0,g1⟩:=K2.out;rw [EKA.out] at c0;have k3:=zb B2.out K3.out;go_wp2_with fail;refine(FK.out _ B2.out).mono ?_;rintro e w3 ⟨rfl,b3⟩;have B3:=bh B2 b3;have R3:=hi9 (R2.out.keep b3);have V3:=hi9 (V2.out.keep b3);have K3:=hi9 (K2.out.keep b3);clear b3 B2 R2 V2 K2;clear c0 c1 c2 c3 c4 g0 g1;go_wp2_with fail;refine(zH _ _).mono ?_;rintro e w4 ⟨rfl,b4⟩;have B4:=bh B3 b4;have R4:=hi9 (R3.out.keep b4);clear b4 B3 R3;have RS:=R4.out.set (.slice none 0 0) (.int .i64 3);obtain⟨s0,s1,-,-⟩:=RS;have GF:=hi9 (zq (S:=S) (r := .error 3) (zY _) zI B4.out (show w.heap.size≤w.heap.size+1+1 by omega));obtain⟨r0,r1,z0,z1⟩:=R4.out;go_wp2_with fail;exact bodyPost_ret (v := .agg #[.slice none 0 0,.int .i64 3]) (by simp [results,Tryz.results34,go_sem,s0,s1]) rfl GF.out
  ·have b1:=za w x.o;have b2:=b1.trans ((za (w.alloc x.o) (.cells #[.slice (some a0) n c,.int .i64 0] 30)).mono b1.size);have B0:=hi9 (b2.trans ((za ((w.alloc x.o).alloc (.cells #[.slice (some a0) n c,.int .i64 0] 30)) (.cells #[.slice none 0 0,.int .i64 0] 30)).mono b2.size));have V0:=hi9 (((zbf w x).keep (za _ (.cells #[.slice (some a0) n c,.int .i64 0] 30))).keep (za _ (.cells #[.slice none 0 0,.int .i64 0] 30)));have K0:=hi9 (show Vgk ((w.alloc x.o).alloc (.cells #[.slice (some a0) n c,.int .i64 0] 30)) (w.heap.size+1) (some a0) n c 0 from by have:=zcV (w.alloc x.o) (some a0) n c 0 30;rwa [show(w.alloc x.o).heap.size=w.heap.size+1 from by simp [go_sem]] at this);have K0:=hi9 (K0.out.keep (za _ (.cells #[.slice none 0 0,.int .i64 0] 30)));have R0:=hi9 (zdI w x.o (.cells #[.slice (some a0) n c,.int .i64 0] 30) 30);clear b1 b2;unfold Rs.o at V0 B0 K0 R0;unfold Rs.v;have KE:=hi9 (KD.out _ B0.out);rw [show zj [46,44] (Kd.ent u)=true from by rw [za8];rfl] at KE;have e0:=zb B0.out d0;simp only [kOp] at e0 d0;rw [hki] at KO;obtain⟨q,hq,hQK⟩:=zbo (za9.start hg.1) hfi;rw [hq] at FK;have HQ:=hi9 hQK.nd;have HQK:=hi9 hQK;have HFI:=hi9 hfi;have hql:q<tn:=by rw [(NP.out w (Below.refl _ _)).len];exact(List.getElem?_eq_some_iff.1 hQK.nd).1
   clear hq hQK hfi;clear k d0 d2 h hE hF KD HSC hki hg h4 hB;obtain⟨c0,c1,c2,c3,c4⟩:=V0.out;obtain⟨g0,g1⟩:=K0.out;go_enter Tryz.func34,Tryz.ntmps34;go_wp2_with fail;refine(KE.out).mono ?_;rintro e w1 ⟨rfl,b1⟩;have B1:=bh B0 b1;have R1:=hi9 (R0.out.keep b1);have V1:=hi9 (V0.out.keep b1);have K1:=hi9 (K0.out.keep b1);clear b1 B0 R0 V0 K0;clear c0 c1 c2 c3 c4 g0 g1;obtain⟨c0,c1,c2,c3,c4⟩:=V1.out;obtain⟨g0,g1⟩:=K1.out;have e0:=zb B1.out D0.out;have e2:=zb B1.out D2.out;simp only [kOp,kNm] at e0 e2;go_wp2_with fail;rw [EKA.out] at c0 KO;have PX:=hi9 (jU w1);have KK:∀w':World,Below w1.heap.size w1 w'→w'.cell? ⟨w.heap.size,0,none⟩=some (.slice (some ka) x.s.kn x.s.kc)∧w'.cell? ⟨w.heap.size,1,none⟩=some (.slice x.s.AA x.s.an x.s.ac)∧w'.cell? ⟨a0.block,a0.off+2,none⟩=some (.string u):=fun w' hb=>⟨zb hb c0,zb hb c1,zb hb e2⟩
   go_region_held3 (fun w':World=>w'.cell? ⟨w.heap.size,0,none⟩=some (.slice (some ka) x.s.kn x.s.kc)∧w'.cell? ⟨w.heap.size,1,none⟩=some (.slice x.s.AA x.s.an x.s.ac)∧w'.cell? ⟨a0.block,a0.off+2,none⟩=some (.string u)) (with_reducible exact KK _ PX.out) (first|(go_at_call 64;(with_reducible refine(KO.out _ (bh B1 PX.out).out).mono ?_);rintro e w2 ⟨rfl,b2⟩;have PX:=bh PX b2)|fail);have B2:=bh B1 PX.out;have R2:=hi9 (R1.out.keep PX.out);have V2:=hi9 (V1.out.keep PX.out);have K2:=hi9 (K1.out.keep PX.out);clear KK PX KO e0 e2;clear c0 c1 c2 c3 c4 g0 g1;obtain⟨c0,c1,c2,c3,c4⟩:=V2.out;obtain⟨g0,g1⟩:=K2.out;rw [EKA.out] at c0;have k3:=zb B2.out K3.out;go_wp2_with fail;refine(FK.out _ B2.out).mono ?_;rintro e w3 ⟨rfl,b3⟩;have B3:=bh B2 b3;have R3:=hi9 (R2.out.keep b3);have V3:=hi9 (V2.out.keep b3);have K3:=hi9 (K2.out.keep b3);clear b3 B2 R2 V2 K2;clear c0 c1 c2 c3 c4 g0 g1;obtain⟨a3,ea3,t0,t1,t2,t3⟩:=(NP.out _ B3.out).at_ q _ HQ.out;obtain rfl:ta=a3:=Option.some.inj ea3;have hqi:(q:Int)<(tn:Int):=by omega
   simp only [zbM] at t0 t1 t2 t3;obtain⟨mi,hmi⟩:∃mi:Int,mi=(if m=true then 1 else 0):=⟨_,rfl⟩
   rw [←hmi] at t1;have fm:(mi==1)=m:=by rw [hmi];cases m <;> rfl
   clear hmi t0 t2 t3 ea3;go_wp2_with fail;go_loopw [14,15] (fun v u wr=>∃j:Nat,u = .int .i64 j∧j≤fn∧v = .bool (m || jp (ftK (L.take j)) P s)∧Hid (Below w3.heap.size w3 wr)) (fun _ u _=>fn-(intOf u).toNat)
   case atStart=>exact⟨0,rfl,Nat.zero_le _,by simp [ftK,jp],hi9 (Below.refl _ _)⟩
   case round =>
    obtain⟨j,rfl,hj,rfl,hB⟩:=hrel;have B9:=bh B3 hB.out;by_cases hlt:j<fn
    ·have hjl:j<L.length:=by rw [←HFL.out];exact hlt
     obtain⟨fa,rfl,u0,u1,hok⟩:=(HFT.out _ B9.out).at_ j L[j] (List.getElem?_eq_getElem hjl);have HKN:=hi9 (zix hjl P s);have KN:=hi9 (zjE L[j].A EA L[j].n en L[j].c ec L[j].P P wr hok.ns.len (HEE.out _ B9.out).len hok.ns.max (HEE.out _ B9.out).max hok.ns.at_ (HEE.out _ B9.out).at_ hok.ns.ok (HEE.out _ B9.out).ok);have hji:(j:Int)<(fn:Int):=by omega
     generalize L[j]=y at *;clear hok hjl;have fs:=zgU y.s s;by_cases g:y.s=s
     ·rw [decide_eq_true g] at fs HKN;go_wp2_with fail;refine KN.out.mono ?_;rintro e w9 ⟨rfl,b9⟩;have HB9:=bh hB b9;by_cases gz:zW y.P P=0
      ·have fz:(zW y.P P==0)=true:=beq_iff_eq.2 gz;rw [decide_eq_true gz] at HKN;go_wp2_with fail;go_roundw
       case rel=>exact⟨j+1,by go_num,by omega,by rw [HKN.out];simp,HB9⟩
       case measure=>simp [intOf];omega
      ·have fz:(zW y.P P==0)=false:=beq_eq_false_iff_ne.2 gz;rw [decide_eq_false gz] at HKN;go_wp2_with fail;go_roundw
       case rel=>exact⟨j+1,by go_num,by omega,by rw [HKN.out];simp,HB9⟩
       case measure=>simp [intOf];omega
     ·rw [decide_eq_false g] at fs HKN;go_wp2_with fail;go_roundw
      case rel=>exact⟨j+1,by go_num,by omega,by rw [HKN.out];simp,hB⟩
      case measure=>simp [intOf];omega
    ·have hjf:j=fn:=by omega
     subst hjf;have HAL:=hi9 (show L.take j=L from List.take_of_length_le (by rw [←HFL.out];exact Nat.le_refl _));rw [HAL.out];have R9:=hi9 (R3.out.keep hB.out);have HK9:=hi9 (NP.out _ B9.out);obtain⟨w9,rfl⟩:∃w9:World,w9=wr:=⟨_,rfl⟩
     by_cases gb:(m || jp (ftK L) P s)=true
     ·have HR:=hi9 (show zaM g s (jp (ftK L) P s)= .ok k1 by unfold zaM;rw [HFI.out];simp only;rw [if_pos gb]);have KP:=hi9 (zce (Kd.fs g).flat q s m k1 HQK.out ta tn tc w9 HK9.out);have NK:=hi9 (zex HQK.out HK9.out);clear HFI t1;go_wp2_with fail;refine KP.out.mono ?_;rintro e w10 ⟨rfl,b10⟩;have B10:=bh B9 b10;have R10:=hi9 (R9.out.keep b10);have N10:=hi9 (NK.out.keep b10);clear b10;go_wp2_with fail;refine(jV _ _ _ _).mono ?_;rintro e w11 ⟨rfl,b11⟩;have B11:=bh B10 b11;have R11:=hi9 (R10.out.keep b11);have N11:=hi9 (N10.out.keep b11);have HFR:=hi9 (show∀a,some (ta.add ((q+1)*4))=some a→(S a.block∨w.heap.size≤a.block)∧a.block≠w.heap.size+1+1 from fun a e=>by injection e with e;subst e;exact⟨.inl HTA.out.1,by have:=HTA.out.2;show ta.block≠_;omega⟩);clear b11 R10 R9 N10 NK;have RS:=R11.out.set (.slice (some (ta.add ((q+1)*4))) k1.flat.length (tc-(q+1))) (.int .i64 0);obtain⟨s0,s1,-,-⟩:=RS;have GF:=hi9 (zq (S:=S) (r := .ok k1) N11.out HFR.out B11.out (show w.heap.size≤w.heap.size+1+1 by omega));obtain⟨r0,r1,z0,z1⟩:=R11.out;go_wp2_with fail;exact bodyPost_ret (v := .agg #[.slice (some (ta.add ((q+1)*4))) k1.flat.length (tc-(q+1)),.int .i64 0]) (by simp [results,Tryz.results34,go_sem,s0,s1]) rfl (by rw [HR.out];exact GF.out)
     ·have HR:=hi9 (show zaM g s (jp (ftK L) P s)= .error 3 by unfold zaM;rw [HFI.out];simp only;rw [if_neg gb]);have gb:=Bool.eq_false_iff.2 gb;clear HFI t1;go_wp2_with fail;refine(zH _ _).mono ?_;rintro e w10 ⟨rfl,b10⟩;have B10:=bh B9 b10;have R10:=hi9 (R9.out.keep b10);clear b10 B9 R9;have RS:=R10.out.set (.slice none 0 0) (.int .i64 3);obtain⟨s0,s1,-,-⟩:=RS;have GF:=hi9 (zq (S:=S) (r := .error 3) (zY _) zI B10.out (show w.heap.size≤w.heap.size+1+1 by omega));obtain⟨r0,r1,z0,z1⟩:=R10.out;go_wp2_with fail;exact bodyPost_ret (v := .agg #[.slice none 0 0,.int .i64 3]) (by simp [results,Tryz.results34,go_sem,s0,s1]) rfl (by rw [HR.out];exact GF.out)
end Go.Proofs.YtjcdeikbghjpkaaGreatDoor
