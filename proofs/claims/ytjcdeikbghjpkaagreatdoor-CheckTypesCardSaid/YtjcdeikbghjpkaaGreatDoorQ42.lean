/-
  schema.Check. slices.IndexFunc over kinds; schema.Kind. slices.IndexFunc over acts; schema.Act (written by gen_schact.py).
-/
import Derived.WalkKit
import Derived.StringKeys
import Derived.Test.YtjcdeikbghjpkaaGreatDoorQ6
import Derived.Test.YtjcdeikbghjpkaaGreatDoorQ14
import Derived.Test.YtjcdeikbghjpkaaGreatDoorQ19
import Derived.Test.YtjcdeikbghjpkaaGreatDoorQ21
import Derived.Test.YtjcdeikbghjpkaaGreatDoorQ41
set_option maxRecDepth 100000
set_option maxHeartbeats 4000000
namespace Go.Proofs.YtjcdeikbghjpkaaGreatDoor
open Go.RowKit Go.Wk Go.Sort
theorem zfI:Go.Maps.Keyed Tryz.prog 9:=Go.Maps.string_keyed Tryz.underlying9
theorem zjP(w:World):(zeroValue 3).run Tryz.prog w = .ok (.int .i64 0) w:=by kernel_rfl
theorem zaU{w w':World}{b o:Nat}{v:Value}{g:Option Nat}(hg:w.grownBy w' g)(hn:some b≠g)(h:w.cell? ⟨b,o,none⟩=some v):w'.cell? ⟨b,o,none⟩=some v :=
 (World.cell?_of_block (a:=⟨b,o,none⟩) (hg.block b (block_lt_of_cell h) hn)).trans h
theorem Vs.but{w w':World}{b:Nat}{s:Sc}{g:Option Nat}(h:Vs w b s)(hg:w.grownBy w' g)(hn:some b≠g):Vs w' b s :=
 ⟨zaU hg hn h.c0,zaU hg hn h.c1⟩
theorem Vk.but{w w':World}{b:Nat}{s:Kn}{g:Option Nat}(h:Vk w b s)(hg:w.grownBy w' g)(hn:some b≠g):Vk w' b s :=
 ⟨zaU hg hn h.c0,zaU hg hn h.c1,zaU hg hn h.c2⟩
theorem Va.but{w w':World}{b:Nat}{s:An}{g:Option Nat}(h:Va w b s)(hg:w.grownBy w' g)(hn:some b≠g):Va w' b s :=
 ⟨zaU hg hn h.c0,zaU hg hn h.c1,zaU hg hn h.c2,zaU hg hn h.c3⟩
theorem zoX{A:Option Addr}{n c:Nat}{N:List ByteArray}{w:World}(h:Txs w A n c N):
 Calls Tryz.prog 37 #[.slice (some ⟨w.heap.size,0,none⟩) 1 1] (w.alloc (.cells #[.slice A n c] 39)) fun e w'=>e = .returned (zao (zbm [⟨A,n,c,N⟩]))∧Below (w.alloc (.cells #[.slice A n c] 39)).heap.size (w.alloc (.cells #[.slice A n c] 39)) w' :=
 zfO ⟨w.heap.size,0,none⟩ 1 1 [⟨A,n,c,N⟩] _ rfl (by omega) fun j y hy=>by
  match j,hy with
  | 0,hy =>
   simp only [List.getElem?_cons_zero,Option.some.injEq] at hy
   subst hy
   exact⟨zx (heap_alloc_last w _) rfl,h.keep (za w _)⟩
  | j+1,hy=>simp at hy
theorem zoM{A A':Option Addr}{n c n' c':Nat}{N N':List ByteArray}{w:World}(h:Txs w A n c N)(h':Txs w A' n' c' N'):
 Calls Tryz.prog 37 #[.slice (some ⟨w.heap.size,0,none⟩) 2 2] (w.alloc (.cells #[.slice A n c,.slice A' n' c'] 39)) fun e w'=>e = .returned (zao (zbm [⟨A,n,c,N⟩,⟨A',n',c',N'⟩]))∧Below (w.alloc (.cells #[.slice A n c,.slice A' n' c'] 39)).heap.size (w.alloc (.cells #[.slice A n c,.slice A' n' c'] 39)) w' :=
 zfO ⟨w.heap.size,0,none⟩ 2 2 [⟨A,n,c,N⟩,⟨A',n',c',N'⟩] _ rfl (by omega) fun j y hy=>by
  match j,hy with
  | 0,hy =>
   simp only [List.getElem?_cons_zero,Option.some.injEq] at hy
   subst hy
   exact⟨zx (heap_alloc_last w _) rfl,h.keep (za w _)⟩
  | 1,hy =>
   simp only [List.getElem?_cons_succ,List.getElem?_cons_zero,Option.some.injEq] at hy
   subst hy
   exact⟨zx (heap_alloc_last w _) rfl,h'.keep (za w _)⟩
  | j+2,hy=>simp at hy
def zcS(N:List ByteArray):List (ByteArray × Value):=N.zipIdx.map fun p=>(p.1,.int .i64 p.2)
theorem ziX(N:List ByteArray)(x:ByteArray):zcS (N ++ [x])=zcS N ++ [(x,.int .i64 N.length)]:=by
 unfold zcS;rw [List.zipIdx_append,List.map_append];simp
theorem zjJ(N:List ByteArray)(x:ByteArray):((zcS N).any fun p=>decide (p.1=x))=jS N x:=by
 have e:((zcS N).any fun p=>decide (p.1=x))=((zcS N).map (·.1)).any fun y=>decide (y=x):=by rw [List.any_map];rfl
 have e2:(zcS N).map (·.1)=N:=by
  unfold zcS;rw [List.map_map];exact List.zipIdx_map_fst 0 N
 rw [e,e2];unfold jS;congr 1;funext y;have:=zt.zero y x;simp [this]
theorem zoD(A:Option Addr)(n c:Nat)(N:List ByteArray)(r:Int):or2 (if 6<N.length then 4 else 0) (or2 (zX N) r)=or2 (zbm [⟨A,n,c,N⟩]) r:=by
 unfold zbm;by_cases h:6<N.length
 ·simp [h];rw [zB (by decide),zB (by decide)]
 ·simp only [h,List.any_cons,List.any_nil,decide_false,Bool.or_false,if_false,zs];simp only [zcJ,Bool.false_eq_true,if_false];rw [show or2 (zX N) 0=zX N by by_cases e:zX N=0 <;> simp [or2,e]]
theorem zox(A:Option Addr)(n c:Nat)(N:List ByteArray)(A':Option Addr)(n' c':Nat)(N':List ByteArray)(r:Int):or2 (if 6<N.length∨6<N'.length then 4 else 0) (or2 (zX N) (or2 (zX N') r))=or2 (zbm [⟨A,n,c,N⟩,⟨A',n',c',N'⟩]) r:=by
 unfold zbm;by_cases h:6<N.length∨6<N'.length
 ·simp [h];rw [zB (by decide),zB (by decide)]
 ·have h1:¬6<N.length:=fun q=>h (.inl q);have h2:¬6<N'.length:=fun q=>h (.inr q);simp only [h1,h2,List.any_cons,List.any_nil,decide_false,Bool.or_false,if_false,zs,or_self];simp only [zcJ,Bool.false_eq_true,if_false];rw [show or2 (zX N') 0=zX N' by by_cases e:zX N'=0 <;> simp [or2,e],zgE]
theorem zki(s:Sc)(w:World)(h:zcO w s):
 Calls Tryz.prog 16 #[s.v] w fun e w'=>e = .returned (zao (zaa s.k s.a))∧Below w.heap.size w w':=by
 have hmm:=@run_makeMap Tryz.prog;have HKL:=hi9 (show s.kn=s.k.length by unfold Sc.k;rw [List.length_map];exact h.k.len);have HAL:=hi9 (show s.an=s.a.length by unfold Sc.a;rw [List.length_map];exact h.a.len);have HKL2:=hi9 h.k.len;have HAL2:=hi9 h.a.len;have hkx:=h.k.max;have hax:=h.a.max;unfold maxLen at hkx hax;have V0:=hi9 (zb9 w s 25);have B0:=hi9 (za w (.cells #[.slice s.KA s.kn s.kc,.slice s.AA s.an s.ac] 25));have HV:=hi9 (show s.v = .agg #[.slice s.KA s.kn s.kc,.slice s.AA s.an s.ac] from rfl);by_cases h8:8<s.kn∨8<s.an
 ·have HR:=hi9 (show zaa s.k s.a=4 by unfold zaa;rw [if_pos (by rw [←HKL.out,←HAL.out];exact h8)]);rw [HV.out];by_cases h81:8<s.kn
  ·have f1:decide (8<(s.kn:Int))=true:=decide_eq_true (by omega);clear h h8 h81;go_enter Tryz.func16,Tryz.ntmps16;go_wp2_with fail;go_ret;exact⟨by rw [HR.out];rfl,B0.out⟩
  ·have f1:decide (8<(s.kn:Int))=false:=decide_eq_false (by omega);have f2:decide (8<(s.an:Int))=true:=decide_eq_true (by omega);clear h h8 h81;go_enter Tryz.func16,Tryz.ntmps16;go_wp2_with fail;go_ret;exact⟨by rw [HR.out];rfl,B0.out⟩
 ·have HR:=hi9 (show zaa s.k s.a=or2 (zeN [] s.k) (zdS [] s.a) by unfold zaa;rw [if_neg (by rw [←HKL.out,←HAL.out];exact h8)]);have f1:decide (8<(s.kn:Int))=false:=decide_eq_false (by omega);have f2:decide (8<(s.an:Int))=false:=decide_eq_false (by omega);have HS:=hi9 h;rw [HV.out];clear h h8;go_enter Tryz.func16,Tryz.ntmps16;go_wp2_with fail;go_loopw [34] (fun i wr=>∃k:Nat,i = .int .i64 k∧k≤s.kn∧Hid (zeN [] s.k=zeN ((s.k.take k).map KD.nm) (s.k.drop k))∧Hid (wr.ownsMap Tryz.prog 9 zg5 (w.heap.size+1) k (zh2 (zcS ((s.K.take k).map fun x=>x.d.nm))))∧Hid (Below w.heap.size w wr)∧Hid (Vs wr w.heap.size s)) (fun i _=>s.kn-(intOf i).toNat)
  case atStart =>
   have e:(w.alloc (.cells #[.slice s.KA s.kn s.kc,.slice s.AA s.an s.ac] 25)).heap.size=w.heap.size+1:=by simp
   exact⟨0,rfl,Nat.zero_le _,hi9 (by simp),hi9 (by rw [←e];exact World.ownsMap_made _ _ _ _),hi9 (B0.out.alloc (Nat.le_of_lt (by rw [e];omega)) _),hi9 (V0.out.keep (za _ _))⟩
  case round =>
   obtain⟨k,rfl,hk,hF,hO,hB,hV⟩:=hrel;by_cases hlt:k<s.kn
   ·have hkl:k<s.K.length:=by rw [←HKL2.out];exact hlt
    have hkl2:k<s.k.length:=by rw [←HKL.out];exact hlt
    have HF:=hi9 (hF.out.trans (zjU hkl2));rw [Sc.k_at s hkl,Sc.k_names] at HF;obtain⟨a,ea,q0,q1,q2,hok⟩:=(HS.out.k.keep hB.out).at_ k _ (List.getElem?_eq_getElem hkl);have HOK:=hi9 (fun w' (hb:Below w.heap.size w w')=>(let ⟨_,_,_,_,_,h⟩:=(HS.out.k.keep hb).at_ k _ (List.getElem?_eq_getElem hkl);h:zmM w' s.K[k]));have HNL:=hi9 (show((s.K.take (k+1)).map fun x=>x.d.nm)=((s.K.take k).map fun x=>x.d.nm)++ [s.K[k].d.nm] by rw [List.take_succ_eq_append_getElem hkl,List.map_append];rfl);have HNN:=hi9 (show((s.K.take k).map fun x=>x.d.nm).length=k by rw [List.length_map,List.length_take];omega);generalize hNS1:((s.K.take (k+1)).map fun x=>x.d.nm)=NS1 at *;generalize hNS:((s.K.take k).map fun x=>x.d.nm)=NS at *;have HFD:=hi9 (show kdF NS s.K[k].d=or2 (zd s.K[k].d.nm) (or2 (if jS NS s.K[k].d.nm then 6 else 0) (or2 (if 6<s.K[k].d.up.length then 4 else 0) (or2 (zX s.K[k].d.up) (zb4 s.K[k].d.P)))) from rfl);have zz:=hi9 hok.s;have C1:=hi9 (fun w'=>zaB s.K[k].d.nm w' zz.out);generalize s.K[k]=x at *;have BB:=hi9 (za wr (.cells #[.string x.d.nm,.slice x.UA x.un x.uc,.slice x.NA x.nn x.nc] 79));have K1:=hi9 (zrc wr x 79);have HLT:=hi9 hO.out.lt;rw [ea];clear hF V0 B0 hok;go_wp2_with fail;refine(C1.out _).mono ?_;rintro e w1 ⟨rfl,b1⟩;have BW:=hi9 (BB.out.trans (b1.mono BB.out.size));have O1:=hi9 (zaZ hO.out BW.out);have V1:=hi9 (hV.out.keep BW.out);have B1:=hi9 (hB.out.trans (BW.out.mono hB.out.size));have X1:=hi9 (K1.out.keep b1);clear b1 BB K1 hO hV hB BW;by_cases g1:zd x.d.nm=0
    ·rw [g1,zs] at HFD;rw [g1,zM];obtain⟨x0,x1,x2⟩:=X1.out;have HK:=hi9 (show keyOf Tryz.prog 9 (.string x.d.nm)=some (zi5 x.d.nm) from WideMaps.keyOf_string_mk Tryz.underlying9 zz.out);have HA:=hi9 ((zlM (zcS NS) x.d.nm).trans (zjJ NS x.d.nm));clear g1 C1;go_wp2_with (at_lookup;refine wpList_lookup_own_ok _ rfl _ _ 77 rfl 9 3 zfI Tryz.underlying77 zg5 (zjP _) _ [] rfl (w.heap.size+1) k _ rfl O1.out _ _ rfl HK.out ?_);intro v ps hv;rw [HA.out];clear hv HA;by_cases g2:jS NS x.d.nm=true
     ·rw [if_pos g2,zB (by decide)] at HFD;have HE:=hi9 (show zaa s.k s.a=6 by rw [HR.out,HF.out,HFD.out];rfl);rw [g2];clear g2;go_wp2_with fail;go_ret;exact⟨by rw [HE.out];rfl,B1.out⟩
     ·rw [if_neg g2,zs,zoD x.UA x.un x.uc] at HFD;rw [Bool.eq_false_iff.2 g2];clear g2;go_wp2_with (at_mapUpdate;refine wpList_mapUpdate_own _ rfl _ _ _ 77 rfl 9 3 zfI Tryz.underlying77 zg5 (w.heap.size+1) k _ rfl O1.out (by unfold maxLen;omega) _ _ _ rfl rfl HK.out _ [] rfl ?_);intro w4 hown hgrow;have O4:=hi9 (show w4.ownsMap Tryz.prog 9 zg5 (w.heap.size+1) (k+1) (zh2 (zcS NS1)) by
       rw [HNL.out,ziX,zeI,HNN.out];exact hown)
      have B4:=hi9 (B1.out.grown hgrow B1.out.size (fun g hg=>by cases hg;exact Nat.le_succ _));have V4:=hi9 (V1.out.but hgrow (by intro h;injection h with h;omega));have X4:=hi9 (X1.out.but hgrow (by intro h;injection h with h;have:=HLT.out;omega));clear hown hgrow O1 B1 V1 X1 x0 x1 x2 HK;obtain⟨x0,x1,x2⟩:=X4.out;have CN:=hi9 (zoX (HOK.out _ B4.out).us);have BB:=hi9 (za w4 (.cells #[.slice x.UA x.un x.uc] 39));go_wp2_with fail;refine CN.out.mono ?_;rintro e w5 ⟨rfl,b5⟩;have BW:=hi9 (BB.out.trans (b5.mono BB.out.size));have O5:=hi9 (zaZ O4.out BW.out);have V5:=hi9 (V4.out.keep BW.out);have X5:=hi9 (X4.out.keep BW.out);have B5:=hi9 (B4.out.trans (BW.out.mono B4.out.size));clear b5 BB BW O4 V4 X4 B4 CN x0 x1 x2;obtain⟨x0,x1,x2⟩:=X5.out;generalize zbm [⟨x.UA,x.un,x.uc,x.d.up⟩]=r at *;by_cases g3:r=0
      ·subst g3;rw [zs] at HFD;rw [zM];have CR:=hi9 (zeW _ _ _ _ w5 (HOK.out _ B5.out).ns);go_wp2_with fail;refine CR.out.mono ?_;rintro e w6 ⟨rfl,b6⟩;have O6:=hi9 (zaZ O5.out b6);have V6:=hi9 (V5.out.keep b6);have B6:=hi9 (B5.out.trans (b6.mono B5.out.size));clear b6 O5 V5 X5 B5 CR x0 x1 x2;generalize zb4 x.d.P=r at *;by_cases g4:r=0
       ·subst g4;have HF2:=hi9 (show zeN [] s.k=zeN ((s.k.take (k+1)).map KD.nm) (s.k.drop (k+1)) by rw [HF.out,HFD.out,zs]);rw [zM];go_wp2_with fail;go_roundw
        case rel=>exact⟨k+1,by go_num,hlt,HF2,hi9 (by rw [hNS1];exact O6.out),B6,V6⟩
        case measure=>simp [intOf];omega
       ·have HEV:=hi9 (jc g4);have HE:=hi9 (show zaa s.k s.a=r by rw [HR.out,HF.out,HFD.out,zB g4,zB g4]);rw [HEV.out];clear g4;go_wp2_with fail;go_ret;exact⟨by rw [HE.out,HEV.out];rfl,B6.out⟩
      ·rw [zB g3] at HFD;have HEV:=hi9 (jc g3);have HE:=hi9 (show zaa s.k s.a=r by rw [HR.out,HF.out,HFD.out,zB g3,zB g3]);rw [HEV.out];clear g3;go_wp2_with fail;go_ret;exact⟨by rw [HE.out,HEV.out];rfl,B5.out⟩
    ·rw [zB g1] at HFD;have HEV:=hi9 (jc g1);have HE:=hi9 (show zaa s.k s.a=zd x.d.nm by rw [HR.out,HF.out,HFD.out,zB g1,zB g1]);rw [HEV.out];generalize zd x.d.nm=r at *;clear g1;go_wp2_with fail;go_ret;exact⟨by rw [HE.out,HEV.out];rfl,B1.out⟩
   ·have HR2:=hi9 (show zaa s.k s.a=zdS [] s.a by
     rw [HR.out,hF.out,List.drop_eq_nil_of_le (by rw [←HKL.out];omega)]
     exact zs _)
    clear hF hk V0 B0 HR
    obtain⟨w1,hrun,hown,hgrow⟩:=zjh hO.out (mty:=77) Tryz.underlying77
    have O1:=hi9 hown
    have B1:=hi9 (hB.out.grown hgrow hB.out.size (fun g hg=>by cases hg;exact Nat.le_succ _))
    have V1:=hi9 (hV.out.but hgrow (by intro h;injection h with h;omega))
    obtain⟨v0,v1⟩:=V1.out
    clear hown hgrow hO hB hV
    go_wp2_with fail
    go_loopw [76] (fun i wr=>∃k:Nat,i = .int .i64 k∧k≤s.an∧Hid (zdS [] s.a=zdS ((s.a.take k).map AD.id) (s.a.drop k))∧Hid (wr.ownsMap Tryz.prog 9 zg5 (w.heap.size+1) k (zh2 (zcS ((s.L.take k).map fun x=>x.d.id))))∧Hid (Below w.heap.size w wr)∧Hid (Vs wr w.heap.size s)) (fun i _=>s.an-(intOf i).toNat)
    case atStart=>exact⟨0,rfl,Nat.zero_le _,hi9 (by simp),hi9 O1.out,B1,V1⟩
    case round =>
     obtain⟨k,rfl,hk,hF,hO,hB,hV⟩:=hrel;by_cases hlt:k<s.an
     ·have hkl:k<s.L.length:=by rw [←HAL2.out];exact hlt
      have hkl2:k<s.a.length:=by rw [←HAL.out];exact hlt
      have HF:=hi9 (hF.out.trans (zjI hkl2));rw [Sc.a_at s hkl,Sc.a_names] at HF;obtain⟨a,ea,q0,q1,q2,q3,hok⟩:=(HS.out.a.keep hB.out).at_ k _ (List.getElem?_eq_getElem hkl);have HOK:=hi9 (fun w' (hb:Below w.heap.size w w')=>(let ⟨_,_,_,_,_,_,h⟩:=(HS.out.a.keep hb).at_ k _ (List.getElem?_eq_getElem hkl);h:zmB w' s.L[k]));have HNL:=hi9 (show((s.L.take (k+1)).map fun x=>x.d.id)=((s.L.take k).map fun x=>x.d.id)++ [s.L[k].d.id] by rw [List.take_succ_eq_append_getElem hkl,List.map_append];rfl);have HNN:=hi9 (show((s.L.take k).map fun x=>x.d.id).length=k by rw [List.length_map,List.length_take];omega);generalize hNS1:((s.L.take (k+1)).map fun x=>x.d.id)=NS1 at *;generalize hNS:((s.L.take k).map fun x=>x.d.id)=NS at *;have HFD:=hi9 (show adF NS s.L[k].d=or2 (zk s.L[k].d.id) (or2 (if jS NS s.L[k].d.id then 6 else 0) (or2 (if 6<s.L[k].d.who.length∨6<s.L[k].d.what.length then 4 else 0) (or2 (zX s.L[k].d.who) (or2 (zX s.L[k].d.what) (zb4 s.L[k].d.P))))) from rfl);have zz:=hi9 hok.s;have C1:=hi9 (fun w'=>znE s.L[k].d.id w' zz.out);generalize s.L[k]=x at *;have BB:=hi9 (za wr (.cells #[.string x.d.id,.slice x.WA x.wn x.wc,.slice x.TA x.tn x.tc,.slice x.NA x.nn x.nc] 43));have K1:=hi9 (zpH wr x 43);have HLT:=hi9 hO.out.lt;rw [ea];clear hF hok;go_wp2_with fail;refine(C1.out _).mono ?_;rintro e w1 ⟨rfl,b1⟩;have BW:=hi9 (BB.out.trans (b1.mono BB.out.size));have O1:=hi9 (zaZ hO.out BW.out);have V1:=hi9 (hV.out.keep BW.out);have B1:=hi9 (hB.out.trans (BW.out.mono hB.out.size));have X1:=hi9 (K1.out.keep b1);clear b1 BB K1 hO hV hB BW;by_cases g1:zk x.d.id=0
      ·rw [g1,zs] at HFD;rw [g1,zM];obtain⟨x0,x1,x2,x3⟩:=X1.out;have HK:=hi9 (show keyOf Tryz.prog 9 (.string x.d.id)=some (zi5 x.d.id) from WideMaps.keyOf_string_mk Tryz.underlying9 zz.out);have HA:=hi9 ((zlM (zcS NS) x.d.id).trans (zjJ NS x.d.id));clear g1 C1;go_wp2_with (at_lookup;refine wpList_lookup_own_ok _ rfl _ _ 77 rfl 9 3 zfI Tryz.underlying77 zg5 (zjP _) _ [] rfl (w.heap.size+1) k _ rfl O1.out _ _ rfl HK.out ?_);intro v ps hv;rw [HA.out];clear hv HA;by_cases g2:jS NS x.d.id=true
       ·rw [if_pos g2,zB (by decide)] at HFD;have HE:=hi9 (show zaa s.k s.a=6 by rw [HR2.out,HF.out,HFD.out];rfl);rw [g2];clear g2;go_wp2_with fail;go_ret;exact⟨by rw [HE.out];rfl,B1.out⟩
       ·rw [if_neg g2,zs,zox x.WA x.wn x.wc _ x.TA x.tn x.tc] at HFD;rw [Bool.eq_false_iff.2 g2];clear g2;go_wp2_with (at_mapUpdate;refine wpList_mapUpdate_own _ rfl _ _ _ 77 rfl 9 3 zfI Tryz.underlying77 zg5 (w.heap.size+1) k _ rfl O1.out (by unfold maxLen;omega) _ _ _ rfl rfl HK.out _ [] rfl ?_);intro w4 hown hgrow;have O4:=hi9 (show w4.ownsMap Tryz.prog 9 zg5 (w.heap.size+1) (k+1) (zh2 (zcS NS1)) by
         rw [HNL.out,ziX,zeI,HNN.out];exact hown)
        have B4:=hi9 (B1.out.grown hgrow B1.out.size (fun g hg=>by cases hg;exact Nat.le_succ _));have V4:=hi9 (V1.out.but hgrow (by intro h;injection h with h;omega));have X4:=hi9 (X1.out.but hgrow (by intro h;injection h with h;have:=HLT.out;omega));clear hown hgrow O1 B1 V1 X1 x0 x1 x2 x3 HK;obtain⟨x0,x1,x2,x3⟩:=X4.out;have CN:=hi9 (zoM (HOK.out _ B4.out).ws (HOK.out _ B4.out).ts);have BB:=hi9 (za w4 (.cells #[.slice x.WA x.wn x.wc,.slice x.TA x.tn x.tc] 39));go_wp2_with fail;refine CN.out.mono ?_;rintro e w5 ⟨rfl,b5⟩;have BW:=hi9 (BB.out.trans (b5.mono BB.out.size));have O5:=hi9 (zaZ O4.out BW.out);have V5:=hi9 (V4.out.keep BW.out);have X5:=hi9 (X4.out.keep BW.out);have B5:=hi9 (B4.out.trans (BW.out.mono B4.out.size));clear b5 BB BW O4 V4 X4 B4 CN x0 x1 x2 x3;obtain⟨x0,x1,x2,x3⟩:=X5.out;generalize zbm [⟨x.WA,x.wn,x.wc,x.d.who⟩,⟨x.TA,x.tn,x.tc,x.d.what⟩]=r at *;by_cases g3:r=0
        ·subst g3;rw [zs] at HFD;rw [zM];have CR:=hi9 (zeW _ _ _ _ w5 (HOK.out _ B5.out).ns);go_wp2_with fail;refine CR.out.mono ?_;rintro e w6 ⟨rfl,b6⟩;have O6:=hi9 (zaZ O5.out b6);have V6:=hi9 (V5.out.keep b6);have B6:=hi9 (B5.out.trans (b6.mono B5.out.size));clear b6 O5 V5 X5 B5 CR x0 x1 x2 x3;generalize zb4 x.d.P=r at *;by_cases g4:r=0
         ·subst g4;have HF2:=hi9 (show zdS [] s.a=zdS ((s.a.take (k+1)).map AD.id) (s.a.drop (k+1)) by rw [HF.out,HFD.out,zs]);rw [zM];go_wp2_with fail;go_roundw
          case rel=>exact⟨k+1,by go_num,hlt,HF2,hi9 (by rw [hNS1];exact O6.out),B6,V6⟩
          case measure=>simp [intOf];omega
         ·have HEV:=hi9 (jc g4);have HE:=hi9 (show zaa s.k s.a=r by rw [HR2.out,HF.out,HFD.out,zB g4]);rw [HEV.out];clear g4;go_wp2_with fail;go_ret;exact⟨by rw [HE.out,HEV.out];rfl,B6.out⟩
        ·rw [zB g3] at HFD;have HEV:=hi9 (jc g3);have HE:=hi9 (show zaa s.k s.a=r by rw [HR2.out,HF.out,HFD.out,zB g3]);rw [HEV.out];clear g3;go_wp2_with fail;go_ret;exact⟨by rw [HE.out,HEV.out];rfl,B5.out⟩
      ·rw [zB g1] at HFD;have HEV:=hi9 (jc g1);have HE:=hi9 (show zaa s.k s.a=zk x.d.id by rw [HR2.out,HF.out,HFD.out,zB g1]);rw [HEV.out];generalize zk x.d.id=r at *;clear g1;go_wp2_with fail;go_ret;exact⟨by rw [HE.out,HEV.out];rfl,B1.out⟩
     ·have HE:=hi9 (show zaa s.k s.a=0 by
       rw [HR2.out,hF.out,List.drop_eq_nil_of_le (by rw [←HAL.out];omega)];rfl)
      clear hF
      go_wp2_with fail
      go_ret
      exact⟨by rw [HE.out];rfl,hB.out⟩
theorem zn5(a b:ByteArray):decide (a=b)=(a.toList==b.toList):=by
 by_cases h:a=b
 ·subst h;simp
 ·rw [decide_eq_false h];exact(beq_eq_false_iff_ne.2 (fun q=>h (toList_inj q))).symm
theorem zrf(x:Kn)(t:ByteArray)(b:Nat)(w:World)(hv:w.cell? ⟨b,0,none⟩=some (.string t)):
 Calls Tryz.prog 105 #[.agg #[.string x.d.nm,.slice x.UA x.un x.uc,.slice x.NA x.nn x.nc],.pointer (some ⟨b,0,none⟩)] w fun r w'=>r = .returned (.bool (decide (x.d.nm=t)))∧Below w.heap.size w w':=by
 have B0:=hi9 (za w (.cells #[.string x.d.nm,.slice x.UA x.un x.uc,.slice x.NA x.nn x.nc] 79));have c0:=zb B0.out hv;rw [zn5];clear hv;generalize x.d.nm=y at *;go_enter Tryz.func105,Tryz.ntmps105;go_wp2_with fail;go_ret;exact⟨rfl,B0.out⟩
theorem zg8(s:Sc)(t:ByteArray)(b:Nat)(w:World)(h:zcO w s)(hv:w.cell? ⟨b,0,none⟩=some (.string t)):
 Calls Tryz.prog 104 #[.slice s.KA s.kn s.kc,.func (.func 105) #[] #[.pointer (some ⟨b,0,none⟩)]] w (zmJ w s t):=by
 have eg:∀args w,(callFunc 105 args).run Tryz.prog w = .ok (.enter 105 args) w:=enters_of Tryz.func105 (by kernel_rfl) rfl;have K:=hi9 (fun x w' hb=>zrf x t b w' (zb (w':=w') hb hv));have HL:=hi9 h.k.len;have HM:=h.k.max;unfold maxLen at HM;have HA:=hi9 h.k;clear h hv;go_enter Tryz.func104,Tryz.ntmps104;go_wp2_with fail;go_loopw [5,8] (fun _ i wr=>∃k:Nat,k≤s.kn∧i = .int .i64 k∧Hid (∀y∈s.K.take k,y.d.nm≠t)∧Hid (Below w.heap.size w wr)) (fun _ i _=>s.kn-(intOf i).toNat)
 case atStart=>exact⟨0,Nat.zero_le _,rfl,hi9 (by intro y hy;simp at hy),hi9 (Below.refl _ _)⟩
 case round =>
  obtain⟨k,hk,rfl,hN,hB⟩:=hrel;by_cases hlt:k<s.kn
  ·have hkl:k<s.K.length:=by rw [←HL.out];exact hlt
   obtain⟨a,ea,q0,q1,q2,-⟩:=(HA.out.keep hB.out).at_ k _ (List.getElem?_eq_getElem hkl);rw [ea];have KX:=hi9 (K.out s.K[k] wr hB.out);by_cases hs:s.K[k].d.nm=t
   ·have HP:=hi9 (fun w' (hb:Below w.heap.size w w')=>(⟨.inr ⟨k,hkl,by
     unfold zaE Sc.k
     rw [List.find?_map]
     rw [zbX (i:=k) hkl (by simp [hs]) (fun y hy=>by simpa using hN.out y hy)]
     rfl,rfl⟩,hb⟩:zmJ w s t (.returned (.int .i64 k)) w'))
    rw [decide_eq_true hs] at KX
    generalize s.K[k]=x at *
    clear hN hs
    go_wp2_with (go_at_fn 105;refine KX.out.mono ?_;rintro e w1 ⟨rfl,b1⟩)
    have B1:=bh hB b1
    clear q0 q1 q2 hB b1 KX
    go_wp2_with fail
    go_ret
    exact HP.out _ B1.out
   ·have HN2:=hi9 (show∀y∈s.K.take (k+1),y.d.nm≠t from fun y hy=>by
     rw [List.take_succ_eq_append_getElem hkl,List.mem_append] at hy
     rcases hy with hy|hy
     ·exact hN.out y hy
     ·simp only [List.mem_cons,List.not_mem_nil,or_false] at hy
      subst hy;exact hs)
    rw [decide_eq_false hs] at KX
    generalize s.K[k]=x at *
    clear hN hs
    go_wp2_with (go_at_fn 105;refine KX.out.mono ?_;rintro e w1 ⟨rfl,b1⟩)
    have B1:=bh hB b1
    clear q0 q1 q2 hB b1 KX
    go_wp2_with fail
    go_roundw
    case rel=>exact⟨k+1,hlt,by go_num,HN2,B1⟩
    case measure=>simp [intOf];omega
  ·have HP:=hi9 (show zmJ w s t (.returned (.int .i64 (-1))) wr from⟨.inl ⟨by
    unfold zaE Sc.k
    rw [List.find?_eq_none]
    intro y hy
    obtain⟨z,hz,rfl⟩:=List.mem_map.1 hy
    simpa using hN.out z (by rw [List.take_of_length_le (by rw [←HL.out];omega)];exact hz),rfl⟩,hB.out⟩)
   clear hN hB
   go_wp2_with fail
   go_ret
   exact HP.out
def zqM(w:World)(s:Sc)(x:ByteArray)(e:Ending)(w':World):Prop :=
 ((zaE    s.k x = none ∧ e = .returned (.tuple #[.agg #[.string ⟨#[]⟩, .slice none 0 0, .slice none 0 0], .bool false])) ∨
   ∃i,∃h:i<s.K.length,zaE s.k x=some s.K[i].d∧e = .returned (.tuple #[.agg #[.string s.K[i].d.nm,.slice s.K[i].UA s.K[i].un s.K[i].uc,.slice s.K[i].NA s.K[i].nn s.K[i].nc],.bool true]))∧Below w.heap.size w w'
theorem zl6(s:Sc)(t:ByteArray)(w:World)(h:zcO w s):
 Calls Tryz.prog 80 #[s.v,.string t] w (zqM w s t):=by
 have V0:=hi9 (zb9 w s 25);have B0:=hi9 (za w (.cells #[.slice s.KA s.kn s.kc,.slice s.AA s.an s.ac] 25));have HV:=hi9 (show s.v = .agg #[.slice s.KA s.kn s.kc,.slice s.AA s.an s.ac] from rfl);rw [HV.out];have HS:=hi9 h;have HM:=h.k.max;unfold maxLen at HM;have HL:=hi9 h.k.len;clear h;go_enter Tryz.func80,Tryz.ntmps80;go_wp2_with fail;have hsz:(w.alloc (.cells #[.slice s.KA s.kn s.kc,.slice s.AA s.an s.ac] 25)).heap.size=w.heap.size+1:=by simp
 obtain⟨w1,hw1⟩:∃w1,w.alloc (.cells #[.slice s.KA s.kn s.kc,.slice s.AA s.an s.ac] 25)=w1:=⟨_,rfl⟩
 rw [hw1] at V0 B0 hsz ⊢;rw [←hsz];clear hw1;have T2:=jg w1 #[.string t] 9 0 (v := .string t) rfl;have B2:=hi9 (B0.out.trans ((za w1 (.cells #[.string t] 9)).mono B0.out.size));have V2:=hi9 (V0.out.keep (za w1 (.cells #[.string t] 9)));have hsz2:(w1.alloc (.cells #[.string t] 9)).heap.size=w1.heap.size+1:=by simp
 obtain⟨w2,hw2⟩:∃w2,w1.alloc (.cells #[.string t] 9)=w2:=⟨_,rfl⟩
 rw [hw2] at V2 B2 T2 hsz2 ⊢;rw [←hsz2];clear hw2 B0 V0;have R3:=hi9 (zhu w2 (.string ⟨#[]⟩) (.slice none 0 0) (.slice none 0 0) 79);have BB:=za w2 (.cells #[.string ⟨#[]⟩,.slice none 0 0,.slice none 0 0] 79);have B3:=hi9 (B2.out.trans (BB.mono B2.out.size));have V3:=hi9 (V2.out.keep BB);have T3:=zb BB T2;have HW:=hi9 B2.out.size;have KI:=hi9 (zg8 s t _ _ (HS.out.keep B3.out) T3);clear BB B2 V2 T2 T3 hsz hsz2;refine KI.out.mono ?_;rintro e w4 ⟨hc,b4⟩;have B4:=hi9 (B3.out.trans (b4.mono B3.out.size));have V4:=hi9 (V3.out.keep b4);have R4:=hi9 (R3.out.keep b4);clear b4 B3 V3 R3 KI;obtain⟨v0,v1⟩:=V4.out;obtain⟨d0,d1,d2,z0,z1,z2⟩:=R4.out;rcases hc with ⟨hN,rfl⟩|⟨i,hi,hN,rfl⟩
 ·have Y4:=R4.out.set (.string ⟨#[]⟩) (.slice none 0 0) (.slice none 0 0);obtain⟨g0,g1,g2,-,-,-⟩:=Y4;go_wp2_with fail;refine bodyPost_ret (v := .tuple #[.agg #[.string ⟨#[]⟩,.slice none 0 0,.slice none 0 0],.bool false]) (by simp [results,Tryz.results80,go_sem,g0,g1,g2]) rfl ⟨.inl ⟨hN,rfl⟩,?_⟩;exact ze0 B4.out HW.out _ _ _
 ·have hin:i<s.kn:=by rw [HL.out];exact hi
  obtain⟨a,ea,q0,q1,q2,-⟩:=(HS.out.keep B4.out).k.at_ i _ (List.getElem?_eq_getElem hi);have BF:∀w',Below w.heap.size w w'→zqM w s t (.returned (.tuple #[.agg #[.string s.K[i].d.nm,.slice s.K[i].UA s.K[i].un s.K[i].uc,.slice s.K[i].NA s.K[i].nn s.K[i].nc],.bool true])) w':=fun w' hb=>⟨.inr ⟨i,hi,hN,rfl⟩,hb⟩
  have f0:decide ((i:Int)<0)=false:=decide_eq_false (by omega);rw [ea] at v0;generalize s.K[i]=x at *;have Y4:=R4.out.set (.string x.d.nm) (.slice x.UA x.un x.uc) (.slice x.NA x.nn x.nc);obtain⟨g0,g1,g2,-,-,-⟩:=Y4;go_wp2_with fail;refine bodyPost_ret (v := .tuple #[.agg #[.string x.d.nm,.slice x.UA x.un x.uc,.slice x.NA x.nn x.nc],.bool true]) (by simp [results,Tryz.results80,go_sem,g0,g1,g2]) rfl (BF _ ?_);exact ze0 B4.out HW.out _ _ _
theorem zsC(x:An)(t:ByteArray)(b:Nat)(w:World)(hv:w.cell? ⟨b,0,none⟩=some (.string t)):
 Calls Tryz.prog 42 #[.agg #[.string x.d.id,.slice x.WA x.wn x.wc,.slice x.TA x.tn x.tc,.slice x.NA x.nn x.nc],.pointer (some ⟨b,0,none⟩)] w fun r w'=>r = .returned (.bool (decide (x.d.id=t)))∧Below w.heap.size w w':=by
 have B0:=hi9 (za w (.cells #[.string x.d.id,.slice x.WA x.wn x.wc,.slice x.TA x.tn x.tc,.slice x.NA x.nn x.nc] 43));have c0:=zb B0.out hv;rw [zn5];clear hv;generalize x.d.id=y at *;go_enter Tryz.func42,Tryz.ntmps42;go_wp2_with fail;go_ret;exact⟨rfl,B0.out⟩
theorem ziY(s:Sc)(t:ByteArray)(b:Nat)(w:World)(h:zcO w s)(hv:w.cell? ⟨b,0,none⟩=some (.string t)):
 Calls Tryz.prog 41 #[.slice s.AA s.an s.ac,.func (.func 42) #[] #[.pointer (some ⟨b,0,none⟩)]] w (zge w s t):=by
 have eg:∀args w,(callFunc 42 args).run Tryz.prog w = .ok (.enter 42 args) w:=enters_of Tryz.func42 (by kernel_rfl) rfl;have K:=hi9 (fun x w' hb=>zsC x t b w' (zb (w':=w') hb hv));have HL:=hi9 h.a.len;have HM:=h.a.max;unfold maxLen at HM;have HA:=hi9 h.a;clear h hv;go_enter Tryz.func41,Tryz.ntmps41;go_wp2_with fail;go_loopw [5,8] (fun _ i wr=>∃k:Nat,k≤s.an∧i = .int .i64 k∧Hid (∀y∈s.L.take k,y.d.id≠t)∧Hid (Below w.heap.size w wr)) (fun _ i _=>s.an-(intOf i).toNat)
 case atStart=>exact⟨0,Nat.zero_le _,rfl,hi9 (by intro y hy;simp at hy),hi9 (Below.refl _ _)⟩
 case round =>
  obtain⟨k,hk,rfl,hN,hB⟩:=hrel;by_cases hlt:k<s.an
  ·have hkl:k<s.L.length:=by rw [←HL.out];exact hlt
   obtain⟨a,ea,q0,q1,q2,q3,-⟩:=(HA.out.keep hB.out).at_ k _ (List.getElem?_eq_getElem hkl);rw [ea];have KX:=hi9 (K.out s.L[k] wr hB.out);by_cases hs:s.L[k].d.id=t
   ·have HP:=hi9 (fun w' (hb:Below w.heap.size w w')=>(⟨.inr ⟨k,hkl,by
     unfold zbx Sc.a
     rw [List.find?_map]
     rw [zbX (i:=k) hkl (by simp [hs]) (fun y hy=>by simpa using hN.out y hy)]
     rfl,rfl⟩,hb⟩:zge w s t (.returned (.int .i64 k)) w'))
    rw [decide_eq_true hs] at KX
    generalize s.L[k]=x at *
    clear hN hs
    go_wp2_with (go_at_fn 42;refine KX.out.mono ?_;rintro e w1 ⟨rfl,b1⟩)
    have B1:=bh hB b1
    clear q0 q1 q2 q3 hB b1 KX
    go_wp2_with fail
    go_ret
    exact HP.out _ B1.out
   ·have HN2:=hi9 (show∀y∈s.L.take (k+1),y.d.id≠t from fun y hy=>by
     rw [List.take_succ_eq_append_getElem hkl,List.mem_append] at hy
     rcases hy with hy|hy
     ·exact hN.out y hy
     ·simp only [List.mem_cons,List.not_mem_nil,or_false] at hy
      subst hy;exact hs)
    rw [decide_eq_false hs] at KX
    generalize s.L[k]=x at *
    clear hN hs
    go_wp2_with (go_at_fn 42;refine KX.out.mono ?_;rintro e w1 ⟨rfl,b1⟩)
    have B1:=bh hB b1
    clear q0 q1 q2 q3 hB b1 KX
    go_wp2_with fail
    go_roundw
    case rel=>exact⟨k+1,hlt,by go_num,HN2,B1⟩
    case measure=>simp [intOf];omega
  ·have HP:=hi9 (show zge w s t (.returned (.int .i64 (-1))) wr from⟨.inl ⟨by
    unfold zbx Sc.a
    rw [List.find?_eq_none]
    intro y hy
    obtain⟨z,hz,rfl⟩:=List.mem_map.1 hy
    simpa using hN.out z (by rw [List.take_of_length_le (by rw [←HL.out];omega)];exact hz),rfl⟩,hB.out⟩)
   clear hN hB
   go_wp2_with fail
   go_ret
   exact HP.out
def zq4(w:World)(s:Sc)(x:ByteArray)(e:Ending)(w':World):Prop :=
 ((zbx   s.a x = none ∧ e = .returned (.tuple #[.agg #[.string ⟨#[]⟩, .slice none 0 0, .slice none 0 0, .slice none 0 0], .bool false])) ∨
   ∃i,∃h:i<s.L.length,zbx s.a x=some s.L[i].d∧e = .returned (.tuple #[.agg #[.string s.L[i].d.id,.slice s.L[i].WA s.L[i].wn s.L[i].wc,.slice s.L[i].TA s.L[i].tn s.L[i].tc,.slice s.L[i].NA s.L[i].nn s.L[i].nc],.bool true]))∧Below w.heap.size w w'
theorem znh(s:Sc)(t:ByteArray)(w:World)(h:zcO w s):
 Calls Tryz.prog 18 #[s.v,.string t] w (zq4 w s t):=by
 have V0:=hi9 (zb9 w s 25);have B0:=hi9 (za w (.cells #[.slice s.KA s.kn s.kc,.slice s.AA s.an s.ac] 25));have HV:=hi9 (show s.v = .agg #[.slice s.KA s.kn s.kc,.slice s.AA s.an s.ac] from rfl);rw [HV.out];have HS:=hi9 h;have HM:=h.a.max;unfold maxLen at HM;have HL:=hi9 h.a.len;clear h;go_enter Tryz.func18,Tryz.ntmps18;go_wp2_with fail;have hsz:(w.alloc (.cells #[.slice s.KA s.kn s.kc,.slice s.AA s.an s.ac] 25)).heap.size=w.heap.size+1:=by simp
 obtain⟨w1,hw1⟩:∃w1,w.alloc (.cells #[.slice s.KA s.kn s.kc,.slice s.AA s.an s.ac] 25)=w1:=⟨_,rfl⟩
 rw [hw1] at V0 B0 hsz ⊢;rw [←hsz];clear hw1;have T2:=jg w1 #[.string t] 9 0 (v := .string t) rfl;have B2:=hi9 (B0.out.trans ((za w1 (.cells #[.string t] 9)).mono B0.out.size));have V2:=hi9 (V0.out.keep (za w1 (.cells #[.string t] 9)));have hsz2:(w1.alloc (.cells #[.string t] 9)).heap.size=w1.heap.size+1:=by simp
 obtain⟨w2,hw2⟩:∃w2,w1.alloc (.cells #[.string t] 9)=w2:=⟨_,rfl⟩
 rw [hw2] at V2 B2 T2 hsz2 ⊢;rw [←hsz2];clear hw2 B0 V0;have R3:=hi9 (zbe w2 (.string ⟨#[]⟩) (.slice none 0 0) (.slice none 0 0) (.slice none 0 0) 43);have BB:=za w2 (.cells #[.string ⟨#[]⟩,.slice none 0 0,.slice none 0 0,.slice none 0 0] 43);have B3:=hi9 (B2.out.trans (BB.mono B2.out.size));have V3:=hi9 (V2.out.keep BB);have T3:=zb BB T2;have HW:=hi9 B2.out.size;have KI:=hi9 (ziY s t _ _ (HS.out.keep B3.out) T3);clear BB B2 V2 T2 T3 hsz hsz2;refine KI.out.mono ?_;rintro e w4 ⟨hc,b4⟩;have B4:=hi9 (B3.out.trans (b4.mono B3.out.size));have V4:=hi9 (V3.out.keep b4);have R4:=hi9 (R3.out.keep b4);clear b4 B3 V3 R3 KI;obtain⟨v0,v1⟩:=V4.out;obtain⟨d0,d1,d2,d3,z0,z1,z2,z3⟩:=R4.out;rcases hc with ⟨hN,rfl⟩|⟨i,hi,hN,rfl⟩
 ·have Y4:=R4.out.set (.string ⟨#[]⟩) (.slice none 0 0) (.slice none 0 0) (.slice none 0 0);obtain⟨g0,g1,g2,g3,-,-,-,-⟩:=Y4;go_wp2_with fail;refine bodyPost_ret (v := .tuple #[.agg #[.string ⟨#[]⟩,.slice none 0 0,.slice none 0 0,.slice none 0 0],.bool false]) (by simp [results,Tryz.results18,go_sem,g0,g1,g2,g3]) rfl ⟨.inl ⟨hN,rfl⟩,?_⟩;exact zfm B4.out HW.out _ _ _ _
 ·have hin:i<s.an:=by rw [HL.out];exact hi
  obtain⟨a,ea,q0,q1,q2,q3,-⟩:=(HS.out.keep B4.out).a.at_ i _ (List.getElem?_eq_getElem hi);have BF:∀w',Below w.heap.size w w'→zq4 w s t (.returned (.tuple #[.agg #[.string s.L[i].d.id,.slice s.L[i].WA s.L[i].wn s.L[i].wc,.slice s.L[i].TA s.L[i].tn s.L[i].tc,.slice s.L[i].NA s.L[i].nn s.L[i].nc],.bool true])) w':=fun w' hb=>⟨.inr ⟨i,hi,hN,rfl⟩,hb⟩
  have f0:decide ((i:Int)<0)=false:=decide_eq_false (by omega);rw [ea] at v1;generalize s.L[i]=x at *;have Y4:=R4.out.set (.string x.d.id) (.slice x.WA x.wn x.wc) (.slice x.TA x.tn x.tc) (.slice x.NA x.nn x.nc);obtain⟨g0,g1,g2,g3,-,-,-,-⟩:=Y4;go_wp2_with fail;refine bodyPost_ret (v := .tuple #[.agg #[.string x.d.id,.slice x.WA x.wn x.wc,.slice x.TA x.tn x.tc,.slice x.NA x.nn x.nc],.bool true]) (by simp [results,Tryz.results18,go_sem,g0,g1,g2,g3]) rfl (BF _ ?_);exact zfm B4.out HW.out _ _ _ _
end Go.Proofs.YtjcdeikbghjpkaaGreatDoor
