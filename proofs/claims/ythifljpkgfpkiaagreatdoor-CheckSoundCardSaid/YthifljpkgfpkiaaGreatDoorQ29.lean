/-
  schema.record, schema.names. schema.Check. Variables of three cells of the ..
-/
import Derived.Test.YthifljpkgfpkiaaGreatDoorQ10
import Derived.Test.YthifljpkgfpkiaaGreatDoorQ28
set_option maxRecDepth 100000
set_option maxHeartbeats 8000000
namespace Go.Proofs.YthifljpkgfpkiaaGreatDoor
open Go.RowKit Go.Wk Go.Sort
theorem nt(A:Option Addr)(n c:Nat)(P:List Nd)(w:World)(h:Ns w A n c P):
 Calls Tryz.prog 34 #[.slice A n c] w λe w'=>e = .returned (je (nM P))/\Below w.heap.size w w':=by
 have K:=O h.kinds_Check;by_cases h0:zK P=0
 ·obtain⟨k,hk⟩:=OZ h0;obtain⟨a,rfl,hn1,d0,-⟩:=Qg h (by rw [hk.e];have:=ct k;omega);rw [h0,zj] at K;have HR:=O (show nM P=if zg P=46 then 0 else 2 by unfold nM;rw [h0];rfl);have hm:=h.max;unfold maxLen at hm;clear h hk h0;by_cases h46:zg P=46
  ·rw [if_pos h46] at HR;rw [h46] at d0;clear h46;go_enter Tryz.func34,Tryz.ntmps34;go_wp2_with fail;refine K.o.mono ?_;rintro e w1 ⟨rfl,b1⟩;have d1:=zb b1 d0;have B1:=O b1;clear b1 d0;go_wp2_with fail;go_ret;exact⟨by rw [HR.o];rfl,B1.o⟩
  ·rw [if_neg h46] at HR;have f1:(zg P==46)=false:=beq_eq_false_iff_ne.2 h46;have f2:(zg P != 46)=true:=by rw [bne_iff_ne];exact h46
   generalize zg P=o at *;clear h46;go_enter Tryz.func34,Tryz.ntmps34;go_wp2_with fail;refine K.o.mono ?_;rintro e w1 ⟨rfl,b1⟩;have d1:=zb b1 d0;have B1:=O b1;clear b1 d0;go_wp2_with fail;go_ret;exact⟨by rw [HR.o];rfl,B1.o⟩
 ·have HR:=O (show nM P=zK P by unfold nM;exact zR h0 _);have HE:=O (zm h0);rw [HE.o] at K;generalize zK P=r at *;clear h h0;go_enter Tryz.func34,Tryz.ntmps34;go_wp2_with fail;refine K.o.mono ?_;rintro e w1 ⟨rfl,b1⟩;have B1:=O b1;clear b1;go_wp2_with fail;go_ret;exact⟨by rw [HR.o,HE.o];rfl,B1.o⟩
structure Tl where
 A:Option Addr
 n:Nat
 c:Nat
 N:List ByteArray
def fM:List Tl->Int
 | []=>0
 | x :: r=>or2 (aw x.N) (fM r)
theorem EK{L:List Tl}{i:Nat}(h:i<L.length):fM (L.drop i)=or2 (aw L[i].N) (fM (L.drop (i+1))):=by
 rw [List.drop_eq_getElem_cons h];rfl
def dj(L:List Tl):Int:=if L.any (λx=>decide (6<x.N.length)) then 4 else fM L
theorem pX(a:Addr)(n c:Nat)(L:List Tl)(w:World)(hn:n=L.length)(hx:n<=8)(hl:∀k x,L[k]?=some x->w.cell? (a.add k)=some (.slice x.A x.n x.c)/\Txs w x.A x.n x.c x.N):
 Calls Tryz.prog 33 #[.slice (some a) n c] w λe w'=>e = .returned (je (dj L))/\Below w.heap.size w w':=by
 have HL:=O hn;have HT:=O hl;clear hl hn;go_enter Tryz.func33,Tryz.ntmps33;go_wp2_with fail;go_loopw [12] (λi wr=>∃k:Nat,i = .int .i64 k/\k<=n/\Hid (∀x∈L.take k,x.N.length<=6)/\w=wr) (λi _=>n-(intOf i).toNat)
 case atStart=>exact⟨0,rfl,Nat.zero_le _,O (λx hx=>by simp at hx),rfl⟩
 case round =>
  obtain⟨k,rfl,hk,hF,rfl⟩:=hrel;by_cases hlt:k<n
  ·have eK:k<L.length:=by rw [<-HL.o];exact hlt
   obtain⟨q,ht⟩:=HT.o k _ (List.getElem?_eq_getElem eK);have hm:=ht.max;unfold maxLen at hm;by_cases h6:6<L[k].n
   ·have HR:=O (show dj L=4 by
     unfold dj
     rw [if_pos (List.any_eq_true.2 ⟨L[k],List.getElem_mem eK,by rw [<-ht.len];simpa using h6⟩)])
    have f1:decide (6<(L[k].n:Int))=true:=decide_eq_true (by omega);generalize L[k]=x at *;clear hF h6 ht;go_wp2_with fail;go_ret;exact⟨by rw [HR.o];rfl,Below.refl _ _⟩
   ·have HS:=O (show∀x∈L.take (k+1),x.N.length<=6 from λx hx=>by
     rw [List.take_succ_eq_append_getElem eK,List.mem_append] at hx
     rcases hx with hx|hx
     ·exact hF.o x hx
     ·simp only [List.mem_cons,List.not_mem_nil,or_false] at hx
      subst hx;rw [<-ht.len];omega)
    have f1:decide (6<(L[k].n:Int))=false:=decide_eq_false (by omega);generalize L[k]=x at *;clear hF h6 ht;go_wp2_with fail;go_roundw
    case rel=>exact⟨k+1,by go_num,hlt,HS,trivial⟩
    case measure=>simp [intOf];omega
  ·have HR:=O (show dj L=fM L by
    unfold dj
    rw [if_neg (by
     rw [List.any_eq_true]
     rintro ⟨x,hx,h6⟩
     have:=hF.o x (by rw [List.take_of_length_le (by rw [<-HL.o];omega)];exact hx)
     simp at h6;omega)])
   clear hF hk;go_wp2_with fail;go_loopw [23] (λi wo=>∃k:Nat,i = .int .i64 k/\k<=n/\Hid (fM L=fM (L.drop k))/\Hid (Below w.heap.size w wo)) (λi _=>n-(intOf i).toNat)
   case atStart=>exact⟨0,rfl,Nat.zero_le _,O (by simp),O (Below.refl _ _)⟩
   case round =>
    obtain⟨k,rfl,hk,hF,hB⟩:=hrel;by_cases hlt:k<n
    ·have eK:k<L.length:=by rw [<-HL.o];exact hlt
     obtain⟨q,ht⟩:=HT.o k _ (List.getElem?_eq_getElem eK);have q':=zb hB.o q;have hm:=ht.max;unfold maxLen at hm;have HS:=O (hF.o.trans (EK eK));have HN:=O (ht.keep hB.o);generalize L[k]=x at *;generalize Rk:fM (L.drop (k+1))=rest at *;have hlen:x.n=x.N.length:=ht.len;clear hF q ht;go_wp2_with fail;go_loopw [29] (λi wj=>∃j:Nat,i = .int .i64 j/\j<=x.n/\Hid (aw x.N=aw (x.N.drop j))/\Hid (Below w.heap.size w wj)/\Hid (Txs wj x.A x.n x.c x.N)) (λi _=>x.n-(intOf i).toNat)
     case atStart=>exact⟨0,rfl,Nat.zero_le _,O (by simp),hB,HN⟩
     case round =>
      obtain⟨j,rfl,hj,hG,UI,hN⟩:=hrel;by_cases hjt:j<x.n
      ·have sf:j<x.N.length:=by omega
       obtain⟨b,eb,z0⟩:=hN.o.at_.cell sf;rw [eb];have wb:=O (hG.o.trans (Eb sf));have V:=O (λw'=>aL x.N[j] w' (hN.o.ok _ (List.getElem_mem sf)));generalize x.N[j]=y at *;clear hG;by_cases hf:zk y=0
       ·rw [hf,zu] at wb;rw [hf,zj] at V;clear hf;go_wp2_with fail;refine(V.o _).mono ?_;rintro e w1 ⟨rfl,b1⟩;have B1:=O (UI.o.trans (b1.mono UI.o.size));have N1:=O (hN.o.keep b1);clear b1 UI hN z0;go_wp2_with fail;go_roundw
        case rel=>exact⟨j+1,by go_num,hjt,wb,B1,by rw [<-eb];exact N1⟩
        case measure=>simp [intOf];omega
       ·rw [zR hf] at wb;have HE:=O (zm hf);have iY:=O (show dj L=zk y by rw [HR.o,HS.o,wb.o,zR hf]);rw [HE.o] at V;generalize zk y=r at *;clear hf;go_wp2_with fail;refine(V.o _).mono ?_;rintro e w1 ⟨rfl,b1⟩;have B1:=O (UI.o.trans (b1.mono UI.o.size));clear b1 UI hN z0;go_wp2_with fail;go_ret;exact⟨by rw [iY.o,HE.o];rfl,B1.o⟩
      ·have wb:=O (show fM L=rest by
        rw [HS.o,hG.o,List.drop_eq_nil_of_le (by omega)];exact zu _)
       clear hG HS;go_wp2_with fail;go_roundw
       case rel=>exact⟨k+1,by go_num,hlt,O (wb.o.trans Rk.symm),UI⟩
       case measure=>simp [intOf];omega
    ·have HS:=O (show dj L=0 by
      rw [HR.o,hF.o,List.drop_eq_nil_of_le (by rw [<-HL.o];omega)];rfl)
     clear hF;go_wp2_with fail;go_ret;exact⟨by rw [HS.o];rfl,hB.o⟩
theorem pu:Go.Maps.Keyed Tryz.prog 9:=Go.Maps.string_keyed Tryz.underlying9
theorem yu(w:World):(zeroValue 3).run Tryz.prog w = .ok (.int .i64 0) w:=by kernel_rfl
theorem cD{w w':World}{b o:Nat}{v:Value}{g:Option Nat}(hg:w.grownBy w' g)(hn:some b≠g)(h:w.cell? ⟨b,o,none⟩=some v):w'.cell? ⟨b,o,none⟩=some v :=
 (World.cell?_of_block (a:=⟨b,o,none⟩) (hg.block b (block_lt_of_cell h) hn)).trans h
theorem Vs.but{w w':World}{b:Nat}{s:Sc}{g:Option Nat}(h:Vs w b s)(hg:w.grownBy w' g)(hn:some b≠g):Vs w' b s :=
 ⟨cD hg hn h.c0,cD hg hn h.c1⟩
theorem Vk.but{w w':World}{b:Nat}{s:Kn}{g:Option Nat}(h:Vk w b s)(hg:w.grownBy w' g)(hn:some b≠g):Vk w' b s :=
 ⟨cD hg hn h.c0,cD hg hn h.c1,cD hg hn h.c2⟩
theorem Va.but{w w':World}{b:Nat}{s:An}{g:Option Nat}(h:Va w b s)(hg:w.grownBy w' g)(hn:some b≠g):Va w' b s :=
 ⟨cD hg hn h.c0,cD hg hn h.c1,cD hg hn h.c2,cD hg hn h.c3⟩
theorem LY{A:Option Addr}{n c:Nat}{N:List ByteArray}{w:World}(h:Txs w A n c N):
 Calls Tryz.prog 33 #[.slice (some ⟨w.heap.size,0,none⟩) 1 1] (w.alloc (.cells #[.slice A n c] 45)) λe w'=>e = .returned (je (dj [⟨A,n,c,N⟩]))/\Below (w.alloc (.cells #[.slice A n c] 45)).heap.size (w.alloc (.cells #[.slice A n c] 45)) w' :=
 pX ⟨w.heap.size,0,none⟩ 1 1 [⟨A,n,c,N⟩] _ rfl (by omega) λj y hy=>by
  match j,hy with
  | 0,hy =>
   simp only [List.getElem?_cons_zero,Option.some.injEq] at hy
   subst hy
   exact⟨zt (heap_alloc_last w _) rfl,h.keep (za w _)⟩
  | j+1,hy=>simp at hy
theorem J6{A A':Option Addr}{n c n' c':Nat}{N N':List ByteArray}{w:World}(h:Txs w A n c N)(h':Txs w A' n' c' N'):
 Calls Tryz.prog 33 #[.slice (some ⟨w.heap.size,0,none⟩) 2 2] (w.alloc (.cells #[.slice A n c,.slice A' n' c'] 45)) λe w'=>e = .returned (je (dj [⟨A,n,c,N⟩,⟨A',n',c',N'⟩]))/\Below (w.alloc (.cells #[.slice A n c,.slice A' n' c'] 45)).heap.size (w.alloc (.cells #[.slice A n c,.slice A' n' c'] 45)) w' :=
 pX ⟨w.heap.size,0,none⟩ 2 2 [⟨A,n,c,N⟩,⟨A',n',c',N'⟩] _ rfl (by omega) λj y hy=>by
  match j,hy with
  | 0,hy =>
   simp only [List.getElem?_cons_zero,Option.some.injEq] at hy
   subst hy
   exact⟨zt (heap_alloc_last w _) rfl,h.keep (za w _)⟩
  | 1,hy =>
   simp only [List.getElem?_cons_succ,List.getElem?_cons_zero,Option.some.injEq] at hy
   subst hy
   exact⟨zt (heap_alloc_last w _) rfl,h'.keep (za w _)⟩
  | j+2,hy=>simp at hy
def gK(N:List ByteArray):List (ByteArray × Value):=N.zipIdx.map λp=>(p.1,.int .i64 p.2)
theorem vA(N:List ByteArray)(x:ByteArray):gK (N ++ [x])=gK N ++ [(x,.int .i64 N.length)]:=by
 unfold gK;rw [List.zipIdx_append,List.map_append];simp
theorem xK(N:List ByteArray)(x:ByteArray):((gK N).any λp=>decide (p.1=x))=ai N x:=by
 have e:((gK N).any λp=>decide (p.1=x))=((gK N).map (·.1)).any λy=>decide (y=x):=by rw [List.any_map];rfl
 have e2:(gK N).map (·.1)=N:=by
  unfold gK;rw [List.map_map];exact List.zipIdx_map_fst 0 N
 rw [e,e2];unfold ai;congr 1;funext y;have:=zw.zero y x;simp [this]
theorem Lh(A:Option Addr)(n c:Nat)(N:List ByteArray)(r:Int):or2 (if 6<N.length then 4 else 0) (or2 (aw N) r)=or2 (dj [⟨A,n,c,N⟩]) r:=by
 unfold dj;by_cases h:6<N.length
 ·simp [h];rw [zR (by decide),zR (by decide)]
 ·simp only [h,List.any_cons,List.any_nil,decide_false,Bool.or_false,if_false,zu];simp only [fM,Bool.false_eq_true,if_false];rw [show or2 (aw N) 0=aw N by by_cases e:aw N=0 <;> simp [or2,e]]
theorem Ml(A:Option Addr)(n c:Nat)(N:List ByteArray)(A':Option Addr)(n' c':Nat)(N':List ByteArray)(r:Int):or2 (if 6<N.length\/6<N'.length then 4 else 0) (or2 (aw N) (or2 (aw N') r))=or2 (dj [⟨A,n,c,N⟩,⟨A',n',c',N'⟩]) r:=by
 unfold dj;by_cases h:6<N.length\/6<N'.length
 ·simp [h];rw [zR (by decide),zR (by decide)]
 ·have h1:¬6<N.length:=λq=>h (.inl q);have h2:¬6<N'.length:=λq=>h (.inr q);simp only [h1,h2,List.any_cons,List.any_nil,decide_false,Bool.or_false,if_false,zu,or_self];simp only [fM,Bool.false_eq_true,if_false];rw [show or2 (aw N') 0=aw N' by by_cases e:aw N'=0 <;> simp [or2,e],LA]
theorem kG(s:Sc)(w:World)(h:lK w s):
 Calls Tryz.prog 13 #[s.v] w λe w'=>e = .returned (je (bn s.k s.a))/\Below w.heap.size w w':=by
 have UN:=@run_makeMap Tryz.prog;have WH:=O (show s.kn=s.k.length by unfold Sc.k;rw [List.length_map];exact h.k.len);have ME:=O (show s.an=s.a.length by unfold Sc.a;rw [List.length_map];exact h.a.len);have HKL2:=O h.k.len;have HAL2:=O h.a.len;have hkx:=h.k.max;have hax:=h.a.max;unfold maxLen at hkx hax;have V0:=O (lL w s 25);have B0:=O (za w (.cells #[.slice s.KA s.kn s.kc,.slice s.AA s.an s.ac] 25));have HV:=O (show s.v = .agg #[.slice s.KA s.kn s.kc,.slice s.AA s.an s.ac] from rfl);by_cases h8:8<s.kn\/8<s.an
 ·have HR:=O (show bn s.k s.a=4 by unfold bn;rw [if_pos (by rw [<-WH.o,<-ME.o];exact h8)]);rw [HV.o];by_cases h81:8<s.kn
  ·have f1:decide (8<(s.kn:Int))=true:=decide_eq_true (by omega);clear h h8 h81;go_enter Tryz.func13,Tryz.ntmps13;go_wp2_with fail;go_ret;exact⟨by rw [HR.o];rfl,B0.o⟩
  ·have f1:decide (8<(s.kn:Int))=false:=decide_eq_false (by omega);have f2:decide (8<(s.an:Int))=true:=decide_eq_true (by omega);clear h h8 h81;go_enter Tryz.func13,Tryz.ntmps13;go_wp2_with fail;go_ret;exact⟨by rw [HR.o];rfl,B0.o⟩
 ·have HR:=O (show bn s.k s.a=or2 (rQ [] s.k) (nQ [] s.a) by unfold bn;rw [if_neg (by rw [<-WH.o,<-ME.o];exact h8)]);have f1:decide (8<(s.kn:Int))=false:=decide_eq_false (by omega);have f2:decide (8<(s.an:Int))=false:=decide_eq_false (by omega);have HS:=O h;rw [HV.o];clear h h8;go_enter Tryz.func13,Tryz.ntmps13;go_wp2_with fail;go_loopw [34] (λi wr=>∃k:Nat,i = .int .i64 k/\k<=s.kn/\Hid (rQ [] s.k=rQ ((s.k.take k).map KD.nm) (s.k.drop k))/\Hid (wr.ownsMap Tryz.prog 9 aT (w.heap.size+1) k (lI (gK ((s.K.take k).map λx=>x.d.nm))))/\Hid (Below w.heap.size w wr)/\Hid (Vs wr w.heap.size s)) (λi _=>s.kn-(intOf i).toNat)
  case atStart =>
   have e:(w.alloc (.cells #[.slice s.KA s.kn s.kc,.slice s.AA s.an s.ac] 25)).heap.size=w.heap.size+1:=by simp
   exact⟨0,rfl,Nat.zero_le _,O (by simp),O (by rw [<-e];exact World.ownsMap_made _ _ _ _),O (B0.o.alloc (Nat.le_of_lt (by rw [e];omega)) _),O (V0.o.keep (za _ _))⟩
  case round =>
   obtain⟨k,rfl,hk,hF,hO,hB,hV⟩:=hrel;by_cases hlt:k<s.kn
   ·have eK:k<s.K.length:=by rw [<-HKL2.o];exact hlt
    have Wx:k<s.k.length:=by rw [<-WH.o];exact hlt
    have HF:=O (hF.o.trans (LI Wx));rw [Sc.k_at s eK,Sc.k_names] at HF;obtain⟨a,ea,q0,q1,q2,de⟩:=(HS.o.k.keep hB.o).at_ k _ (List.getElem?_eq_getElem eK);have Ca:=O (λw' (hb:Below w.heap.size w w')=>(let ⟨_,_,_,_,_,h⟩:=(HS.o.k.keep hb).at_ k _ (List.getElem?_eq_getElem eK);h:D2 w' s.K[k]));have MR:=O (show((s.K.take (k+1)).map λx=>x.d.nm)=((s.K.take k).map λx=>x.d.nm)++ [s.K[k].d.nm] by rw [List.take_succ_eq_append_getElem eK,List.map_append];rfl);have II:=O (show((s.K.take k).map λx=>x.d.nm).length=k by rw [List.length_map,List.length_take];omega);generalize hNS1:((s.K.take (k+1)).map λx=>x.d.nm)=NS1 at *;generalize hNS:((s.K.take k).map λx=>x.d.nm)=NS at *;have oH:=O (show kdF NS s.K[k].d=or2 (zk s.K[k].d.nm) (or2 (if ai NS s.K[k].d.nm then 6 else 0) (or2 (if 6<s.K[k].d.up.length then 4 else 0) (or2 (aw s.K[k].d.up) (nM s.K[k].d.P)))) from rfl);have zz:=O de.s;have C1:=O (λw'=>aL s.K[k].d.nm w' zz.o);generalize s.K[k]=x at *;have BB:=O (za wr (.cells #[.string x.d.nm,.slice x.UA x.un x.uc,.slice x.NA x.nn x.nc] 58));have K1:=O (O9 wr x 58);have yy:=O hO.o.lt;rw [ea];clear hF V0 B0 de;go_wp2_with fail;refine(C1.o _).mono ?_;rintro e w1 ⟨rfl,b1⟩;have BW:=O (BB.o.trans (b1.mono BB.o.size));have O1:=O (jA hO.o BW.o);have V1:=O (hV.o.keep BW.o);have B1:=O (hB.o.trans (BW.o.mono hB.o.size));have X1:=O (K1.o.keep b1);clear b1 BB K1 hO hV hB BW;by_cases g1:zk x.d.nm=0
    ·rw [g1,zu] at oH;rw [g1,zj];obtain⟨x0,x1,x2⟩:=X1.o;have HK:=O (show keyOf Tryz.prog 9 (.string x.d.nm)=some (oy x.d.nm) from WideMaps.keyOf_string_mk Tryz.underlying9 zz.o);have HA:=O ((uv (gK NS) x.d.nm).trans (xK NS x.d.nm));clear g1 C1;go_wp2_with (at_lookup;refine wpList_lookup_own_ok _ rfl _ _ 87 rfl 9 3 pu Tryz.underlying87 aT (yu _) _ [] rfl (w.heap.size+1) k _ rfl O1.o _ _ rfl HK.o ?_);intro v ps hv;rw [HA.o];clear hv HA;by_cases g2:ai NS x.d.nm=true
     ·rw [if_pos g2,zR (by decide)] at oH;have HE:=O (show bn s.k s.a=6 by rw [HR.o,HF.o,oH.o];rfl);rw [g2];clear g2;go_wp2_with fail;go_ret;exact⟨by rw [HE.o];rfl,B1.o⟩
     ·rw [if_neg g2,zu,Lh x.UA x.un x.uc] at oH;rw [Bool.eq_false_iff.2 g2];clear g2;go_wp2_with (at_mapUpdate;refine wpList_mapUpdate_own _ rfl _ _ _ 87 rfl 9 3 pu Tryz.underlying87 aT (w.heap.size+1) k _ rfl O1.o (by unfold maxLen;omega) _ _ _ rfl rfl HK.o _ [] rfl ?_);intro w4 hown hgrow;have O4:=O (show w4.ownsMap Tryz.prog 9 aT (w.heap.size+1) (k+1) (lI (gK NS1)) by
       rw [MR.o,vA,fF,II.o];exact hown)
      have B4:=O (B1.o.grown hgrow B1.o.size (λg hg=>by cases hg;exact Nat.le_succ _));have V4:=O (V1.o.but hgrow (by intro h;injection h with h;omega));have X4:=O (X1.o.but hgrow (by intro h;injection h with h;have:=yy.o;omega));clear hown hgrow O1 B1 V1 X1 x0 x1 x2 HK;obtain⟨x0,x1,x2⟩:=X4.o;have CN:=O (LY (Ca.o _ B4.o).us);have BB:=O (za w4 (.cells #[.slice x.UA x.un x.uc] 45));go_wp2_with fail;refine CN.o.mono ?_;rintro e w5 ⟨rfl,b5⟩;have BW:=O (BB.o.trans (b5.mono BB.o.size));have O5:=O (jA O4.o BW.o);have V5:=O (V4.o.keep BW.o);have X5:=O (X4.o.keep BW.o);have B5:=O (B4.o.trans (BW.o.mono B4.o.size));clear b5 BB BW O4 V4 X4 B4 CN x0 x1 x2;obtain⟨x0,x1,x2⟩:=X5.o;generalize dj [⟨x.UA,x.un,x.uc,x.d.up⟩]=r at *;by_cases g3:r=0
      ·subst g3;rw [zu] at oH;rw [zj];have CR:=O (nt _ _ _ _ w5 (Ca.o _ B5.o).ns);go_wp2_with fail;refine CR.o.mono ?_;rintro e w6 ⟨rfl,b6⟩;have O6:=O (jA O5.o b6);have V6:=O (V5.o.keep b6);have B6:=O (B5.o.trans (b6.mono B5.o.size));clear b6 O5 V5 X5 B5 CR x0 x1 x2;generalize nM x.d.P=r at *;by_cases g4:r=0
       ·subst g4;have FI:=O (show rQ [] s.k=rQ ((s.k.take (k+1)).map KD.nm) (s.k.drop (k+1)) by rw [HF.o,oH.o,zu]);rw [zj];go_wp2_with fail;go_roundw
        case rel=>exact⟨k+1,by go_num,hlt,FI,O (by rw [hNS1];exact O6.o),B6,V6⟩
        case measure=>simp [intOf];omega
       ·have cQ:=O (zm g4);have HE:=O (show bn s.k s.a=r by rw [HR.o,HF.o,oH.o,zR g4,zR g4]);rw [cQ.o];clear g4;go_wp2_with fail;go_ret;exact⟨by rw [HE.o,cQ.o];rfl,B6.o⟩
      ·rw [zR g3] at oH;have cQ:=O (zm g3);have HE:=O (show bn s.k s.a=r by rw [HR.o,HF.o,oH.o,zR g3,zR g3]);rw [cQ.o];clear g3;go_wp2_with fail;go_ret;exact⟨by rw [HE.o,cQ.o];rfl,B5.o⟩
    ·rw [zR g1] at oH;have cQ:=O (zm g1);have HE:=O (show bn s.k s.a=zk x.d.nm by rw [HR.o,HF.o,oH.o,zR g1,zR g1]);rw [cQ.o];generalize zk x.d.nm=r at *;clear g1;go_wp2_with fail;go_ret;exact⟨by rw [HE.o,cQ.o];rfl,B1.o⟩
   ·have iY:=O (show bn s.k s.a=nQ [] s.a by
     rw [HR.o,hF.o,List.drop_eq_nil_of_le (by rw [<-WH.o];omega)]
     exact zu _)
    clear hF hk V0 B0 HR;obtain⟨w1,hrun,hown,hgrow⟩:=wq hO.o (mty:=87) Tryz.underlying87;have O1:=O hown;have B1:=O (hB.o.grown hgrow hB.o.size (λg hg=>by cases hg;exact Nat.le_succ _));have V1:=O (hV.o.but hgrow (by intro h;injection h with h;omega));obtain⟨v0,v1⟩:=V1.o;clear hown hgrow hO hB hV;go_wp2_with fail;go_loopw [76] (λi wr=>∃k:Nat,i = .int .i64 k/\k<=s.an/\Hid (nQ [] s.a=nQ ((s.a.take k).map AD.id) (s.a.drop k))/\Hid (wr.ownsMap Tryz.prog 9 aT (w.heap.size+1) k (lI (gK ((s.L.take k).map λx=>x.d.id))))/\Hid (Below w.heap.size w wr)/\Hid (Vs wr w.heap.size s)) (λi _=>s.an-(intOf i).toNat)
    case atStart=>exact⟨0,rfl,Nat.zero_le _,O (by simp),O O1.o,B1,V1⟩
    case round =>
     obtain⟨k,rfl,hk,hF,hO,hB,hV⟩:=hrel;by_cases hlt:k<s.an
     ·have eK:k<s.L.length:=by rw [<-HAL2.o];exact hlt
      have Wx:k<s.a.length:=by rw [<-ME.o];exact hlt
      have HF:=O (hF.o.trans (LO Wx));rw [Sc.a_at s eK,Sc.a_names] at HF;obtain⟨a,ea,q0,q1,q2,q3,de⟩:=(HS.o.a.keep hB.o).at_ k _ (List.getElem?_eq_getElem eK);have Ca:=O (λw' (hb:Below w.heap.size w w')=>(let ⟨_,_,_,_,_,_,h⟩:=(HS.o.a.keep hb).at_ k _ (List.getElem?_eq_getElem eK);h:BC w' s.L[k]));have MR:=O (show((s.L.take (k+1)).map λx=>x.d.id)=((s.L.take k).map λx=>x.d.id)++ [s.L[k].d.id] by rw [List.take_succ_eq_append_getElem eK,List.map_append];rfl);have II:=O (show((s.L.take k).map λx=>x.d.id).length=k by rw [List.length_map,List.length_take];omega);generalize hNS1:((s.L.take (k+1)).map λx=>x.d.id)=NS1 at *;generalize hNS:((s.L.take k).map λx=>x.d.id)=NS at *;have oH:=O (show adF NS s.L[k].d=or2 (zx s.L[k].d.id) (or2 (if ai NS s.L[k].d.id then 6 else 0) (or2 (if 6<s.L[k].d.who.length\/6<s.L[k].d.what.length then 4 else 0) (or2 (aw s.L[k].d.who) (or2 (aw s.L[k].d.what) (nM s.L[k].d.P))))) from rfl);have zz:=O de.s;have C1:=O (λw'=>sQ s.L[k].d.id w' zz.o);generalize s.L[k]=x at *;have BB:=O (za wr (.cells #[.string x.d.id,.slice x.WA x.wn x.wc,.slice x.TA x.tn x.tc,.slice x.NA x.nn x.nc] 49));have K1:=O (PH wr x 49);have yy:=O hO.o.lt;rw [ea];clear hF de;go_wp2_with fail;refine(C1.o _).mono ?_;rintro e w1 ⟨rfl,b1⟩;have BW:=O (BB.o.trans (b1.mono BB.o.size));have O1:=O (jA hO.o BW.o);have V1:=O (hV.o.keep BW.o);have B1:=O (hB.o.trans (BW.o.mono hB.o.size));have X1:=O (K1.o.keep b1);clear b1 BB K1 hO hV hB BW;by_cases g1:zx x.d.id=0
      ·rw [g1,zu] at oH;rw [g1,zj];obtain⟨x0,x1,x2,x3⟩:=X1.o;have HK:=O (show keyOf Tryz.prog 9 (.string x.d.id)=some (oy x.d.id) from WideMaps.keyOf_string_mk Tryz.underlying9 zz.o);have HA:=O ((uv (gK NS) x.d.id).trans (xK NS x.d.id));clear g1 C1;go_wp2_with (at_lookup;refine wpList_lookup_own_ok _ rfl _ _ 87 rfl 9 3 pu Tryz.underlying87 aT (yu _) _ [] rfl (w.heap.size+1) k _ rfl O1.o _ _ rfl HK.o ?_);intro v ps hv;rw [HA.o];clear hv HA;by_cases g2:ai NS x.d.id=true
       ·rw [if_pos g2,zR (by decide)] at oH;have HE:=O (show bn s.k s.a=6 by rw [iY.o,HF.o,oH.o];rfl);rw [g2];clear g2;go_wp2_with fail;go_ret;exact⟨by rw [HE.o];rfl,B1.o⟩
       ·rw [if_neg g2,zu,Ml x.WA x.wn x.wc _ x.TA x.tn x.tc] at oH;rw [Bool.eq_false_iff.2 g2];clear g2;go_wp2_with (at_mapUpdate;refine wpList_mapUpdate_own _ rfl _ _ _ 87 rfl 9 3 pu Tryz.underlying87 aT (w.heap.size+1) k _ rfl O1.o (by unfold maxLen;omega) _ _ _ rfl rfl HK.o _ [] rfl ?_);intro w4 hown hgrow;have O4:=O (show w4.ownsMap Tryz.prog 9 aT (w.heap.size+1) (k+1) (lI (gK NS1)) by
         rw [MR.o,vA,fF,II.o];exact hown)
        have B4:=O (B1.o.grown hgrow B1.o.size (λg hg=>by cases hg;exact Nat.le_succ _));have V4:=O (V1.o.but hgrow (by intro h;injection h with h;omega));have X4:=O (X1.o.but hgrow (by intro h;injection h with h;have:=yy.o;omega));clear hown hgrow O1 B1 V1 X1 x0 x1 x2 x3 HK;obtain⟨x0,x1,x2,x3⟩:=X4.o;have CN:=O (J6 (Ca.o _ B4.o).ws (Ca.o _ B4.o).ts);have BB:=O (za w4 (.cells #[.slice x.WA x.wn x.wc,.slice x.TA x.tn x.tc] 45));go_wp2_with fail;refine CN.o.mono ?_;rintro e w5 ⟨rfl,b5⟩;have BW:=O (BB.o.trans (b5.mono BB.o.size));have O5:=O (jA O4.o BW.o);have V5:=O (V4.o.keep BW.o);have X5:=O (X4.o.keep BW.o);have B5:=O (B4.o.trans (BW.o.mono B4.o.size));clear b5 BB BW O4 V4 X4 B4 CN x0 x1 x2 x3;obtain⟨x0,x1,x2,x3⟩:=X5.o;generalize dj [⟨x.WA,x.wn,x.wc,x.d.who⟩,⟨x.TA,x.tn,x.tc,x.d.what⟩]=r at *;by_cases g3:r=0
        ·subst g3;rw [zu] at oH;rw [zj];have CR:=O (nt _ _ _ _ w5 (Ca.o _ B5.o).ns);go_wp2_with fail;refine CR.o.mono ?_;rintro e w6 ⟨rfl,b6⟩;have O6:=O (jA O5.o b6);have V6:=O (V5.o.keep b6);have B6:=O (B5.o.trans (b6.mono B5.o.size));clear b6 O5 V5 X5 B5 CR x0 x1 x2 x3;generalize nM x.d.P=r at *;by_cases g4:r=0
         ·subst g4;have FI:=O (show nQ [] s.a=nQ ((s.a.take (k+1)).map AD.id) (s.a.drop (k+1)) by rw [HF.o,oH.o,zu]);rw [zj];go_wp2_with fail;go_roundw
          case rel=>exact⟨k+1,by go_num,hlt,FI,O (by rw [hNS1];exact O6.o),B6,V6⟩
          case measure=>simp [intOf];omega
         ·have cQ:=O (zm g4);have HE:=O (show bn s.k s.a=r by rw [iY.o,HF.o,oH.o,zR g4]);rw [cQ.o];clear g4;go_wp2_with fail;go_ret;exact⟨by rw [HE.o,cQ.o];rfl,B6.o⟩
        ·rw [zR g3] at oH;have cQ:=O (zm g3);have HE:=O (show bn s.k s.a=r by rw [iY.o,HF.o,oH.o,zR g3]);rw [cQ.o];clear g3;go_wp2_with fail;go_ret;exact⟨by rw [HE.o,cQ.o];rfl,B5.o⟩
      ·rw [zR g1] at oH;have cQ:=O (zm g1);have HE:=O (show bn s.k s.a=zx x.d.id by rw [iY.o,HF.o,oH.o,zR g1]);rw [cQ.o];generalize zx x.d.id=r at *;clear g1;go_wp2_with fail;go_ret;exact⟨by rw [HE.o,cQ.o];rfl,B1.o⟩
     ·have HE:=O (show bn s.k s.a=0 by
       rw [iY.o,hF.o,List.drop_eq_nil_of_le (by rw [<-ME.o];omega)];rfl)
      clear hF;go_wp2_with fail;go_ret;exact⟨by rw [HE.o];rfl,hB.o⟩
structure Bx3(w:World)(b:Nat)(x0 x1 x2:Value):Prop where
 c0:w.cell? ⟨b,0,none⟩=some x0
 c1:w.cell? ⟨b,1,none⟩=some x1
 c2:w.cell? ⟨b,2,none⟩=some x2
 z0:w.frozen? ⟨b,0,none⟩=false
 z1:w.frozen? ⟨b,1,none⟩=false
 z2:w.frozen? ⟨b,2,none⟩=false
theorem sE(w:World)(x0 x1 x2:Value)(t:TypeId):Bx3 (w.alloc (.cells #[x0,x1,x2] t)) w.heap.size x0 x1 x2 :=
 ⟨jo w _ _ _ rfl,jo w _ _ _ rfl,jo w _ _ _ rfl,by simp,by simp,by simp⟩
theorem Bx3.keep{w w':World}{b:Nat}{x0 x1 x2:Value}(h:Bx3 w b x0 x1 x2)(hb:Below w.heap.size w w'):Bx3 w' b x0 x1 x2 :=
 have hl:=block_lt_of_cell h.c0
 ⟨zb hb h.c0,zb hb h.c1,zb hb h.c2,by rw [(bv hb).2 b 0 hl];exact h.z0,by rw [(bv hb).2 b 1 hl];exact h.z1,by rw [(bv hb).2 b 2 hl];exact h.z2⟩
theorem Bx3.but{w w':World}{b:Nat}{x0 x1 x2:Value}{g:Option Nat}(h:Bx3 w b x0 x1 x2)(hg:w.grownBy w' g)(hn:some b≠g):Bx3 w' b x0 x1 x2 :=
 have hb:=hg.block b (block_lt_of_cell h.c0) hn
 ⟨(World.cell?_of_block (a:=⟨b,0,none⟩) hb).trans h.c0,(World.cell?_of_block (a:=⟨b,1,none⟩) hb).trans h.c1,(World.cell?_of_block (a:=⟨b,2,none⟩) hb).trans h.c2,(World.frozen?_of_block (a:=⟨b,0,none⟩) hb).trans h.z0,(World.frozen?_of_block (a:=⟨b,1,none⟩) hb).trans h.z1,(World.frozen?_of_block (a:=⟨b,2,none⟩) hb).trans h.z2⟩
theorem Bx3.set{w:World}{b:Nat}{x0 x1 x2:Value}(h:Bx3 w b x0 x1 x2)(y0 y1 y2:Value):Bx3 (((w.setCell ⟨b,0,none⟩ y0).setCell ⟨b,1,none⟩ y1).setCell ⟨b,2,none⟩ y2) b y0 y1 y2:=by
 obtain⟨c0,c1,c2,z0,z1,z2⟩:=h;refine⟨?_,?_,?_,?_,?_,?_⟩
 all_goals go_simp
theorem nK{B b:Nat}{a w:World}(h:Below B a w)(hb:B<=b)(y0 y1 y2:Value):Below B a (((w.setCell ⟨b,0,none⟩ y0).setCell ⟨b,1,none⟩ y1).setCell ⟨b,2,none⟩ y2):=(((h.setCell (p:=⟨b,0,none⟩) hb y0).setCell (p:=⟨b,1,none⟩) hb y1).setCell (p:=⟨b,2,none⟩) hb y2)
theorem JG(a b:ByteArray):decide (a=b)=(a.toList==b.toList):=by
 by_cases h:a=b
 ·subst h;simp
 ·rw [decide_eq_false h];exact(beq_eq_false_iff_ne.2 (λq=>h (toList_inj q))).symm
theorem Tt(x:Kn)(t:ByteArray)(b:Nat)(w:World)(hv:w.cell? ⟨b,0,none⟩=some (.string t)):
 Calls Tryz.prog 43 #[.agg #[.string x.d.nm,.slice x.UA x.un x.uc,.slice x.NA x.nn x.nc],.pointer (some ⟨b,0,none⟩)] w λr w'=>r = .returned (.bool (decide (x.d.nm=t)))/\Below w.heap.size w w':=by
 have B0:=O (za w (.cells #[.string x.d.nm,.slice x.UA x.un x.uc,.slice x.NA x.nn x.nc] 58));have c0:=zb B0.o hv;rw [JG];clear hv;generalize x.d.nm=y at *;go_enter Tryz.func43,Tryz.ntmps43;go_wp2_with fail;go_ret;exact⟨rfl,B0.o⟩
theorem rU(s:Sc)(t:ByteArray)(b:Nat)(w:World)(h:lK w s)(hv:w.cell? ⟨b,0,none⟩=some (.string t)):
 Calls Tryz.prog 42 #[.slice s.KA s.kn s.kc,.func (.func 43) #[] #[.pointer (some ⟨b,0,none⟩)]] w (Hh w s t):=by
 have eg:∀args w,(callFunc 43 args).run Tryz.prog w = .ok (.enter 43 args) w:=enters_of Tryz.func43 (by kernel_rfl) rfl;have K:=O (λx w' hb=>Tt x t b w' (zb (w':=w') hb hv));have HL:=O h.k.len;have HM:=h.k.max;unfold maxLen at HM;have HA:=O h.k;clear h hv;go_enter Tryz.func42,Tryz.ntmps42;go_wp2_with fail;go_loopw [5,8] (λ_ i wr=>∃k:Nat,k<=s.kn/\i = .int .i64 k/\Hid (∀y∈s.K.take k,y.d.nm≠t)/\Hid (Below w.heap.size w wr)) (λ_ i _=>s.kn-(intOf i).toNat)
 case atStart=>exact⟨0,Nat.zero_le _,rfl,O (by intro y hy;simp at hy),O (Below.refl _ _)⟩
 case round =>
  obtain⟨k,hk,rfl,hN,hB⟩:=hrel;by_cases hlt:k<s.kn
  ·have eK:k<s.K.length:=by rw [<-HL.o];exact hlt
   obtain⟨a,ea,q0,q1,q2,-⟩:=(HA.o.keep hB.o).at_ k _ (List.getElem?_eq_getElem eK);rw [ea];have KX:=O (K.o s.K[k] wr hB.o);by_cases hs:s.K[k].d.nm=t
   ·have HP:=O (λw' (hb:Below w.heap.size w w')=>(⟨.inr ⟨k,eK,by
     unfold cN Sc.k
     rw [List.find?_map]
     rw [ng (i:=k) eK (by simp [hs]) (λy hy=>by simpa using hN.o y hy)]
     rfl,rfl⟩,hb⟩:Hh w s t (.returned (.int .i64 k)) w'))
    rw [decide_eq_true hs] at KX;generalize s.K[k]=x at *;clear hN hs;go_wp2_with (go_at_fn 43;refine KX.o.mono ?_;rintro e w1 ⟨rfl,b1⟩);have B1:=bh hB b1;clear q0 q1 q2 hB b1 KX;go_wp2_with fail;go_ret;exact HP.o _ B1.o
   ·have se:=O (show∀y∈s.K.take (k+1),y.d.nm≠t from λy hy=>by
     rw [List.take_succ_eq_append_getElem eK,List.mem_append] at hy
     rcases hy with hy|hy
     ·exact hN.o y hy
     ·simp only [List.mem_cons,List.not_mem_nil,or_false] at hy
      subst hy;exact hs)
    rw [decide_eq_false hs] at KX;generalize s.K[k]=x at *;clear hN hs;go_wp2_with (go_at_fn 43;refine KX.o.mono ?_;rintro e w1 ⟨rfl,b1⟩);have B1:=bh hB b1;clear q0 q1 q2 hB b1 KX;go_wp2_with fail;go_roundw
    case rel=>exact⟨k+1,hlt,by go_num,se,B1⟩
    case measure=>simp [intOf];omega
  ·have HP:=O (show Hh w s t (.returned (.int .i64 (-1))) wr from⟨.inl ⟨by
    unfold cN Sc.k
    rw [List.find?_eq_none]
    intro y hy
    obtain⟨z,hz,rfl⟩:=List.mem_map.1 hy
    simpa using hN.o z (by rw [List.take_of_length_le (by rw [<-HL.o];omega)];exact hz),rfl⟩,hB.o⟩)
   clear hN hB;go_wp2_with fail;go_ret;exact HP.o
def Nz(w:World)(s:Sc)(x:ByteArray)(e:Ending)(w':World):Prop :=
 ((cN     s.k x = none ∧ e = .returned (.tuple #[.agg #[.string ⟨#[]⟩, .slice none 0 0, .slice none 0 0], .bool false])) ∨
   ∃i,∃h:i<s.K.length,cN s.k x=some s.K[i].d/\e = .returned (.tuple #[.agg #[.string s.K[i].d.nm,.slice s.K[i].UA s.K[i].un s.K[i].uc,.slice s.K[i].NA s.K[i].nn s.K[i].nc],.bool true]))/\Below w.heap.size w w'
theorem rG(s:Sc)(t:ByteArray)(w:World)(h:lK w s):
 Calls Tryz.prog 15 #[s.v,.string t] w (Nz w s t):=by
 have V0:=O (lL w s 25);have B0:=O (za w (.cells #[.slice s.KA s.kn s.kc,.slice s.AA s.an s.ac] 25));have HV:=O (show s.v = .agg #[.slice s.KA s.kn s.kc,.slice s.AA s.an s.ac] from rfl);rw [HV.o];have HS:=O h;have HM:=h.k.max;unfold maxLen at HM;have HL:=O h.k.len;clear h;go_enter Tryz.func15,Tryz.ntmps15;go_wp2_with fail;have hsz:(w.alloc (.cells #[.slice s.KA s.kn s.kc,.slice s.AA s.an s.ac] 25)).heap.size=w.heap.size+1:=by simp
 obtain⟨w1,si⟩:∃w1,w.alloc (.cells #[.slice s.KA s.kn s.kc,.slice s.AA s.an s.ac] 25)=w1:=⟨_,rfl⟩
 rw [si] at V0 B0 hsz ⊢;rw [<-hsz];clear si;have T2:=jo w1 #[.string t] 9 0 (v := .string t) rfl;have B2:=O (B0.o.trans ((za w1 (.cells #[.string t] 9)).mono B0.o.size));have V2:=O (V0.o.keep (za w1 (.cells #[.string t] 9)));have hsz2:(w1.alloc (.cells #[.string t] 9)).heap.size=w1.heap.size+1:=by simp
 obtain⟨w2,hw2⟩:∃w2,w1.alloc (.cells #[.string t] 9)=w2:=⟨_,rfl⟩
 rw [hw2] at V2 B2 T2 hsz2 ⊢;rw [<-hsz2];clear hw2 B0 V0;have R3:=O (sE w2 (.string ⟨#[]⟩) (.slice none 0 0) (.slice none 0 0) 58);have BB:=za w2 (.cells #[.string ⟨#[]⟩,.slice none 0 0,.slice none 0 0] 58);have B3:=O (B2.o.trans (BB.mono B2.o.size));have V3:=O (V2.o.keep BB);have T3:=zb BB T2;have HW:=O B2.o.size;have KI:=O (rU s t _ _ (HS.o.keep B3.o) T3);clear BB B2 V2 T2 T3 hsz hsz2;refine KI.o.mono ?_;rintro e w4 ⟨hc,b4⟩;have B4:=O (B3.o.trans (b4.mono B3.o.size));have V4:=O (V3.o.keep b4);have R4:=O (R3.o.keep b4);clear b4 B3 V3 R3 KI;obtain⟨v0,v1⟩:=V4.o;obtain⟨d0,d1,d2,z0,z1,z2⟩:=R4.o;rcases hc with ⟨hN,rfl⟩|⟨i,hi,hN,rfl⟩
 ·have Y4:=R4.o.set (.string ⟨#[]⟩) (.slice none 0 0) (.slice none 0 0);obtain⟨g0,g1,g2,-,-,-⟩:=Y4;go_wp2_with fail;refine bodyPost_ret (v := .tuple #[.agg #[.string ⟨#[]⟩,.slice none 0 0,.slice none 0 0],.bool false]) (by simp [results,Tryz.results15,go_sem,g0,g1,g2]) rfl ⟨.inl ⟨hN,rfl⟩,?_⟩;exact nK B4.o HW.o _ _ _
 ·have Rz:i<s.kn:=by rw [HL.o];exact hi
  obtain⟨a,ea,q0,q1,q2,-⟩:=(HS.o.keep B4.o).k.at_ i _ (List.getElem?_eq_getElem hi);have BF:∀w',Below w.heap.size w w'->Nz w s t (.returned (.tuple #[.agg #[.string s.K[i].d.nm,.slice s.K[i].UA s.K[i].un s.K[i].uc,.slice s.K[i].NA s.K[i].nn s.K[i].nc],.bool true])) w':=λw' hb=>⟨.inr ⟨i,hi,hN,rfl⟩,hb⟩
  have f0:decide ((i:Int)<0)=false:=decide_eq_false (by omega);rw [ea] at v0;generalize s.K[i]=x at *;have Y4:=R4.o.set (.string x.d.nm) (.slice x.UA x.un x.uc) (.slice x.NA x.nn x.nc);obtain⟨g0,g1,g2,-,-,-⟩:=Y4;go_wp2_with fail;refine bodyPost_ret (v := .tuple #[.agg #[.string x.d.nm,.slice x.UA x.un x.uc,.slice x.NA x.nn x.nc],.bool true]) (by simp [results,Tryz.results15,go_sem,g0,g1,g2]) rfl (BF _ ?_);exact nK B4.o HW.o _ _ _
theorem Iy(A:Option Addr)(n c:Nat)(N:List ByteArray)(s:ByteArray)(w:World)(h:Txs w A n c N):
 Calls Tryz.prog 44 #[.slice A n c,.string s] w λe w'=>(∃k:Int,e = .returned (.int .i64 k)/\(0<=k↔ai N s=true))/\Below w.heap.size w w':=by
 have HL:=O h.len;have HT:=O h.at_;have hm:=h.max;unfold maxLen at hm;clear h;go_enter Tryz.func44,Tryz.ntmps44;go_wp2_with fail;go_loopw [5,8] (λ_ i wr=>∃k:Nat,i = .int .i64 k/\k<=n/\Hid (ai (N.take k) s=false)/\w=wr) (λ_ i _=>n-(intOf i).toNat)
 case atStart=>exact⟨0,rfl,Nat.zero_le _,O rfl,rfl⟩
 case round =>
  obtain⟨k,rfl,hk,hF,rfl⟩:=hrel;by_cases hlt:k<n
  ·have Rb:k<N.length:=by rw [<-HL.o];exact hlt
   obtain⟨a,rfl,q⟩:=HT.o.cell Rb;by_cases hs:N[k]=s
   ·have HR:=O (show ai N s=true from lw.2 (by rw [<-hs];exact List.getElem_mem Rb));rw [hs] at q;clear hF hs;go_wp2_with fail;go_ret;exact⟨⟨k,rfl,by rw [HR.o];simp⟩,Below.refl _ _⟩
   ·have HF:=O (Kz Rb hF.o hs);have f6:(s.toList==N[k].toList)=false:=beq_eq_false_iff_ne.2 (λq=>hs (toList_inj q.symm));generalize N[k]=y at *;clear hF hs;go_wp2_with fail;go_roundw
    case rel=>exact⟨k+1,by go_num,hlt,HF,trivial⟩
    case measure=>simp [intOf];omega
  ·have HR:=O (show ai N s=false by
    have:=hF.o
    rwa [List.take_of_length_le (by rw [<-HL.o];omega)] at this)
   clear hF;go_wp2_with fail;go_ret;exact⟨⟨-1,rfl,by rw [HR.o];simp⟩,Below.refl _ _⟩
theorem cT(A:Option Addr)(n c:Nat)(N:List ByteArray)(s:ByteArray)(w:World)(h:Txs w A n c N):
 Calls Tryz.prog 16 #[.slice A n c,.string s] w λe w'=>e = .returned (.bool (ai N s))/\Below w.heap.size w w':=by
 have K:=O (Iy A n c N s w h);clear h;go_enter Tryz.func16,Tryz.ntmps16;go_wp2_with fail;refine K.o.mono ?_;rintro e w1 ⟨⟨k,rfl,hk⟩,b1⟩;have B1:=O b1;have HK:=O (show decide (0<=k)=ai N s by
  rcases hu:ai N s with _|_
  ·exact decide_eq_false (λh=>by have:=hk.1 h;rw [hu] at this;cases this)
  ·exact decide_eq_true (hk.2 hu))
 clear hk b1;go_wp2_with fail;go_ret;exact⟨by rw [<-HK.o];rfl,B1.o⟩
def sB(w:World)(k:Kd)(e:Ending)(w':World):Prop:=∃u,e = .returned (.agg u.toArray)/\KAt w' (λb=>w.heap.size<=b) k u/\Below w.heap.size w w'
def Ve(N:Nat):Prop:=∀(A:Option Addr) (n c:Nat) (P:List Nd) (w:World),P.length<=N->P.length<=200->Ns w A n c P->IsV P->Calls Tryz.prog 31 #[.slice A n c] w (sB w (jJ P))
theorem QV(A:Option Addr)(n c:Nat)(P:List Nd)(w:World)(df:Ns w A n c P)(hV:IsV P)(h5:zg P≠5)(h6:zg P≠6):
 Calls Tryz.prog 31 #[.slice A n c] w (sB w (jJ P)):=by
 have hop:=vx hV;have e1:=@ol P;have e2:=@qQ P;have e3:=@uP P;have e4:=@oC P;generalize jJ P=kk at *;obtain⟨x,r,rfl,-,-⟩:=iM hV;change x.op=1->_ at e1;change x.op=2->_ at e2;change x.op=3->_ at e3;change x.op=4->kk = .ent x.s at e4;change x.op=1\/x.op=2\/x.op=3\/x.op=4\/x.op=5\/x.op=6 at hop;change x.op≠5 at h5;change x.op≠6 at h6;obtain⟨a,rfl,q0,q1,q2,q3⟩:=df.at_ 0 x rfl;rw [show a.add (0*4)=a from rfl] at q0 q1 q2 q3;have hl:a.block<w.heap.size:=block_lt_of_cell q0;have hn1:1<=n:=by rw [df.len,List.length_cons];omega
 have hm:=df.max;unfold maxLen at hm;have HB:=O (λo1 o2=>(za w o1).trans ((za (w.alloc o1) o2).mono (by simp)));clear df hV;rcases hop with h|h|h|h|h|h
 ·rw [e1 h];rw [h] at q0;clear h h5 h6 e1 e2 e3 e4;go_enter Tryz.func31,Tryz.ntmps31;go_wp2_with fail;refine bodyPost_ret (v := .agg #[.int .i64 41,.int .i64 0,.string ⟨#[]⟩,.string ⟨#[]⟩,.pointer none,.slice none 0 0]) (by simp [results,Tryz.results31,go_sem]) rfl ?_;exact⟨[.int .i64 41,.int .i64 0,.string ⟨#[]⟩,.string ⟨#[]⟩,.pointer none,.slice none 0 0],rfl,⟨0,rfl⟩,HB.o _ _⟩
 ·rw [e2 h];rw [h] at q0;clear h h5 h6 e1 e2 e3 e4;go_enter Tryz.func31,Tryz.ntmps31;go_wp2_with fail;refine bodyPost_ret (v := .agg #[.int .i64 42,.int .i64 0,.string ⟨#[]⟩,.string ⟨#[]⟩,.pointer none,.slice none 0 0]) (by simp [results,Tryz.results31,go_sem]) rfl ?_;exact⟨[.int .i64 42,.int .i64 0,.string ⟨#[]⟩,.string ⟨#[]⟩,.pointer none,.slice none 0 0],rfl,⟨0,rfl⟩,HB.o _ _⟩
 ·rw [e3 h];rw [h] at q0;clear h h5 h6 e1 e2 e3 e4;go_enter Tryz.func31,Tryz.ntmps31;go_wp2_with fail;refine bodyPost_ret (v := .agg #[.int .i64 43,.int .i64 0,.string ⟨#[]⟩,.string ⟨#[]⟩,.pointer none,.slice none 0 0]) (by simp [results,Tryz.results31,go_sem]) rfl ?_;exact⟨[.int .i64 43,.int .i64 0,.string ⟨#[]⟩,.string ⟨#[]⟩,.pointer none,.slice none 0 0],rfl,⟨0,rfl⟩,HB.o _ _⟩
 ·rw [e4 h];rw [h] at q0;clear h h5 h6 e1 e2 e3 e4;go_enter Tryz.func31,Tryz.ntmps31;go_wp2_with fail;refine bodyPost_ret (v := .agg #[.int .i64 44,.int .i64 0,.string x.s,.string ⟨#[]⟩,.pointer none,.slice none 0 0]) (by simp [results,Tryz.results31,go_sem]) rfl ?_;exact⟨[.int .i64 44,.int .i64 0,.string x.s,.string ⟨#[]⟩,.pointer none,.slice none 0 0],rfl,⟨0,rfl⟩,HB.o _ _⟩
 ·exact absurd h h5
 ·exact absurd h h6
theorem K8{L:List (List Nd)}{k:Nat}(h:k<L.length):((L.take (k+1)).map jJ).foldl zI (.base 49)=zI (((L.take k).map jJ).foldl zI (.base 49)) (jJ L[k]):=by
 rw [List.take_succ_eq_append_getElem h,List.map_append,List.foldl_append];rfl
theorem T8{L:List (List Nd)}(hL:∀Q∈L,IsV Q)(k:Nat):(((L.take k).map jJ).foldl zI (.base 49)).sz<=1+2*L.flatten.length:=by
 have h1:=lW ((L.take k).map jJ) (.base 49) trivial (λy hy=>by
  obtain⟨Q,hQ,rfl⟩:=List.mem_map.1 hy
  exact oc (hL Q (List.mem_of_mem_take hQ)))
 have h2:(((L.take k).map jJ).map Kd.sz).sum<=2*(L.take k).flatten.length:=by
  rw [vB,List.map_map,<-sH];exact yD _ _ _ λQ hQ=>GG (hL Q (List.mem_of_mem_take hQ))
 have h3:(L.take k).flatten.length<=L.flatten.length:=by
  have e:L.flatten=(L.take k).flatten ++(L.drop k).flatten:=by rw [<-List.flatten_append,List.take_append_drop]
  rw [e,List.length_append];omega
 have h4:(Kd.base 49).sz=1:=rfl;omega
theorem GK{L:List (List Nd)}(hL:∀Q∈L,IsV Q)(k:Nat):(((L.take k).map jJ).foldl zI (.base 49)).valid :=
 fW _ _ (by unfold Kd.valid ah;omega) (λy hy=>by
  obtain⟨Q,hQ,rfl⟩:=List.mem_map.1 hy
  exact mJ (hL Q (List.mem_of_mem_take hQ)))
theorem I6:∀L:List (List Nd),(∀Q∈L,1<=Q.length)->L.length<=(L.map List.length).sum
 | [],_=>Nat.le_refl _
 | Q :: L,h=>by
  have h1:=h Q (by simp);have h2:=I6 L λQ hQ=>h Q (by simp [hQ]);simp only [List.length_cons,List.map_cons,List.sum_cons];omega
theorem DX{q:Kd}{L:List (List Nd)}{k:Nat}(hq:q=((L.take k).map jJ).foldl zI (.base 49))(h:k<L.length):zI q (jJ L[k])=((L.take (k+1)).map jJ).foldl zI (.base 49):=by
 rw [K8 h,hq]
structure SLp(w wr:World)(vp:Value)(V:List Sl)(q:Kd)(o n:Int)(s t:ByteArray)(p A:Option Addr)(m c:Nat):Prop where
 R:Bx6 wr w.heap.size (.int .i64 0) (.int .i64 0) (.string ⟨#[]⟩) (.string ⟨#[]⟩) (.pointer none) (.slice none 0 0)
 X:Bx6 wr (w.heap.size+2) (.int .i64 o) (.int .i64 n) (.string s) (.string t) (.pointer p) (.slice A m c)
 K:KAt wr (λb=>w.heap.size+3<=b) q [.int .i64 o,.int .i64 n,.string s,.string t,.pointer p,.slice A m c]
 V:zU wr (w.heap.size+3) vp V
 G:Below w.heap.size w wr
 z:w.heap.size+3<=wr.heap.size
theorem Su(N:Nat)(ih:Ve N)(A:Option Addr)(n c:Nat)(P:List Nd)(w:World)(hN:P.length<=N+1)(ci:P.length<=200)(df:Ns w A n c P)(hV:IsV P)(h5:zg P=5):
 Calls Tryz.prog 31 #[.slice A n c] w (sB w (jJ P)):=by
 have HE:=O (vK hV h5);have Wz:=O (dc hV h5).2.2.1;have WS:=O (λQ (hQ:Q∈zn P)=>gu hV h5 hQ);have UU:=O (show(zn P).flatten.length<=200 by
  have:=(dc hV h5).1
  have h2:=congrArg List.length this
  rw [List.length_cons] at h2
  omega)
 have Xk:=O (show ic P=zn P/\cC P=0 by
  have h0:zh P=0:=zy.2 ⟨ci,hV⟩
  have h1:cC P=0:=by unfold cC;rw [if_pos h0,if_pos (.inl h5)]
  refine⟨?_,h1⟩
  unfold ic
  rw [if_pos h1,if_pos h5])
 have Xg:=O (λw' hb=>aB A n c P w' (df.keep (w':=w') hb));obtain⟨x,r,rfl,-,-⟩:=iM hV;change x.op=5 at h5;obtain⟨a,rfl,q0,q1,q2,q3⟩:=df.at_ 0 x rfl;rw [show a.add (0*4)=a from rfl] at q0 q1 q2 q3;have hl:a.block<w.heap.size:=block_lt_of_cell q0;have hn1:1<=n:=by rw [df.len,List.length_cons];omega
 have hm:=df.max;unfold maxLen at hm;rw [h5] at q0;have HP:=O hN;generalize jJ (x :: r)=kk at *;obtain⟨PP,WG⟩:∃PP,PP=x :: r:=⟨_,rfl⟩
 rw [<-WG] at HE Wz WS UU Xk Xg HP;have IH:=O ih;clear df hV h5 WG hN ci ih;have Ba:=za w (.cells #[.int .i64 0,.int .i64 0,.string ⟨#[]⟩,.string ⟨#[]⟩,.pointer none,.slice none 0 0] 81);have Bb:=za (w.alloc (.cells #[.int .i64 0,.int .i64 0,.string ⟨#[]⟩,.string ⟨#[]⟩,.pointer none,.slice none 0 0] 81)) (.cells #[.int .i64 5,.int .i64 x.n,.string x.s,.string x.t] 47);have Bc:=za ((w.alloc (.cells #[.int .i64 0,.int .i64 0,.string ⟨#[]⟩,.string ⟨#[]⟩,.pointer none,.slice none 0 0] 81)).alloc (.cells #[.int .i64 5,.int .i64 x.n,.string x.s,.string x.t] 47)) (.cells #[.int .i64 49,.int .i64 0,.string ⟨#[]⟩,.string ⟨#[]⟩,.pointer none,.slice none 0 0] 81);have B3:=O (Ba.trans ((Bb.trans (Bc.mono (by simp))).mono (by simp)));have XR:=O (((jf w (.int .i64 0) (.int .i64 0) (.string ⟨#[]⟩) (.string ⟨#[]⟩) (.pointer none) (.slice none 0 0) 81).keep Bb).keep Bc);have xp:=jf ((w.alloc (.cells #[.int .i64 0,.int .i64 0,.string ⟨#[]⟩,.string ⟨#[]⟩,.pointer none,.slice none 0 0] 81)).alloc (.cells #[.int .i64 5,.int .i64 x.n,.string x.s,.string x.t] 47)) (.int .i64 49) (.int .i64 0) (.string ⟨#[]⟩) (.string ⟨#[]⟩) (.pointer none) (.slice none 0 0) 81;have hz2:((w.alloc (.cells #[.int .i64 0,.int .i64 0,.string ⟨#[]⟩,.string ⟨#[]⟩,.pointer none,.slice none 0 0] 81)).alloc (.cells #[.int .i64 5,.int .i64 x.n,.string x.s,.string x.t] 47)).heap.size=w.heap.size+2:=by simp
 have hz3:(((w.alloc (.cells #[.int .i64 0,.int .i64 0,.string ⟨#[]⟩,.string ⟨#[]⟩,.pointer none,.slice none 0 0] 81)).alloc (.cells #[.int .i64 5,.int .i64 x.n,.string x.s,.string x.t] 47)).alloc (.cells #[.int .i64 49,.int .i64 0,.string ⟨#[]⟩,.string ⟨#[]⟩,.pointer none,.slice none 0 0] 81)).heap.size=w.heap.size+3:=by simp
 rw [hz2] at xp;have XP:=O xp;have MF:=O hz3;clear Ba Bb Bc xp hz2 hz3;go_enter Tryz.func31,Tryz.ntmps31;go_wp2_with fail;obtain⟨w3,hw3⟩:∃w3,(((w.alloc (.cells #[.int .i64 0,.int .i64 0,.string ⟨#[]⟩,.string ⟨#[]⟩,.pointer none,.slice none 0 0] 81)).alloc (.cells #[.int .i64 5,.int .i64 x.n,.string x.s,.string x.t] 47)).alloc (.cells #[.int .i64 49,.int .i64 0,.string ⟨#[]⟩,.string ⟨#[]⟩,.pointer none,.slice none 0 0] 81))=w3:=⟨_,rfl⟩
 rw [hw3] at B3 XR XP MF ⊢;clear hw3 q0 q1 q2 q3;refine(Xg.o _ B3.o).mono ?_;rintro e w4 ⟨v,V,rfl,Ue,BI,XY,b4⟩;rw [Xk.o.2,zj];rw [Xk.o.1] at BI;have BQ:=O BI;rw [MF.o] at Ue;have FC:=O (show∀r∈V,∀a,r.A=some a->w.heap.size+3<=a.block from λr hr a ha=>by have:=XY r hr a ha;have:=MF.o;omega);have LP:=O (show SLp w w4 v V (.base 49) 49 0 ⟨#[]⟩ ⟨#[]⟩ none none 0 0 from⟨XR.o.keep b4,XP.o.keep b4,⟨0,rfl⟩,Ue,B3.o.trans (b4.mono B3.o.size),by have:=b4.size;have:=MF.o;omega⟩);obtain⟨A5,c5,YF,-,-⟩:=Ue.at
 obtain⟨nv,WU⟩:∃nv,nv=V.length:=⟨_,rfl⟩
 have YC:=O WU;have MR:=O (show nv<=200 by
  have h1:=congrArg List.length BI
  rw [List.length_map] at h1
  have h2:=UU.o
  rw [vB] at h2
  have h3:=I6 (zn PP) (λQ hQ=>by obtain⟨x,r,e,-⟩:=iM (Wz.o Q hQ);rw [e];simp)
  omega)
 rw [<-WU] at YF;subst YF;have qX:nv<=200:=MR.o;clear Ue BI XY WU b4 B3 XR XP Xg;go_wp2_with fail;go_loopw [49] (λi wr=>∃(k:Nat) (q:Kd) (o n':Int) (s t:ByteArray) (p A:Option Addr) (m c:Nat),i = .int .i64 k/\k<=nv/\Hid (q=(((zn PP).take k).map jJ).foldl zI (.base 49))/\Hid (SLp w wr (.slice A5 nv c5) V q o n' s t p A m c)) (λi _=>nv-(intOf i).toNat)
 case atStart=>exact⟨0,_,_,_,_,_,_,_,_,_,rfl,Nat.zero_le _,O rfl,LP⟩
 case round =>
  clear LP;obtain⟨k,q,o,n',s,t,p,A,m,c,rfl,hk,hq,hL⟩:=hrel;by_cases hlt:k<nv
  ·have Rr:k<V.length:=by rw [<-YC.o];exact hlt
   have WO:k<(zn PP).length:=by rw [<-BQ.o,List.length_map];exact Rr
   have YK:V[k].P=(zn PP)[k]:=by simp [<-BQ.o]
   have kS:(zn PP)[k]∈zn PP:=List.getElem_mem WO;have Ry:=O (Wz.o _ kS);have yy:=O (WS.o _ kS);have Fy:=O (show(zn PP)[k].length<=200 by have:=C' kS;have:=UU.o;omega);have Xh:=O (DX hq.o WO);have HQV:=O (show q.valid by rw [hq.o];exact GK Wz.o k);have HQS:=O (show q.sz<=90000 by
    have h1:=T8 Wz.o k
    have h2:=UU.o
    rw [<-hq.o] at h1
    omega)
   obtain⟨A5',c5',e5,-,XM⟩:=hL.o.V.at
   injection e5 with e5 e5n e5';clear e5n;subst e5 e5';obtain⟨a5,rfl,hcell,qo⟩:=XM.at Rr;rw [YK] at qo;obtain⟨y,hy⟩:∃y,y=V[k]:=⟨_,rfl⟩
   rw [<-hy] at hcell qo;obtain⟨yP,Yp⟩:∃yP,yP=(zn PP)[k]:=⟨_,rfl⟩
   rw [<-Yp] at qo Ry yy Fy Xh;obtain⟨yA,yn,yc,yp⟩:=y;simp only at hcell qo;have bd:Below wr.heap.size wr wr.drew:=⟨rfl,rfl,rfl,Nat.le_refl _,λ_ _=>rfl⟩
   have KO:=O (IH.o yA yn yc yP wr.drew (by have:=yy.o;have:=HP.o;omega) Fy.o (qo.keep bd) Ry.o);have Rn:=O (GG Ry.o);have HOV:=O (mJ Ry.o);have BD:=O bd;have HS:=O (λ(w':World) (hb:Below wr.heap.size wr w')=>(show w'.cell? ⟨w.heap.size+2,0,none⟩=some (.int .i64 o)/\w'.cell? ⟨w.heap.size+2,1,none⟩=some (.int .i64 n')/\w'.cell? ⟨w.heap.size+2,2,none⟩=some (.string s)/\w'.cell? ⟨w.heap.size+2,3,none⟩=some (.string t)/\w'.cell? ⟨w.heap.size+2,4,none⟩=some (.pointer p)/\w'.cell? ⟨w.heap.size+2,5,none⟩=some (Value.slice A m c) from by
    obtain⟨a0,a1,a2,a3,a4,a5,-,-,-,-,-,-⟩:=hL.o.X.keep hb
    exact⟨a0,a1,a2,a3,a4,a5⟩))
   clear YK kS XM hy Yp qo bd;go_wp2_with fail;clear hcell;refine wp_region_noPanic ?_;refine a8 (λ(w':World)=>w'.cell? ⟨w.heap.size+2,0,none⟩=some (.int .i64 o)/\w'.cell? ⟨w.heap.size+2,1,none⟩=some (.int .i64 n')/\w'.cell? ⟨w.heap.size+2,2,none⟩=some (.string s)/\w'.cell? ⟨w.heap.size+2,3,none⟩=some (.string t)/\w'.cell? ⟨w.heap.size+2,4,none⟩=some (.pointer p)/\w'.cell? ⟨w.heap.size+2,5,none⟩=some (Value.slice A m c)) 4 (by kernel_rfl) (HS.o _ BD.o) (λhHeld=>?_);refine zr 0 53 (.agg #[.int .i64 o,.int .i64 n',.string s,.string t,.pointer p,.slice A m c]) rfl (λw' hSw=>?_) hHeld ?_
   ·obtain⟨a0,a1,a2,a3,a4,a5⟩:=hSw;go_simp
   simp only [Act.put,zL];refine zr 1 54 (.slice yA yn yc) rfl (λw' hSw=>?_) hHeld ?_
   ·clear hSw;go_simp
   simp only [Act.put,zL];refine zA (i:=2) (o:=⟨some 55,_,_,_,_,_⟩) (by kernel_rfl) rfl (λK' hK'=>?_);go_simp;go_at_call 31;refine KO.o.mono ?_;rintro e w6 ⟨u,rfl,ku,b6⟩;have B6:=O (BD.o.trans (b6.mono BD.o.size));have KJ:=O (mC _ q (jJ yP) _ u w6 (λb=>w.heap.size+3<=b/\b<w6.heap.size) (Nat.le_refl _) HQS.o (by have:=Rn.o;have:=Fy.o;omega)
    (((hL.o.K.mono (B':=λb=>w.heap.size+3<=b/\b<wr.heap.size) λb h1 h2=>⟨h1,h2⟩).cong (w':=w6) λb hb=>B6.o.block b hb.2).mono λb hb h2=>⟨hb.1,h2⟩)
    (ku.mono λb h1 h2=>⟨Nat.le_trans hL.o.z h1,h2⟩) HQV.o HOV.o (λb hb=>hb.2))
   obtain⟨o6,n6,s6,t6,p6,A6,m6,c6,rfl⟩:=aG ku;clear ku b6;go_wp2_with fail;refine hK'.out _ _ (λ_=>HS.o _ B6.o) ?_;clear hK' K' hHeld
   try simp only [Act.put,zL]
   refine zA (i:=3) (o:=⟨some 56,_,_,_,_,_⟩) (by kernel_rfl) rfl (λK' hK'=>?_);go_simp;go_at_call 72;refine KJ.o.mono ?_;rintro e w7 ⟨u,rfl,ku,b7⟩;have B7:=O (B6.o.trans (b7.mono B6.o.size));obtain⟨o7,n7,s7,t7,p7,A7,m7,c7,rfl⟩:=aG ku;have KU:=O (ku.mono (B':=λb=>w.heap.size+3<=b) λb h1 _=>by
    rcases h1 with h|h
    ·exact h.1
    ·have:=hL.o.z;have:=B6.o.size;omega)
   clear ku b7 KJ;go_wp2_with fail;refine hK'.out _ _ (λ_=>HS.o _ B7.o) ?_;clear hK' K'
   try simp only [Act.put,zL]
   obtain⟨a0,a1,a2,a3,a4,a5,j0,j1,j2,j3,j4,j5⟩:=hL.o.X.keep B7.o;refine zA (i:=4) (o:=⟨none,_,_,_,_,_⟩) (by kernel_rfl) rfl (λK' hK'=>?_);go_simp;refine hK'.out _ _ (λh=>absurd rfl h) ?_;refine jR (by kernel_rfl) ?_;refine NoPanic.normal ?_;clear hK' K' a0 a1 a2 a3 a4 a5 j0 j1 j2 j3 j4 j5;have gs:=jI w7 (w.heap.size+2) (.int .i64 o7) (.int .i64 n7) (.string s7) (.string t7) (.pointer p7) (.slice A7 m7 c7);have V7:=hL.o.V.keep B7.o;have MR:=O (show SLp w ((((((w7.setCell ⟨w.heap.size+2,0,none⟩ (.int .i64 o7)).setCell ⟨w.heap.size+2,1,none⟩ (.int .i64 n7)).setCell ⟨w.heap.size+2,2,none⟩ (.string s7)).setCell ⟨w.heap.size+2,3,none⟩ (.string t7)).setCell ⟨w.heap.size+2,4,none⟩ (.pointer p7)).setCell ⟨w.heap.size+2,5,none⟩ (.slice A7 m7 c7)) (.slice (some a5) nv c5) V (zI q (jJ yP)) o7 n7 s7 t7 p7 A7 m7 c7 from
    ⟨(hL.o.R.keep B7.o).but gs (λe=>by injection e with e;omega),(hL.o.X.keep B7.o).set (.int .i64 o7) (.int .i64 n7) (.string s7) (.string t7) (.pointer p7) (.slice A7 m7 c7),
     KU.o.cong λb hb=>ae w7 (w.heap.size+2) (.int .i64 o7) (.int .i64 n7) (.string s7) (.string t7) (.pointer p7) (.slice A7 m7 c7) (by omega),
     V7.row gs (.inr (λe=>by have:=(V7.own.lt _ e).1;omega)) (λr hr _ a ha e=>by injection e with e;have:=FC.o r hr a ha;omega),
     jY (hL.o.G.trans (B7.o.mono hL.o.G.size)) (by omega) (.int .i64 o7) (.int .i64 n7) (.string s7) (.string t7) (.pointer p7) (.slice A7 m7 c7),by have:=hL.o.z;have:=B7.o.size;simp [World.setCell];omega⟩)
   clear gs V7;go_wp2_with fail;go_roundw
   case rel=>exact⟨k+1,_,o7,n7,s7,t7,p7,A7,m7,c7,by go_num,hlt,Xh,MR⟩
   case measure=>simp [intOf];omega
  ·have Xd:k=nv:=by omega
   have HK:=O (show kk = .set q by
    have h1:=hq.o
    have h2:(zn PP).length=nv:=by rw [<-BQ.o,List.length_map,YC.o]
    rw [Xd,<-h2,List.take_length] at h1
    rw [HE.o,h1]
    rfl)
   obtain⟨r0,r1,r2,r3,r4,r5,y0,y1,y2,y3,y4,y5⟩:=hL.o.R;go_wp2_with fail;obtain⟨j0,j1,j2,j3,j4,j5,-,-,-,-,-,-⟩:=hL.o.R.set (.int .i64 45) (.int .i64 0) (.string ⟨#[]⟩) (.string ⟨#[]⟩) (.pointer (some ⟨w.heap.size+2,0,none⟩)) (.slice none 0 0);refine bodyPost_ret (v := .agg #[.int .i64 45,.int .i64 0,.string ⟨#[]⟩,.string ⟨#[]⟩,.pointer (some ⟨w.heap.size+2,0,none⟩),.slice none 0 0]) (by simp [results,Tryz.results31,go_sem,j0,j1,j2,j3,j4,j5]) rfl ?_;rw [HK.o];refine⟨[.int .i64 45,.int .i64 0,.string ⟨#[]⟩,.string ⟨#[]⟩,.pointer (some ⟨w.heap.size+2,0,none⟩),.slice none 0 0],rfl,⟨0,w.heap.size+2,_,rfl,by omega,hL.o.X.row.cong (ae wr w.heap.size _ _ _ _ _ _ (by show w.heap.size+2≠w.heap.size;omega)),?_⟩,jY hL.o.G (Nat.le_refl _) _ _ _ _ _ _⟩;exact(hL.o.K.cong λb hb=>ae wr w.heap.size _ _ _ _ _ _ (by omega)).mono λb hb _=>by omega
end Go.Proofs.YthifljpkgfpkiaaGreatDoor
