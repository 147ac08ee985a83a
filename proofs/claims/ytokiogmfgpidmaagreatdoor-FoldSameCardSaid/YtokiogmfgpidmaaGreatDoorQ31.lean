/-
  The reference's ValueEnd outright; ValueFault and Faults. val.SetOf: the set of ..
-/
import Derived.RangeFuncBox
import Derived.RangeFuncBound
import Derived.Sort.OwnSorted
import Derived.Test.YtokiogmfgpidmaaGreatDoorQ30
set_option maxRecDepth 100000
set_option maxHeartbeats 8000000
namespace Go.Proofs.YtokiogmfgpidmaaGreatDoor
open Go.RowKit Go.Wk Go.Sort
def dq(V:List Sl):Int:=cF (V.map (·.P))
theorem uX{V:List Sl}{k:Nat}(h:k<V.length):dq (V.drop k)=or2 (zc V[k].P) (dq (V.drop (k+1))):=by
 unfold dq;rw [List.drop_eq_getElem_cons h];rfl
theorem rS{V:List Sl}{k:Nat}(h:V.length<=k):dq (V.drop k)=0:=by
 unfold dq;rw [List.drop_of_length_le h];rfl
def Ec(w:World)(B:Nat)(v:Value)(V:List Sl)(e:Ending)(w':World):Prop :=
 e = .returned (.tuple #[])/\∃V':List Sl,V'.Perm V/\V'.Pairwise (λa b=>zC a.P b.P<=0)/\zO w' B v V'/\w.grownBy w' v.ownBlock
theorem uw{V:List Sl}(h:vh V):V.Pairwise (λa b=>zC a.P b.P<=0):=
 List.pairwise_iff_getElem.2 λi j _ hj hij=>h i j hij hj
theorem Fv(w:World)(B:Nat)(v:Value)(V:List Sl)(h:zO w B v V)(hs:V.length<=5864062014634):
 Calls Tryz.prog 165 #[v,.func (.func 136) #[] #[]] w (Ec w B v V):=by
 rcases h.own.2 with ⟨rfl,h0⟩|⟨g,cap,cur,rfl,_⟩
 ·have:V = []:=List.eq_nil_of_length_eq_zero h0;subst this;exact(BV w none 0 _).mono λe w' ⟨h1,h2⟩=>⟨h1,[],List.Perm.refl _,List.Pairwise.nil,by rw [h2];exact h,by rw [h2];exact World.grownBy.refl _ _⟩
 ·exact(FN w B g cap V h hs).mono λe w' ⟨h1,V',h2,h3,h4,h5⟩=>⟨h1,V',h2,uw h3,h4,h5⟩
def tY(w:World)(B:Nat)(v:Value)(V:List Sl)(e:Ending)(w':World):Prop:=∃v',e = .returned v'/\zO w' B v' (jb V)/\w.grownBy w' v.ownBlock
theorem sS(w:World):Calls Tryz.prog 166 #[.slice none 0 0,.func (.func 167) #[] #[]] w λe w'=>e = .returned (.slice none 0 0)/\w=w':=by
 go_enter Tryz.func166,Tryz.ntmps166;go_wp2;go_ret;exact⟨rfl,rfl⟩
theorem ti(w:World)(B:Nat)(v:Value)(V:List Sl)(h:zO w B v V)(hs:V.length<=5864062014634):
 Calls Tryz.prog 166 #[v,.func (.func 167) #[] #[]] w (tY w B v V):=by
 rcases h.own.2 with ⟨rfl,h0⟩|⟨g,cap,cur,rfl,_⟩
 ·have:V = []:=List.eq_nil_of_length_eq_zero h0;subst this;exact(sS w).mono λe w' ⟨h1,h2⟩=>⟨_,h1,by rw [<-h2];exact zO.nil _ _,by rw [<-h2];exact World.grownBy.refl _ _⟩
 ·exact(uo w B g cap V h hs).mono λe w' ⟨h1,h2,h3⟩=>⟨_,h1,h2,h3⟩
def vr(w:World)(L:List (List Nd))(e:Ending)(w':World):Prop :=
 ∃(A:Option Addr) (n c:Nat),e = .returned (.tuple #[.slice A n c,jr (setE L)])/\Ns w' A n c (dH L)/\(∀a,A=some a->w.heap.size<=a.block)/\Below w.heap.size w w'
theorem rE(w:World):Ns w none 0 0 []:=⟨rfl,Nat.le_refl _,Nat.zero_le _,λk x hx=>by simp at hx,λx hx=>by cases hx⟩
def fZ(n:Nat)(L:List (List Nd))(k:Nat):List Nd:=jI n ::(L.take k).flatten
theorem AE{n:Nat}{L:List (List Nd)}{k:Nat}(h:k<L.length):fZ n L (k+1)=fZ n L k ++ L[k]:=by
 unfold fZ;rw [<-List.take_append_getElem h,List.flatten_append];simp
theorem EU{n:Nat}{L:List (List Nd)}(k:Nat):(fZ n L k).length<=L.flatten.length+1:=by
 unfold fZ
 conv=>rhs;rw [<-List.take_append_drop k L]
 rw [List.flatten_append];simp only [List.length_cons,List.length_append];omega
theorem Ek{n:Nat}{L:List (List Nd)}{k:Nat}(h:L.length<=k):fZ n L k=jI n :: L.flatten:=by
 unfold fZ;rw [List.take_of_length_le h]
theorem AY{L:List (List Nd)}(h:∀P∈L,au P):au L.flatten:=λx hx=>let ⟨P,hP,hx⟩:=List.mem_flatten.1 hx;h P hP x hx
theorem GL{n:Nat}{L:List (List Nd)}(hn:n<=5864062014634)(h:∀P∈L,au P):au (jI n :: L.flatten):=by
 intro x hx;rcases List.mem_cons.1 hx with rfl|hx
 ·exact⟨Nat.zero_le _,Nat.zero_le _,by show _<=(n:Int);omega,by show(n:Int)<=_;omega⟩
 ·exact AY h x hx
theorem y8(w:World)(x:Nd):(w.alloc (.cells #[.int .i64 x.op,.int .i64 x.n,.string x.s,.string x.t] 28)).ownsRow w.heap.size 28 4 (.slice (some ⟨w.heap.size,0,none⟩) 1 1) 1 (zT [x]):=
 ⟨rfl,.inr ⟨_,1,_,rfl,Nat.le_refl _,heap_alloc_new w _,Nat.le_refl _,by unfold maxLen;omega,rfl,rfl⟩⟩
theorem aw.nds{w:World}{A:Option Addr}{V:List Sl}(h:aw w A V):∀P∈V.map Sl.P,au P:=by
 intro P hP;obtain⟨r,hr,rfl⟩:=List.mem_map.1 hP;obtain⟨k,hk,rfl⟩:=List.getElem_of_mem hr;obtain⟨-,-,-,q⟩:=h.at hk;exact q.ok
theorem wE(A:Option Addr)(n c:Nat)(V:List Sl)(w:World)(hn:n=V.length)(hm:n<=5864062014634)(hV:aw w A V):
 Calls Tryz.prog 139 #[.slice A n c] w (vr w (V.map Sl.P)):=by
 obtain⟨i0,hi,hz0,hz1,hz2⟩:=info_parts mS;have HV:=O hV;have HN:=O hn;clear hV hn;go_enter Tryz.func139,Tryz.ntmps139;go_wp2_with fail;go_loopw [5,6,13] (λ_ _ i wr=>∃k:Nat,k<=n/\i = .int .i64 k/\Hid (dq V=dq (V.drop k))/\Hid (Below w.heap.size w wr)) (λ_ _ i _=>n-(intOf i).toNat)
 case atStart=>exact⟨0,Nat.zero_le _,rfl,rfl,Below.refl _ _⟩
 case round =>
  obtain⟨k,hk,rfl,hE,hB⟩:=hrel;by_cases hlt:k<n
  ·have h1:k<V.length:=by rw [<-HN.o];exact hlt
   obtain⟨a,rfl,q,hs⟩:=(HV.o.keep hB.o).at h1;have HA:=O (hE.o.trans (uX h1));have C:=O (zJ hs);generalize V[k]=r at *;clear hE hs;by_cases h0:zc r.P=0
   ·rw [h0,zk] at C;rw [h0] at HA;clear h0;go_wp2_with fail;refine(C.o).mono ?_;rintro e w1 ⟨rfl,b1⟩;go_wp2_with fail;go_roundw
    case rel=>exact⟨k+1,by omega,by go_num,HA,bh hB b1⟩
    case measure=>simp [intOf];omega
   ·have HE:=O (show setE (V.map Sl.P)=zc r.P/\setE (V.map Sl.P)≠0 by
     have e:cF (V.map Sl.P)=zc r.P:=HA.o.trans (jt h0 _)
     have e2:setE (V.map Sl.P)=zc r.P:=by unfold setE;rw [e,jt h0]
     exact⟨e2,by rw [e2];exact h0⟩)
    have Ji:=zn h0;have hJ:=O (zn h0);rw [Ji] at C;clear h0 Ji;go_wp2_with fail;refine(C.o).mono ?_;rintro e w1 ⟨rfl,b1⟩;go_wp2_with fail;go_ret2;refine⟨none,0,0,by rw [HE.o.1,hJ.o];rfl,by rw [tN HE.o.2];exact rE _,(λa e=>nomatch e),(bh hB b1).o⟩
  ·have HF:=O (show cF (V.map Sl.P)=0 from hE.o.trans (rS (by rw [<-HN.o];omega)));have C1:=O (BO A n c V wr HN.o (by omega) (HV.o.keep hB.o));clear hE;go_wp2_with fail;refine C1.o.mono ?_;rintro e w1 ⟨v,rfl,vW,b1⟩;have C2:=O (Fv w1 wr.heap.size v V vW (by rw [<-HN.o];exact hm));have Ob:=O (jm vW.own);have B1:=O b1;clear vW b1;go_wp2_with fail;refine C2.o.mono ?_;rintro e w2 ⟨rfl,V',hp,Ng,CQ,hg2⟩;have C3:=O (ti w2 wr.heap.size v V' CQ (by rw [hp.length_eq,<-HN.o];exact hm));have B2:=O (B1.o.grown hg2 B1.o.size Ob.o);have HS:=O (show(jb V').map Sl.P=cT (V.map Sl.P) by
    rw [uI Ng]
    exact xC λx=>(hp.map Sl.P).mem_iff)
   have HL:=O (show(jb V').length<=n by have:=ul V';rw [hp.length_eq,<-HN.o] at this;exact this);clear hp Ng CQ hg2 C1 C2 B1;go_wp2_with fail;refine C3.o.mono ?_;rintro e w3 ⟨v3,rfl,LM,hg3⟩;have B3:=O (hB.o.trans ((B2.o.grown hg3 B2.o.size Ob.o).mono hB.o.size));obtain⟨A3,c3,rfl,-,hS3⟩:=LM.at
   generalize jb V'=U at *;have HU:=O hS3;have hUn:=HL.o;clear LM hg3 hS3 C3 B2 Ob hB HL;have R0:=O (y8 w3 (jI U.length));have HP:=O (show∀r∈U,zc r.P=0 from λr hr=>fM.1 HF.o r.P (iE.1 (by rw [<-HS.o];exact List.mem_map_of_mem hr)));go_wp2_with fail;go_loopw [8,10,35] (λv _ i wr=>∃k:Nat,k<=U.length/\i = .int .i64 k/\Hid ((fZ U.length (U.map Sl.P) k).length<=200/\wr.ownsRow w3.heap.size 28 4 v (fZ U.length (U.map Sl.P) k).length (zT (fZ U.length (U.map Sl.P) k)))/\Hid (Below w3.heap.size w3 wr)) (λ_ _ i _=>U.length-(intOf i).toNat)
   case atStart=>exact⟨0,Nat.zero_le _,rfl,⟨by simp [fZ],R0.o⟩,zb _ _⟩
   case round =>
    obtain⟨k,hk,rfl,hR,hB⟩:=hrel;have hsz:=hB.o.size;by_cases hlt:k<U.length
    ·have yj:k<(U.map Sl.P).length:=by rw [List.length_map];exact hlt
     have HO:=O (AE (n:=U.length) yj);obtain⟨a,rfl,q,hs⟩:=(HU.o.keep hB.o).at hlt;have hv:=HP.o _ (List.getElem_mem hlt);have hg:(U.map Sl.P)[k]=U[k].P:=by simp
     rw [hg] at HO;clear hg;generalize U[k]=r at *;obtain⟨hl2,hV2⟩:=zH.1 hv;obtain⟨a2,ea,-⟩:=hs.at_.nd hV2.pos;rw [ea] at q;have HC:=O (show∀j u,(zT r.P)[j]?=some u->wr.cell? (a2.add j)=some u from by
      have:=hs.at_
      rw [ea] at this
      exact this.cells)
     have LZ:=O hs.len;have hrn:r.n<=200:=by rw [hs.len];exact hl2
     have hol:=hR.o.1;clear hs hv hl2 hV2 ea;go_wp2_with (at_builtin;refine wpList_append_own _ rfl _ _ 22 rfl w3.heap.size 28 i0 _ 4 48 Tryz.underlying22 hi hz0 hz1 hz2 rfl (by decide) _ (fZ U.length (U.map Sl.P) k).length (zT (fZ U.length (U.map Sl.P) k)) rfl hR.o.2 a2 r.n r.c (zT r.P) rfl (by rw [aZ,LZ.o]) HC.o (cz _) ?c1 ?c2 ?c3 ?_)
     case c1=>unfold maxLen;omega
     case c2=>omega
     case c3=>exact hsz
     intro v1 w5 hown hgrow _;have B5:=O (hB.o.grown hgrow hsz (jm hR.o.2));rw [LZ.o,<-bL,<-List.length_append,<-HO.o] at hown;have OW:=O hown;obtain⟨A5,c5,rfl,-⟩:=aT hown;have OL:=O (EU (n:=U.length) (L:=U.map Sl.P) (k+1));generalize hX:fZ U.length (U.map Sl.P) (k+1)=X at *;have HX:=O hX;clear hown hgrow hX hB hR HO HC q;by_cases bX:200<X.length
     ·have HE:=O (show setE (V.map Sl.P)=4 by
       unfold setE
       rw [HF.o,zS,<-HS.o,if_pos (by have:=OL.o;omega)])
      go_wp2_with fail;go_ret2;refine⟨none,0,0,by rw [HE.o];rfl,by rw [tN (by rw [HE.o];decide)];exact rE _,(λa e=>nomatch e),B3.o.trans (B5.o.mono B3.o.size)⟩
     ·go_wp2_with fail;go_roundw
      case rel=>exact⟨k+1,by omega,by go_num,O (by rw [HX.o];exact⟨by omega,OW.o⟩),B5⟩
      case measure=>simp [intOf];omega
    ·obtain⟨A5,c5,rfl,Ot,hA5,hF5⟩:=aT hR.o.2;have Np:=O (show∀a,A5=some a->w.heap.size<=a.block from λa e=>Nat.le_trans B3.o.size (hF5 a e));have HX:=O (Ek (n:=U.length) (L:=U.map Sl.P) (k:=k) (by rw [List.length_map];omega));have HE:=O (show setE (V.map Sl.P)=0 by
      refine kP.2 ⟨HF.o,?_⟩
      have:=hR.o.1
      rw [HX.o,HS.o] at this
      simpa using this)
     have NN:=O (show Ns wr A5 (fZ U.length (U.map Sl.P) k).length c5 (dH (V.map Sl.P)) by
      have e:dH (V.map Sl.P)=fZ U.length (U.map Sl.P) k:=by
       rw [HX.o,mb HE.o,<-HS.o,List.length_map]
      rw [e]
      refine⟨rfl,Ot,by have:=hR.o.1;unfold maxLen;omega,hA5,?_⟩
      rw [HX.o]
      exact GL (by omega) HU.o.nds)
     have B6:=O (B3.o.trans (hB.o.mono B3.o.size));clear hR hB Ot hA5 hF5;go_wp2_with fail;go_ret2;exact⟨A5,_,c5,by rw [HE.o];rfl,NN.o,Np.o,B6.o⟩
end Go.Proofs.YtokiogmfgpidmaaGreatDoor
namespace Go.Proofs.YtokiogmfgpidmaaGreatDoor
open Go.RowKit Go.Shelf Go.Wk
attribute [local go_sem] Oper.semAt_some
theorem xX(F:Fence)(n:Nat)(h7:F.fn 182)(hro:F.round=none)(hn:1<=n)(l Bs n₀:Nat)(a:Addr)(len cap:Nat)(N:List ByteArray)(hlen:len=N.length)(hreach:len*16<=140737488351232)(hb:a.block<n₀)(J Jx:List ByteArray->World->Prop)
 (hY:∀pre x W,J pre W->pre.length<len->YieldAt F (n-1) Tryz.prog l #[.string x] W λe W' =>
  (e = .returned (.bool true)/\J (pre ++ [x]) W'/\Below n₀ W W')\/(e = .returned (.bool false)/\Jx (pre ++ [x]) W'))
 (W:World) (hBs:W.cell? ⟨Bs,0,none⟩=some (.slice (some a) len cap)) (hc:∀j,(h:j<N.length)->W.cell? (a.add j)=some (.string N[j])) (h0:J [] W):
 CallsIn F n Tryz.prog 182 #[.func (.yield l) #[] #[],.pointer (some ⟨Bs,0,none⟩)] W λe W'=>(∃v,e = .returned v)/\
  ((∃ys,ys=N/\J ys W')\/(∃pre,pre <+: N/\Jx pre W')):=by
 refine callsIn_of_wp Tryz.func182 rfl h7 ?_ hro;simp only [Tryz.ntmps182,List.size_toArray,List.length_cons,List.length_nil,Nat.reduceAdd,Nat.reduceSub,Array.replicate_succ,Array.replicate_zero,List.push_toArray,List.append_toArray,List.nil_append,List.cons_append];have HL:=O hlen;clear hlen;gi_wp2;gi_loopw [7] (λi wr=>∃k:Nat,k<=len/\i = .int .i64 k/\J (N.take k) wr/\Below n₀ W wr)
  (λi _=>len-(intOf i).toNat)
 case atStart=>exact⟨0,Nat.zero_le _,rfl,h0,Below.refl _ _⟩
 case round =>
  obtain⟨k,hk,rfl,hJs,MA⟩:=hrel;by_cases hlt:k<len
  ·have hkN:k<N.length:=by rw [<-HL.o];exact hlt
   have hcx':wr.cell? (a.add k)=some (.string N[k]):=(MA.cell (p:=a.add k) (by unfold Addr.add;split <;> exact hb)).trans (hc k hkN);obtain⟨fn,tmps,assign,Jz,hy,hR⟩:=hY _ N[k] wr hJs (by rw [List.length_take];omega);rw [List.take_append_getElem hkN] at hR;gi_wp2;refine hR.mono ?_;rintro e W3 (⟨rfl,hJ3,hk3⟩|⟨rfl,hJx3⟩)
   ·gi_wp2;go_roundw
    case rel=>exact⟨k+1,by omega,by simp,hJ3,MA.trans hk3⟩
    case measure=>simp [intOf];omega
   ·gi_wp2;refine bodyPost_ret (results_none rfl _ _ _) rfl ?_;exact⟨⟨_,rfl⟩,.inr ⟨_,List.take_prefix _ _,hJx3⟩⟩
  ·obtain rfl:k=len:=by omega
   rw [List.take_of_length_le (by rw [<-HL.o];exact Nat.le_refl _)] at hJs;gi_wp2;go_end0;exact⟨⟨_,rfl⟩,.inl ⟨_,rfl,hJs⟩⟩
theorem lL(F:Fence)(n:Nat)(h7:F.fn 182)(hro:F.round=none)(l Bs:Nat)(A:Option Addr)(cap:Nat)(J:List ByteArray->World->Prop)(W:World)(hBs:W.cell? ⟨Bs,0,none⟩=some (.slice A 0 cap))(h0:J [] W):
 CallsIn F n Tryz.prog 182 #[.func (.yield l) #[] #[],.pointer (some ⟨Bs,0,none⟩)] W λe W'=>(∃v,e = .returned v)/\J [] W':=by
 refine callsIn_of_wp Tryz.func182 rfl h7 ?_ hro;simp only [Tryz.ntmps182,List.size_toArray,List.length_cons,List.length_nil,Nat.reduceAdd,Nat.reduceSub,Array.replicate_succ,Array.replicate_zero,List.push_toArray,List.append_toArray,List.nil_append,List.cons_append];gi_wp2;gi_loopw [7] (λi wr=>i = .int .i64 0/\J [] wr) (λ_ _=>0)
 case atStart=>exact⟨rfl,h0⟩
 case round =>
  obtain⟨rfl,hJs⟩:=hrel;gi_wp2;go_end0;exact⟨⟨_,rfl⟩,hJs⟩
theorem BP(F:Fence)(n:Nat)(h5:F.fn 163)(hro:F.round=none)(a:Option Addr)(len cap:Nat)(w:World):
 CallsIn F n Tryz.prog 163 #[.slice a len cap] w λe w'=>e = .returned (.func (.func 182) #[] #[.pointer (some ⟨w.heap.size,0,none⟩)])/\w'=w.alloc (.cells #[.slice a len cap] 85):=by
 refine callsIn_of_wp Tryz.func163 rfl h5 ?_ hro;simp only [Tryz.ntmps163,List.size_toArray,List.length_cons,List.length_nil,Nat.reduceAdd,Nat.reduceSub,Array.replicate_succ,Array.replicate_zero,List.push_toArray,List.append_toArray,List.nil_append,List.cons_append];gi_wp2;go_ret;exact⟨rfl,rfl⟩
theorem qw(F:Fence)(n:Nat)(h7:F.fn 182)(hro:F.round=none)(hn:1<=n)(Bs n₀:Nat)(A:Option Addr)(cap:Nat)(N:List ByteArray)(hreach:N.length*16<=140737488351232)(w:World)(hBs:Bs<w.heap.size)
 (hc:w.cell? ⟨Bs,0,none⟩=some (.slice A N.length cap)) (hI:mx w A N) (hA:∀a,A=some a->0<N.length->a.block<n₀):
 SeqStopsK F n Tryz.prog 182 #[.pointer (some ⟨Bs,0,none⟩)] (λx:ByteArray=>#[Value.string x]) (Below n₀) (λys=>ys=N) (λpre=>pre <+: N) N.length w:=λl J Jx W hW _ _ hY h0=>by
 have hc':=(hW.cell (p:=⟨Bs,0,none⟩) hBs).trans hc
 have hI':=hI.keep hW
 by_cases hz:0<N.length
 ·obtain⟨a,rfl,-⟩:=hI' 0 N[0] (List.getElem?_eq_getElem hz)
  have hcs:∀j,(h:j<N.length)->W.cell? (a.add j)=some (.string N[j]):=λj h=>by
   obtain⟨a2,e,c⟩:=hI' j N[j] (List.getElem?_eq_getElem h);injection e with e;subst e;exact c
  exact xX F n h7 hro hn l Bs n₀ a N.length cap N rfl hreach (hA a rfl hz) J Jx hY W hc' hcs h0
 ·have:N = []:=List.eq_nil_of_length_eq_zero (by omega)
  subst this;exact(lL F n h7 hro l Bs A cap J W hc' h0).mono λe W' ⟨he,hj⟩=>⟨he,.inl ⟨_,rfl,hj⟩⟩
end Go.Proofs.YtokiogmfgpidmaaGreatDoor
namespace Go.Proofs.YtokiogmfgpidmaaGreatDoor
open Go.RowKit Go.Shelf Go.Wk Go.Sort
attribute [local go_sem] Oper.semAt_some
theorem rX(F:Fence)(n:Nat)(h3:F.fn 193)(hro:F.round=none)(hn:3<=n)(gf:Nat)(lb:Array Value)(hFg:F.fn gf)(eg:∀args w,(callFunc gf args).run Tryz.prog w = .ok (.enter gf args) w)
 (n₀:Nat) (N:List ByteArray) (hreach:N.length*16<=140737488351232) (w:World) (hn₀:n₀<=w.heap.size) (hseq:SeqStopsK F (n-1) Tryz.prog gf lb (λx:ByteArray=>#[Value.string x]) (Below n₀) (λys=>ys=N) (λpre=>pre <+: N) N.length w):
 CallsIn F n Tryz.prog 193 #[.slice none 0 0,.func (.func gf) #[] lb] w λe w'=>∃v,e = .returned v/\w'.ownsRow w.heap.size 9 1 v N.length (N.map Value.string)/\(v = .slice none 0 0↔N = [])/\Below w.heap.size w w':=by
 have h1:1<=n:=by omega
 obtain⟨i0,hi,hz0,hz1,hz2⟩:=info_parts il;refine callsIn_of_wp_marks Tryz.func193 rfl h3 ?_ hro;simp only [Tryz.ntmps193,List.size_toArray,List.length_cons,List.length_nil,Nat.reduceAdd,Nat.reduceSub,Array.replicate_succ,Array.replicate_zero,List.push_toArray,List.append_toArray,List.nil_append,List.cons_append];gi_wp2;have bO:=Boxed.new w 85 (.slice none 0 0);have hB0:Below w.heap.size w (w.alloc (.cells #[.slice none 0 0] 85)):=(Below.refl _ w).alloc (Nat.le_refl _) _;refine wpIn_rangeFunc_ownG hro h1 (gf:=gf) (lb:=lb) rfl hFg eg hseq belowK_t (belowK_b (by simp;omega)) hB0 (λ_=>rfl)
  (λpre W=>(∃v,Boxed W w.heap.size 85 v/\W.ownsRow w.heap.size 9 1 v pre.length (pre.map Value.string)/\(v = .slice none 0 0↔pre = []))/\Below w.heap.size w W)
  (λ_ _ _=>False)
  (OwnFrom.and (Own.from (holdsRow_own w.heap.size w.heap.size 85 9 1 (λpre:List ByteArray=>pre.length) (λpre=>pre.map Value.string) (λpre v=>v = .slice none 0 0↔pre = [])) _) (ownFrom_below (Nat.le_refl _) (by simp)))
  (λ_ _ _ _ _ hs _ _=>hs)
  ⟨⟨_,bO,World.ownsRow_nil _ _ _ _,by simp⟩,hB0⟩
  (λx => { tmps:=#[.slice none 0 0,.func (.func gf) #[] lb,.pointer (some ⟨w.heap.size,0,none⟩),undef,.slice none 0 0,.string x,.func (.func gf) #[] lb,.string x,undef,undef,undef,undef,undef],defers := [] }) ?assign ?Jz ?done ?stop
 case assign =>
  intro l x W K hK;gi_wp2;exact hK
 case Jz =>
  rintro l pre x W ⟨⟨v,hv,hrow,hnil⟩,hB⟩ hlt;have hc:=hv.cell;gi_wp2_with (gi_at_builtin;refine wpListIn_append_own _ rfl _ _ 85 rfl w.heap.size 9 i0 (.string ⟨#[]⟩) 1 16 Tryz.underlying85 hi hz0 hz1 hz2 rfl (by decide) _ _ _ rfl (hrow.alloc _) ⟨W.heap.size,0,none⟩ 1 1 [.string x] rfl rfl (cell_one_new _ _ _) (by simp [Value.oneCell']) (by unfold maxLen;omega) (by omega) (by have:=hB.size;simp;omega) ?_;intro v' w1 hown' hgrow _;obtain⟨g',cap',rfl⟩:=ownsRow_succ hown';obtain⟨hv1,hv2,hr2,hk2,hb2⟩:=hv.appended (by decide) hrow hB.size (Nat.le_refl _) hown' hgrow;have hc1:=hv1.cell;have KZ:=hv1.frozen);exact⟨hk2.from _,hb2.mono hn₀,⟨_,hv2,by simpa using hr2,by simp⟩,hB.trans hb2⟩
 case done =>
  rintro D ys W hD rfl ⟨⟨v,hv,hrow,hnil⟩,hB⟩ hK;have hc:=hv.cell;gi_wp2;refine⟨by simp,.inl ⟨_,_,rfl,run_takeDeferred hK,?_⟩⟩;exact⟨_,results_tmp rfl _ _ _,v,rfl,ownsRow_putObj hrow _ hK rfl,hnil,hB.trans (belowK_b (w:=w) (Nat.le_refl _) W D _ _ (by simp at hD;omega) hK rfl rfl)⟩
 case stop =>
  rintro D c pre W _ _ h _;exact h.elim
theorem wh(F:Fence)(n:Nat)(h8:F.fn 180)(h3:F.fn 193)(hro:F.round=none)(hn:4<=n)(gf:Nat)(lb:Array Value)(hFg:F.fn gf)(eg:∀args w,(callFunc gf args).run Tryz.prog w = .ok (.enter gf args) w)
 (n₀:Nat) (N:List ByteArray) (hreach:N.length*16<=140737488351232) (w:World) (hn₀:n₀<=w.heap.size) (hseq:SeqStopsK F (n-1-1) Tryz.prog gf lb (λx:ByteArray=>#[Value.string x]) (Below n₀) (λys=>ys=N) (λpre=>pre <+: N) N.length w):
 CallsIn F n Tryz.prog 180 #[.func (.func gf) #[] lb] w λe w'=>∃v,e = .returned v/\w'.ownsRow w.heap.size 9 1 v N.length (N.map Value.string)/\(v = .slice none 0 0↔N = [])/\Below w.heap.size w w':=by
 have h1:1<=n:=by omega
 refine callsIn_of_wp Tryz.func180 rfl h8 ?_ hro;simp only [Tryz.ntmps180,List.size_toArray,List.length_cons,List.length_nil,Nat.reduceAdd,Nat.reduceSub,Array.replicate_succ,Array.replicate_zero,List.push_toArray,List.append_toArray,List.nil_append,List.cons_append];gi_wp2_with (gi_at_call 193;refine(rX F (n-1) h3 hro (by omega) gf lb hFg eg n₀ N hreach _ hn₀ hseq).mono ?_;rintro e w1 ⟨v,rfl,hrow,hnil,hb⟩);go_ret;exact⟨v,rfl,hrow,hnil,hb⟩
def mM(N:List ByteArray):List (List UInt8):=(N.map λx=>x.data.toList).mergeSort λx y=>decide (x<=y)
theorem rk(N:List ByteArray):(mM N).length=N.length:=by simp [mM]
theorem Aq(N:List ByteArray):(N.map λx=>x.data.toList).map encStr=N.map Value.string:=by
 rw [List.map_map];apply List.map_congr_left;intro x _;simp [encStr]
theorem uS(Bs n₀:Nat)(A:Option Addr)(cap:Nat)(N:List ByteArray)(hreach:N.length*16<=140737488351232)(w:World)(hBs:Bs<w.heap.size)(hn₀:n₀<=w.heap.size)
 (hc:w.cell? ⟨Bs,0,none⟩=some (.slice A N.length cap)) (hI:mx w A N) (hA:∀a,A=some a->0<N.length->a.block<n₀):
 Calls Tryz.prog 162 #[.func (.func 182) #[] #[.pointer (some ⟨Bs,0,none⟩)]] w λe w'=>∃v,e = .returned v/\w'.ownsRow w.heap.size 9 1 v N.length ((mM N).map encStr)/\Below w.heap.size w w':=by
 have hC:=callsIn_wide.1 (wh Fence.wide 9 trivial trivial rfl (by omega) 182 #[.pointer (some ⟨Bs,0,none⟩)] trivial (enters_of Tryz.func182 (by kernel_rfl) rfl) n₀ N hreach w hn₀ (qw Fence.wide 7 trivial rfl (by omega) Bs n₀ A cap N hreach w hBs hc hI hA));have HC:=O hC;have HR:=O hreach;clear hC hI hA hc hreach;go_enter Tryz.func162,Tryz.ntmps162;go_wp2_with fail;refine(HC.o).mono ?_;rintro e w1 ⟨v,rfl,hrow,hnil,hb⟩;rcases hrow.2 with ⟨rfl,hz⟩|⟨gb,cp,cur,rfl,hbase,hgb,r1,r2,r3,r4⟩
 ·have hss:N = []:=List.eq_nil_of_length_eq_zero hz;subst hss;go_wp2_with fail;refine(Tryz.slices_Sort_string_none none 0 w1).mono ?_;rintro e w2 ⟨rfl,rfl⟩;go_wp2_with fail;go_ret;exact⟨_,rfl,by simpa [mM] using hrow,hb⟩
 ·have r5:=r4;rw [<-Aq] at r5;have hlen:(N.map λx=>x.data.toList).length=N.length:=List.length_map _;have hH:Holds encStr w1 gb 0 (N.map λx=>x.data.toList).toArray:=holds_of_block hgb (by rw [hlen];simpa using r5);have hgl:gb<w1.heap.size:=(Array.getElem?_eq_some_iff.1 hgb).1;have cS:=O (Tryz.slices_Sort_string gb 0 cp _ w1 hH hgl (by rw [hlen];have:=HR.o;omega));rw [hlen] at cS;go_wp2_with fail;refine(cS.o).mono ?_;rintro e w2 ⟨rfl,nn,os,rfl⟩;go_wp2_with fail;go_ret;refine⟨_,rfl,?_,hb.grown (grownBy_sorted _) hb.size (λj hj=>by cases hj;exact hbase)⟩;have:=ownsRow_sorted (w:=w1) (n:=nn) (os:=os) (ss:=N.map λx=>x.data.toList) (ts:=mM N) (by rw [rk,hlen]) hbase hgb (by rw [hlen];exact r1) r2 r3;rw [hlen] at this;exact this
end Go.Proofs.YtokiogmfgpidmaaGreatDoor
namespace Go.Wk
theorem uD{N:List ByteArray}{x:Fld}{r:List Fld}:aY N (x :: r)=or2 (zh x.1) (or2 (if lP N x.1 then 6 else 0) (or2 (zc x.2) (aY (N ++ [x.1]) r))):=rfl
theorem JD{N:List ByteArray}{L:List (List Nd)}(hl:N.length=L.length){k:Nat}(h:k<N.length):
 aY (N.take k) ((N.zip L).drop k)=or2 (zh N[k]) (or2 (if lP (N.take k) N[k] then 6 else 0) (or2 (zc (L[k]'(by omega))) (aY (N.take (k+1)) ((N.zip L).drop (k+1))))):=by
 have hz:k<(N.zip L).length:=by simp;omega
 rw [List.drop_eq_getElem_cons hz,uD,List.getElem_zip,List.take_append_getElem h]
end Go.Wk
namespace Go.Proofs.YtokiogmfgpidmaaGreatDoor
open Go.RowKit Go.Wk Go.Sort
theorem mx.at{w:World}{A:Option Addr}{N:List ByteArray}(h:mx w A N){k:Nat}(hk:k<N.length):∃a,A=some a/\w.cell? (a.add k)=some (.string N[k]):=h k N[k] (List.getElem?_eq_getElem hk)
theorem DL{Z:List Fld}(h:∀y∈Z,y.1.size<=maxLen/\au y.2):au (zL Z):=by
 induction Z with
 | nil=>intro x hx;cases hx
 | cons y r ih =>
  intro x hx
  simp only [zL] at hx
  rcases List.mem_cons.1 hx with rfl|hx
  ·exact⟨(h y (by simp)).1,Nat.zero_le _,by show _<=(0:Int);omega,by show(0:Int)<=_;omega⟩
  ·rcases List.mem_append.1 hx with hx|hx
   ·exact(h y (by simp)).2 x hx
   ·exact ih (λz hz=>h z (by simp [hz])) x hx
end Go.Proofs.YtokiogmfgpidmaaGreatDoor
