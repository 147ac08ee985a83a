/-
  The reference's ValueEnd outright; ValueFault and Faults. val.SetOf: the set of ..
-/
import Derived.RangeFuncBox
import Derived.RangeFuncBound
import Derived.Sort.OwnSorted
import Derived.Test.YtokiogmfgpidmaaGreatDoorD31
set_option maxRecDepth 100000
set_option maxHeartbeats 8000000
namespace Go.Proofs.YtokiogmfgpidmaaGreatDoor
open Go.RowKit Go.Wk Go.Sort
theorem Yw(A:Option Addr)(P:List Nd)(n c:Nat)(hn:n=P.length)(hc:n<=c)(hm:n<=maxLen)(hO:gh P)(m:Nat):znl P A n c m:=by
 have field:∀m,(∀(q:Nat) (w:World),jt w A P->n-q<m->Calls Tryz.prog 37 #[.slice A n c,.int .i64 q,.bool false] w λe w'=>e = .returned (.int .i64 (Jn (zl P m q)))/\Below w.heap.size w w')->
  (∀(q:Nat) (w:World),jt w A P->n-q<=m->Calls Tryz.prog 37 #[.slice A n c,.int .i64 q,.bool true] w λe w'=>e = .returned (.int .i64 (Jn (vU P m q)))/\Below w.heap.size w w'):=by
  intro m h q w hP hf
  by_cases hp:q<n
  ·have Iy:q<P.length:=by omega
   obtain⟨a,rfl,D⟩:=hP.nd Iy;by_cases hc:(decide (P[q].op=7)&& zq P[q])=true
   ·have e:vU P m q=zl P m (q+1):=by unfold vU;rw [List.getElem?_eq_getElem Iy];simp only [hc,if_true]
    rw [e];simp only [Bool.and_eq_true,decide_eq_true_eq] at hc;exact zgO a n c q P[q] _ w hm hp D (hO.at Iy) hc.2 hc.1 (O λw' hb=>by
     have:=h (q+1) w' (hP.keep hb) (by omega)
     simpa using this)
   ·have e:vU P m q=none:=by unfold vU;rw [List.getElem?_eq_getElem Iy];simp only [hc];rfl
    rw [e];exact YH a n c q true P[q] w hp D (hO.at Iy) (by
     rw [Bool.not_eq_true] at hc
     rcases hd:decide (P[q].op=7)<;> rcases hs:zq P[q] <;> simp_all)
  ·have e:vU P m q=none:=by unfold vU;rw [List.getElem?_eq_none (by omega)]
   rw [e];exact zeF A n c q true w (by omega)
 induction m with
 | zero=>exact⟨λq w _ h=>by omega,field 0 (λq w _ h=>by omega)⟩
 | succ m ih =>
  refine⟨?_,field (m+1) ?_⟩
  all_goals
   intro p w hP hf;by_cases hp:p<n
   ·have Iy:p<P.length:=by omega
    obtain⟨a,rfl,D⟩:=hP.nd Iy;have e:zl P (m+1) p=if zq P[p] then(if P[p].op=5 then zY P (zl P m) P[p].n.toNat none (p+1) else if P[p].op=6 then zV P (zl P m) P[p].n.toNat .empty (p+1) else if P[p].op=7 then none else some (p+1)) else none:=by
     simp only [zl,List.getElem?_eq_getElem Iy]
    rw [e];by_cases hs:zq P[p]=true
    ·rw [if_pos hs];by_cases h5:P[p].op=5
     ·rw [if_pos h5];exact zlo a P n c p m w hn hc hm hp hP hO hs h5 ih hf
     rw [if_neg h5];by_cases h6:P[p].op=6
     ·rw [if_pos h6];exact zlL a P n c p m w hn hc hm hp hP hO hs h6 ih hf
     rw [if_neg h6];by_cases h7:P[p].op=7
     ·rw [if_pos h7];exact YH a n c p false P[p] w hp D (hO.at Iy) (by simp [h7])
     rw [if_neg h7];exact zhv a n c p P[p] w hm hp D (hO.at Iy) hs (beq_eq_false_iff_ne.2 h5) (beq_eq_false_iff_ne.2 h6) (beq_eq_false_iff_ne.2 h7)
    ·rw [if_neg hs];exact YH a n c p false P[p] w hp D (hO.at Iy) (by simp [hs])
   ·have e:zl P (m+1) p=none:=by
     simp only [zl,List.getElem?_eq_none (by omega:P.length<=p)]
    rw [e];exact zeF A n c p false w (by omega)
theorem IB(A:Option Addr)(n c:Nat)(P:List Nd)(w:World)(h:Ns w A n c P):
 Calls Tryz.prog 21 #[.slice A n c] w λe w'=>e = .returned (.int .i64 (zc P))/\Below w.heap.size w w':=by
 obtain⟨hn,hc,hm,hP,hO⟩:=h;have C:=O ((Yw A P n c hn hc hm hO (n+1)).1 0 w hP (by omega));by_cases h:200<n
 ·have H:=O (show zc P=4 by unfold zc;rw [if_pos (by omega)]);clear C;unfold maxLen at hm;clear hn hP hO;go_enter Tryz.func21,Tryz.ntmps21;go_wp2_with fail;go_ret;exact⟨jb H.o.symm,Below.refl _ _⟩
 ·have H:=O (show zc P=if zl P (n+1) 0=some n then 0 else 1 by unfold zc;rw [if_neg (by omega),<-hn]);unfold maxLen at hm;clear hn hP hO;rcases he:zl P (n+1) 0 with _|e
  ·rw [he] at C H;rw [if_neg (by simp)] at H;simp only [Jn] at C;go_enter Tryz.func21,Tryz.ntmps21;go_wp2_with fail;refine(C.o).mono ?_;rintro e w1 ⟨rfl,b1⟩;have hne:((-1:Int) !=(n:Int))=true:=by rw [bne_iff_ne];omega
   go_wp2_with fail;go_ret;exact⟨jb H.o.symm,b1⟩
  ·rw [he] at C H;clear he;simp only [Jn] at C;by_cases he:e=n
   ·subst he;rw [if_pos rfl] at H;go_enter Tryz.func21,Tryz.ntmps21;go_wp2_with fail;refine(C.o).mono ?_;rintro e w1 ⟨rfl,b1⟩;go_wp2_with fail;go_ret;exact⟨jb H.o.symm,b1⟩
   ·rw [if_neg (by intro q;injection q with q;exact he q)] at H;have hne:(e != n)=true:=by rw [bne_iff_ne];exact he
    clear he;go_enter Tryz.func21,Tryz.ntmps21;go_wp2_with fail;refine(C.o).mono ?_;rintro e w1 ⟨rfl,b1⟩;go_wp2_with fail;go_ret;exact⟨jb H.o.symm,b1⟩
def u3(V:List Sl):Int:=IZ (V.map (·.P))
theorem RX{V:List Sl}{k:Nat}(h:k<V.length):u3 (V.drop k)=or2 (zc V[k].P) (u3 (V.drop (k+1))):=by
 unfold u3;rw [List.drop_eq_getElem_cons h];rfl
theorem Qa{V:List Sl}{k:Nat}(h:V.length<=k):u3 (V.drop k)=0:=by
 unfold u3;rw [List.drop_of_length_le h];rfl
theorem zd0(A:Option Addr)(n c:Nat)(V:List Sl)(w:World)(hn:n=V.length)(hm:n<=maxLen)(hV:ou w A V):
 Calls Tryz.prog 78 #[.slice A n c] w λe w'=>e = .returned (.int .i64 (u3 V))/\Below w.heap.size w w':=by
 unfold maxLen at hm;have HV:=O hV;have HN:=O hn;clear hV hn;go_enter Tryz.func78,Tryz.ntmps78;go_wp2_with fail;go_loopw [3,4] (λi _ wr=>∃k:Nat,k<=n/\i = .int .i64 k/\Hid (u3 V=u3 (V.drop k))/\Hid (Below w.heap.size w wr)) (λi _ _=>n-(intOf i).toNat)
 case atStart=>exact⟨0,Nat.zero_le _,rfl,rfl,Below.refl _ _⟩
 case round =>
  obtain⟨k,hk,rfl,hE,hB⟩:=hrel;by_cases hlt:k<n
  ·have h1:k<V.length:=by rw [<-HN.o];exact hlt
   obtain⟨a,rfl,q,hs⟩:=(HV.o.keep hB.o).at h1;have HA:=O (hE.o.trans (RX h1));have C:=O (IB _ _ _ _ _ hs);generalize V[k]=r at *;clear hE hs;by_cases h0:zc r.P=0
   ·rw [h0] at C HA;clear h0;go_wp2_with fail;refine(C.o).mono ?_;rintro e w1 ⟨rfl,b1⟩;go_wp2_with fail;go_roundw
    case rel=>exact⟨k+1,by omega,by go_num,HA,bh hB (b1)⟩
    case measure=>simp [intOf];omega
   ·have HB:=O (HA.o.trans (jw h0 _));have h2:(zc r.P != 0)=true:=by rw [bne_iff_ne];exact h0
    clear h0 HA;go_wp2_with fail;refine(C.o).mono ?_;rintro e w1 ⟨rfl,b1⟩;go_wp2_with fail;go_ret;exact⟨jb HB.o.symm,(bh hB b1).o⟩
  ·have HA:=O (hE.o.trans (Qa (by rw [<-HN.o];omega)));clear hE;go_wp2_with fail;go_ret;exact⟨jb HA.o.symm,hB.o⟩
def zjY(w:World)(B:Nat)(v:Value)(V:List Sl)(e:Ending)(w':World):Prop :=
 e = .returned (.tuple #[])/\∃V':List Sl,V'.Perm V/\V'.Pairwise (λa b=>zu a.P b.P<=0)/\zX w' B v V'/\w.grownBy w' v.ownBlock
theorem zb6{V:List Sl}(h:Z7 V):V.Pairwise (λa b=>zu a.P b.P<=0):=
 List.pairwise_iff_getElem.2 λi j _ hj hij=>h i j hij hj
theorem zid(w:World)(B:Nat)(v:Value)(V:List Sl)(h:zX w B v V)(hs:V.length<=5864062014634):
 Calls Tryz.prog 165 #[v,.func (.func 136) #[] #[]] w (zjY w B v V):=by
 rcases h.own.2 with ⟨rfl,h0⟩|⟨g,cap,cur,rfl,_⟩
 ·have:V = []:=List.eq_nil_of_length_eq_zero h0;subst this;exact(zgI w none 0 _).mono λe w' ⟨h1,h2⟩=>⟨h1,[],List.Perm.refl _,List.Pairwise.nil,by rw [h2];exact h,by rw [h2];exact World.grownBy.refl _ _⟩
 ·exact(ziY w B g cap V h hs).mono λe w' ⟨h1,V',h2,h3,h4,h5⟩=>⟨h1,V',h2,zb6 h3,h4,h5⟩
def zaG(w:World)(B:Nat)(v:Value)(V:List Sl)(e:Ending)(w':World):Prop:=∃v',e = .returned v'/\zX w' B v' (js V)/\w.grownBy w' v.ownBlock
theorem zbu(w:World):Calls Tryz.prog 166 #[.slice none 0 0,.func (.func 167) #[] #[]] w λe w'=>e = .returned (.slice none 0 0)/\w=w':=by
 go_enter Tryz.func166,Tryz.ntmps166;go_wp2;go_ret;exact⟨rfl,rfl⟩
theorem zaV(w:World)(B:Nat)(v:Value)(V:List Sl)(h:zX w B v V)(hs:V.length<=5864062014634):
 Calls Tryz.prog 166 #[v,.func (.func 167) #[] #[]] w (zaG w B v V):=by
 rcases h.own.2 with ⟨rfl,h0⟩|⟨g,cap,cur,rfl,_⟩
 ·have:V = []:=List.eq_nil_of_length_eq_zero h0;subst this;exact(zbu w).mono λe w' ⟨h1,h2⟩=>⟨_,h1,by rw [<-h2];exact zX.nil _ _,by rw [<-h2];exact World.grownBy.refl _ _⟩
 ·exact(zbR w B g cap V h hs).mono λe w' ⟨h1,h2,h3⟩=>⟨_,h1,h2,h3⟩
def za1(w:World)(L:List (List Nd))(e:Ending)(w':World):Prop :=
 ∃(A:Option Addr) (n c:Nat),e = .returned (.tuple #[.slice A n c,fa (setE L)])/\Ns w' A n c (setV L)/\(∀a,A=some a->w.heap.size<=a.block)/\Below w.heap.size w w'
theorem jM(w:World):Ns w none 0 0 []:=⟨rfl,Nat.le_refl _,Nat.zero_le _,λk x hx=>by simp at hx,λx hx=>by cases hx⟩
def C7(n:Nat)(L:List (List Nd))(k:Nat):List Nd:=jm n ::(L.take k).flatten
theorem Xa{n:Nat}{L:List (List Nd)}{k:Nat}(h:k<L.length):C7 n L (k+1)=C7 n L k ++ L[k]:=by
 unfold C7;rw [<-List.take_append_getElem h,List.flatten_append];simp
theorem zbX{n:Nat}{L:List (List Nd)}(k:Nat):(C7 n L k).length<=L.flatten.length+1:=by
 unfold C7
 conv=>rhs;rw [<-List.take_append_drop k L]
 rw [List.flatten_append];simp only [List.length_cons,List.length_append];omega
theorem zam{n:Nat}{L:List (List Nd)}{k:Nat}(h:L.length<=k):C7 n L k=jm n :: L.flatten:=by
 unfold C7;rw [List.take_of_length_le h]
theorem zfZ{L:List (List Nd)}(h:∀P∈L,gh P):gh L.flatten:=λx hx=>let ⟨P,hP,hx⟩:=List.mem_flatten.1 hx;h P hP x hx
theorem zeV{n:Nat}{L:List (List Nd)}(hn:n<=5864062014634)(h:∀P∈L,gh P):gh (jm n :: L.flatten):=by
 intro x hx;rcases List.mem_cons.1 hx with rfl|hx
 ·exact⟨Nat.zero_le _,Nat.zero_le _,by show _<=(n:Int);omega,by show(n:Int)<=_;omega⟩
 ·exact zfZ h x hx
theorem Tg(w:World)(x:Nd):(w.alloc (.cells #[.int .i64 x.op,.int .i64 x.n,.string x.s,.string x.t] 28)).ownsRow w.heap.size 28 4 (.slice (some ⟨w.heap.size,0,none⟩) 1 1) 1 (zL [x]):=
 ⟨rfl,.inr ⟨_,1,_,rfl,Nat.le_refl _,heap_alloc_new w _,Nat.le_refl _,by unfold maxLen;omega,rfl,rfl⟩⟩
theorem ou.nds{w:World}{A:Option Addr}{V:List Sl}(h:ou w A V):∀P∈V.map Sl.P,gh P:=by
 intro P hP;obtain⟨r,hr,rfl⟩:=List.mem_map.1 hP;obtain⟨k,hk,rfl⟩:=List.getElem_of_mem hr;obtain⟨-,-,-,q⟩:=h.at hk;exact q.ok
theorem zdD(A:Option Addr)(n c:Nat)(V:List Sl)(w:World)(hn:n=V.length)(hm:n<=5864062014634)(hV:ou w A V):
 Calls Tryz.prog 139 #[.slice A n c] w (za1 w (V.map Sl.P)):=by
 obtain⟨i0,hi,hz0,hz1,hz2⟩:=info_parts Ru;have HV:=O hV;have HN:=O hn;clear hV hn;go_enter Tryz.func139,Tryz.ntmps139;go_wp2_with fail;go_loopw [5,6,13] (λ_ _ i wr=>∃k:Nat,k<=n/\i = .int .i64 k/\Hid (u3 V=u3 (V.drop k))/\Hid (Below w.heap.size w wr)) (λ_ _ i _=>n-(intOf i).toNat)
 case atStart=>exact⟨0,Nat.zero_le _,rfl,rfl,Below.refl _ _⟩
 case round =>
  obtain⟨k,hk,rfl,hE,hB⟩:=hrel;by_cases hlt:k<n
  ·have h1:k<V.length:=by rw [<-HN.o];exact hlt
   obtain⟨a,rfl,q,hs⟩:=(HV.o.keep hB.o).at h1;have HA:=O (hE.o.trans (RX h1));have C:=O (zT hs);generalize V[k]=r at *;clear hE hs;by_cases h0:zc r.P=0
   ·rw [h0,zm] at C;rw [h0] at HA;clear h0;go_wp2_with fail;refine(C.o).mono ?_;rintro e w1 ⟨rfl,b1⟩;go_wp2_with fail;go_roundw
    case rel=>exact⟨k+1,by omega,by go_num,HA,bh hB b1⟩
    case measure=>simp [intOf];omega
   ·have HE:=O (show setE (V.map Sl.P)=zc r.P/\setE (V.map Sl.P)≠0 by
     have e:IZ (V.map Sl.P)=zc r.P:=HA.o.trans (jw h0 _)
     have e2:setE (V.map Sl.P)=zc r.P:=by unfold setE;rw [e,jw h0]
     exact⟨e2,by rw [e2];exact h0⟩)
    have hev:=zy h0;have HEV:=O (zy h0);rw [hev] at C;clear h0 hev;go_wp2_with fail;refine(C.o).mono ?_;rintro e w1 ⟨rfl,b1⟩;go_wp2_with fail;go_ret2;refine⟨none,0,0,by rw [HE.o.1,HEV.o];rfl,by rw [ND HE.o.2];exact jM _,(λa e=>nomatch e),(bh hB b1).o⟩
  ·have HF:=O (show IZ (V.map Sl.P)=0 from hE.o.trans (Qa (by rw [<-HN.o];omega)));have C1:=O (zfC A n c V wr HN.o (by omega) (HV.o.keep hB.o));clear hE;go_wp2_with fail;refine C1.o.mono ?_;rintro e w1 ⟨v,rfl,hO1,b1⟩;have C2:=O (zid w1 wr.heap.size v V hO1 (by rw [<-HN.o];exact hm));have OB1:=O (zR hO1.own);have B1:=O b1;clear hO1 b1;go_wp2_with fail;refine C2.o.mono ?_;rintro e w2 ⟨rfl,V',hp,hso,hO2,hg2⟩;have C3:=O (zaV w2 wr.heap.size v V' hO2 (by rw [hp.length_eq,<-HN.o];exact hm));have B2:=O (B1.o.grown hg2 B1.o.size OB1.o);have HS:=O (show(js V').map Sl.P=jT (V.map Sl.P) by
    rw [zca hso]
    exact zcT λx=>(hp.map Sl.P).mem_iff)
   have HL:=O (show(js V').length<=n by have:=zbS V';rw [hp.length_eq,<-HN.o] at this;exact this);clear hp hso hO2 hg2 C1 C2 B1;go_wp2_with fail;refine C3.o.mono ?_;rintro e w3 ⟨v3,rfl,hO3,hg3⟩;have B3:=O (hB.o.trans ((B2.o.grown hg3 B2.o.size OB1.o).mono hB.o.size));obtain⟨A3,c3,rfl,-,hS3⟩:=hO3.at
   generalize js V'=U at *;have HU:=O hS3;have hUn:=HL.o;clear hO3 hg3 hS3 C3 B2 OB1 hB HL;have R0:=O (Tg w3 (jm U.length));have HP:=O (show∀r∈U,zc r.P=0 from λr hr=>Jg.1 HF.o r.P (vT.1 (by rw [<-HS.o];exact List.mem_map_of_mem hr)));go_wp2_with fail;go_loopw [8,10,35] (λv _ i wr=>∃k:Nat,k<=U.length/\i = .int .i64 k/\Hid ((C7 U.length (U.map Sl.P) k).length<=200/\wr.ownsRow w3.heap.size 28 4 v (C7 U.length (U.map Sl.P) k).length (zL (C7 U.length (U.map Sl.P) k)))/\Hid (Below w3.heap.size w3 wr)) (λ_ _ i _=>U.length-(intOf i).toNat)
   case atStart=>exact⟨0,Nat.zero_le _,rfl,⟨by simp [C7],R0.o⟩,zb _ _⟩
   case round =>
    obtain⟨k,hk,rfl,hR,hB⟩:=hrel;have hsz:=hB.o.size;by_cases hlt:k<U.length
    ·have hlm:k<(U.map Sl.P).length:=by rw [List.length_map];exact hlt
     have HO:=O (Xa (n:=U.length) hlm);obtain⟨a,rfl,q,hs⟩:=(HU.o.keep hB.o).at hlt;have hv:=HP.o _ (List.getElem_mem hlt);have hg:(U.map Sl.P)[k]=U[k].P:=by simp
     rw [hg] at HO;clear hg;generalize U[k]=r at *;obtain⟨hl2,hV2⟩:=zH.1 hv;obtain⟨a2,ea,-⟩:=hs.at_.nd hV2.pos;rw [ea] at q;have HC:=O (show∀j u,(zL r.P)[j]?=some u->wr.cell? (a2.add j)=some u from by
      have:=hs.at_
      rw [ea] at this
      exact this.cells)
     have HRN:=O hs.len;have hrn:r.n<=200:=by rw [hs.len];exact hl2
     have hol:=hR.o.1;clear hs hv hl2 hV2 ea;go_wp2_with (at_builtin;refine wpList_append_own _ rfl _ _ 22 rfl w3.heap.size 28 i0 _ 4 48 Tryz.underlying22 hi hz0 hz1 hz2 rfl (by decide) _ (C7 U.length (U.map Sl.P) k).length (zL (C7 U.length (U.map Sl.P) k)) rfl hR.o.2 a2 r.n r.c (zL r.P) rfl (by rw [v7,HRN.o]) HC.o (CV _) ?c1 ?c2 ?c3 ?_)
     case c1=>unfold maxLen;omega
     case c2=>omega
     case c3=>exact hsz
     intro v1 w5 hown hgrow _;have B5:=O (hB.o.grown hgrow hsz (zR hR.o.2));rw [HRN.o,<-ow,<-List.length_append,<-HO.o] at hown;have OW:=O hown;obtain⟨A5,c5,rfl,-⟩:=vl hown;have OL:=O (zbX (n:=U.length) (L:=U.map Sl.P) (k+1));generalize hX:C7 U.length (U.map Sl.P) (k+1)=X at *;have HX:=O hX;clear hown hgrow hX hB hR HO HC q;by_cases Ms:200<X.length
     ·have HE:=O (show setE (V.map Sl.P)=4 by
       unfold setE
       rw [HF.o,zM,<-HS.o,if_pos (by have:=OL.o;omega)])
      go_wp2_with fail;go_ret2;refine⟨none,0,0,by rw [HE.o];rfl,by rw [ND (by rw [HE.o];decide)];exact jM _,(λa e=>nomatch e),B3.o.trans (B5.o.mono B3.o.size)⟩
     ·go_wp2_with fail;go_roundw
      case rel=>exact⟨k+1,by omega,by go_num,O (by rw [HX.o];exact⟨by omega,OW.o⟩),B5⟩
      case measure=>simp [intOf];omega
    ·obtain⟨A5,c5,rfl,hc5,hA5,hF5⟩:=vl hR.o.2;have HF5:=O (show∀a,A5=some a->w.heap.size<=a.block from λa e=>Nat.le_trans B3.o.size (hF5 a e));have HX:=O (zam (n:=U.length) (L:=U.map Sl.P) (k:=k) (by rw [List.length_map];omega));have HE:=O (show setE (V.map Sl.P)=0 by
      refine Ov.2 ⟨HF.o,?_⟩
      have:=hR.o.1
      rw [HX.o,HS.o] at this
      simpa using this)
     have NN:=O (show Ns wr A5 (C7 U.length (U.map Sl.P) k).length c5 (setV (V.map Sl.P)) by
      have e:setV (V.map Sl.P)=C7 U.length (U.map Sl.P) k:=by
       rw [HX.o,Pq HE.o,<-HS.o,List.length_map]
      rw [e]
      refine⟨rfl,hc5,by have:=hR.o.1;unfold maxLen;omega,hA5,?_⟩
      rw [HX.o]
      exact zeV (by omega) HU.o.nds)
     have B6:=O (B3.o.trans (hB.o.mono B3.o.size));clear hR hB hc5 hA5 hF5;go_wp2_with fail;go_ret2;exact⟨A5,_,c5,by rw [HE.o];rfl,NN.o,HF5.o,B6.o⟩
end Go.Proofs.YtokiogmfgpidmaaGreatDoor
namespace Go.Proofs.YtokiogmfgpidmaaGreatDoor
open Go.RowKit Go.Shelf Go.Wk
attribute [local go_sem] Oper.semAt_some
theorem zdR(F:Fence)(n:Nat)(h7:F.fn 182)(hro:F.round=none)(hn:1<=n)(l Bs n₀:Nat)(a:Addr)(len cap:Nat)(N:List ByteArray)(hlen:len=N.length)(hreach:len*16<=140737488351232)(hb:a.block<n₀)(J Jx:List ByteArray->World->Prop)
 (hY:∀pre x W,J pre W->pre.length<len->YieldAt F (n-1) Tryz.prog l #[.string x] W λe W' =>
  (e = .returned (.bool true)/\J (pre ++ [x]) W'/\Below n₀ W W')\/(e = .returned (.bool false)/\Jx (pre ++ [x]) W'))
 (W:World) (hBs:W.cell? ⟨Bs,0,none⟩=some (.slice (some a) len cap)) (hc:∀j,(h:j<N.length)->W.cell? (a.add j)=some (.string N[j])) (h0:J [] W):
 CallsIn F n Tryz.prog 182 #[.func (.yield l) #[] #[],.pointer (some ⟨Bs,0,none⟩)] W λe W'=>(∃v,e = .returned v)/\
  ((∃ys,ys=N/\J ys W')\/(∃pre,pre <+: N/\Jx pre W')):=by
 refine callsIn_of_wp Tryz.func182 rfl h7 ?_ hro;simp only [Tryz.ntmps182,List.size_toArray,List.length_cons,List.length_nil,Nat.reduceAdd,Nat.reduceSub,Array.replicate_succ,Array.replicate_zero,List.push_toArray,List.append_toArray,List.nil_append,List.cons_append];have HL:=O hlen;clear hlen;gi_wp2;gi_loopw [7] (λi wr=>∃k:Nat,k<=len/\i = .int .i64 k/\J (N.take k) wr/\Below n₀ W wr)
  (λi _=>len-(intOf i).toNat)
 case atStart=>exact⟨0,Nat.zero_le _,rfl,h0,Below.refl _ _⟩
 case round =>
  obtain⟨k,hk,rfl,hJs,hnx⟩:=hrel;by_cases hlt:k<len
  ·have hkN:k<N.length:=by rw [<-HL.o];exact hlt
   have hcx':wr.cell? (a.add k)=some (.string N[k]):=(hnx.cell (p:=a.add k) (by unfold Addr.add;split <;> exact hb)).trans (hc k hkN);obtain⟨fn,tmps,assign,znC,hy,hR⟩:=hY _ N[k] wr hJs (by rw [List.length_take];omega);rw [List.take_append_getElem hkN] at hR;gi_wp2;refine hR.mono ?_;rintro e W3 (⟨rfl,hJ3,hk3⟩|⟨rfl,hJx3⟩)
   ·gi_wp2;go_roundw
    case rel=>exact⟨k+1,by omega,by simp,hJ3,hnx.trans hk3⟩
    case measure=>simp [intOf];omega
   ·gi_wp2;refine bodyPost_ret (results_none rfl _ _ _) rfl ?_;exact⟨⟨_,rfl⟩,.inr ⟨_,List.take_prefix _ _,hJx3⟩⟩
  ·obtain rfl:k=len:=by omega
   rw [List.take_of_length_le (by rw [<-HL.o];exact Nat.le_refl _)] at hJs;gi_wp2;go_end0;exact⟨⟨_,rfl⟩,.inl ⟨_,rfl,hJs⟩⟩
theorem SI(F:Fence)(n:Nat)(h7:F.fn 182)(hro:F.round=none)(l Bs:Nat)(A:Option Addr)(cap:Nat)(J:List ByteArray->World->Prop)(W:World)(hBs:W.cell? ⟨Bs,0,none⟩=some (.slice A 0 cap))(h0:J [] W):
 CallsIn F n Tryz.prog 182 #[.func (.yield l) #[] #[],.pointer (some ⟨Bs,0,none⟩)] W λe W'=>(∃v,e = .returned v)/\J [] W':=by
 refine callsIn_of_wp Tryz.func182 rfl h7 ?_ hro;simp only [Tryz.ntmps182,List.size_toArray,List.length_cons,List.length_nil,Nat.reduceAdd,Nat.reduceSub,Array.replicate_succ,Array.replicate_zero,List.push_toArray,List.append_toArray,List.nil_append,List.cons_append];gi_wp2;gi_loopw [7] (λi wr=>i = .int .i64 0/\J [] wr) (λ_ _=>0)
 case atStart=>exact⟨rfl,h0⟩
 case round =>
  obtain⟨rfl,hJs⟩:=hrel;gi_wp2;go_end0;exact⟨⟨_,rfl⟩,hJs⟩
theorem zga(F:Fence)(n:Nat)(h5:F.fn 163)(hro:F.round=none)(a:Option Addr)(len cap:Nat)(w:World):
 CallsIn F n Tryz.prog 163 #[.slice a len cap] w λe w'=>e = .returned (.func (.func 182) #[] #[.pointer (some ⟨w.heap.size,0,none⟩)])/\w'=w.alloc (.cells #[.slice a len cap] 85):=by
 refine callsIn_of_wp Tryz.func163 rfl h5 ?_ hro;simp only [Tryz.ntmps163,List.size_toArray,List.length_cons,List.length_nil,Nat.reduceAdd,Nat.reduceSub,Array.replicate_succ,Array.replicate_zero,List.push_toArray,List.append_toArray,List.nil_append,List.cons_append];gi_wp2;go_ret;exact⟨rfl,rfl⟩
theorem Yl(F:Fence)(n:Nat)(h7:F.fn 182)(hro:F.round=none)(hn:1<=n)(Bs n₀:Nat)(A:Option Addr)(cap:Nat)(N:List ByteArray)(hreach:N.length*16<=140737488351232)(w:World)(hBs:Bs<w.heap.size)
 (hc:w.cell? ⟨Bs,0,none⟩=some (.slice A N.length cap)) (hI:Sy w A N) (hA:∀a,A=some a->0<N.length->a.block<n₀):
 SeqStopsK F n Tryz.prog 182 #[.pointer (some ⟨Bs,0,none⟩)] (λx:ByteArray=>#[Value.string x]) (Below n₀) (λys=>ys=N) (λpre=>pre <+: N) N.length w:=λl J Jx W hW _ _ hY h0=>by
 have hc':=(hW.cell (p:=⟨Bs,0,none⟩) hBs).trans hc
 have hI':=hI.keep hW
 by_cases hz:0<N.length
 ·obtain⟨a,rfl,-⟩:=hI' 0 N[0] (List.getElem?_eq_getElem hz)
  have hcs:∀j,(h:j<N.length)->W.cell? (a.add j)=some (.string N[j]):=λj h=>by
   obtain⟨a2,e,c⟩:=hI' j N[j] (List.getElem?_eq_getElem h);injection e with e;subst e;exact c
  exact zdR F n h7 hro hn l Bs n₀ a N.length cap N rfl hreach (hA a rfl hz) J Jx hY W hc' hcs h0
 ·have:N = []:=List.eq_nil_of_length_eq_zero (by omega)
  subst this;exact(SI F n h7 hro l Bs A cap J W hc' h0).mono λe W' ⟨he,hj⟩=>⟨he,.inl ⟨_,rfl,hj⟩⟩
end Go.Proofs.YtokiogmfgpidmaaGreatDoor
namespace Go.Proofs.YtokiogmfgpidmaaGreatDoor
open Go.RowKit Go.Shelf Go.Wk Go.Sort
attribute [local go_sem] Oper.semAt_some
theorem YU(F:Fence)(n:Nat)(h3:F.fn 193)(hro:F.round=none)(hn:3<=n)(gf:Nat)(lb:Array Value)(hFg:F.fn gf)(eg:∀args w,(callFunc gf args).run Tryz.prog w = .ok (.enter gf args) w)
 (n₀:Nat) (N:List ByteArray) (hreach:N.length*16<=140737488351232) (w:World) (hn₀:n₀<=w.heap.size) (hseq:SeqStopsK F (n-1) Tryz.prog gf lb (λx:ByteArray=>#[Value.string x]) (Below n₀) (λys=>ys=N) (λpre=>pre <+: N) N.length w):
 CallsIn F n Tryz.prog 193 #[.slice none 0 0,.func (.func gf) #[] lb] w λe w'=>∃v,e = .returned v/\w'.ownsRow w.heap.size 9 1 v N.length (N.map Value.string)/\(v = .slice none 0 0↔N = [])/\Below w.heap.size w w':=by
 have h1:1<=n:=by omega
 obtain⟨i0,hi,hz0,hz1,hz2⟩:=info_parts OC;refine callsIn_of_wp_marks Tryz.func193 rfl h3 ?_ hro;simp only [Tryz.ntmps193,List.size_toArray,List.length_cons,List.length_nil,Nat.reduceAdd,Nat.reduceSub,Array.replicate_succ,Array.replicate_zero,List.push_toArray,List.append_toArray,List.nil_append,List.cons_append];gi_wp2;have bO:=Boxed.new w 85 (.slice none 0 0);have hB0:Below w.heap.size w (w.alloc (.cells #[.slice none 0 0] 85)):=(Below.refl _ w).alloc (Nat.le_refl _) _;refine wpIn_rangeFunc_ownG hro h1 (gf:=gf) (lb:=lb) rfl hFg eg hseq belowK_t (belowK_b (by simp;omega)) hB0 (λ_=>rfl)
  (λpre W=>(∃v,Boxed W w.heap.size 85 v/\W.ownsRow w.heap.size 9 1 v pre.length (pre.map Value.string)/\(v = .slice none 0 0↔pre = []))/\Below w.heap.size w W)
  (λ_ _ _=>False)
  (OwnFrom.and (Own.from (holdsRow_own w.heap.size w.heap.size 85 9 1 (λpre:List ByteArray=>pre.length) (λpre=>pre.map Value.string) (λpre v=>v = .slice none 0 0↔pre = [])) _) (ownFrom_below (Nat.le_refl _) (by simp)))
  (λ_ _ _ _ _ hs _ _=>hs)
  ⟨⟨_,bO,World.ownsRow_nil _ _ _ _,by simp⟩,hB0⟩
  (λx => { tmps:=#[.slice none 0 0,.func (.func gf) #[] lb,.pointer (some ⟨w.heap.size,0,none⟩),undef,.slice none 0 0,.string x,.func (.func gf) #[] lb,.string x,undef,undef,undef,undef,undef],defers := [] }) ?assign ?znC ?done ?stop
 case assign =>
  intro l x W K hK;gi_wp2;exact hK
 case znC =>
  rintro l pre x W ⟨⟨v,hv,hrow,hnil⟩,hB⟩ hlt;have hc:=hv.cell;gi_wp2_with (gi_at_builtin;refine wpListIn_append_own _ rfl _ _ 85 rfl w.heap.size 9 i0 (.string ⟨#[]⟩) 1 16 Tryz.underlying85 hi hz0 hz1 hz2 rfl (by decide) _ _ _ rfl (hrow.alloc _) ⟨W.heap.size,0,none⟩ 1 1 [.string x] rfl rfl (cell_one_new _ _ _) (by simp [Value.oneCell']) (by unfold maxLen;omega) (by omega) (by have:=hB.size;simp;omega) ?_;intro v' w1 hown' hgrow _;obtain⟨g',cap',rfl⟩:=ownsRow_succ hown';obtain⟨hv1,hv2,hr2,hk2,hb2⟩:=hv.appended (by decide) hrow hB.size (Nat.le_refl _) hown' hgrow;have hc1:=hv1.cell;have hf1:=hv1.frozen);exact⟨hk2.from _,hb2.mono hn₀,⟨_,hv2,by simpa using hr2,by simp⟩,hB.trans hb2⟩
 case done =>
  rintro D ys W hD rfl ⟨⟨v,hv,hrow,hnil⟩,hB⟩ hK;have hc:=hv.cell;gi_wp2;refine⟨by simp,.inl ⟨_,_,rfl,run_takeDeferred hK,?_⟩⟩;exact⟨_,results_tmp rfl _ _ _,v,rfl,ownsRow_putObj hrow _ hK rfl,hnil,hB.trans (belowK_b (w:=w) (Nat.le_refl _) W D _ _ (by simp at hD;omega) hK rfl rfl)⟩
 case stop =>
  rintro D c pre W _ _ h _;exact h.elim
theorem zdy(F:Fence)(n:Nat)(h8:F.fn 180)(h3:F.fn 193)(hro:F.round=none)(hn:4<=n)(gf:Nat)(lb:Array Value)(hFg:F.fn gf)(eg:∀args w,(callFunc gf args).run Tryz.prog w = .ok (.enter gf args) w)
 (n₀:Nat) (N:List ByteArray) (hreach:N.length*16<=140737488351232) (w:World) (hn₀:n₀<=w.heap.size) (hseq:SeqStopsK F (n-1-1) Tryz.prog gf lb (λx:ByteArray=>#[Value.string x]) (Below n₀) (λys=>ys=N) (λpre=>pre <+: N) N.length w):
 CallsIn F n Tryz.prog 180 #[.func (.func gf) #[] lb] w λe w'=>∃v,e = .returned v/\w'.ownsRow w.heap.size 9 1 v N.length (N.map Value.string)/\(v = .slice none 0 0↔N = [])/\Below w.heap.size w w':=by
 have h1:1<=n:=by omega
 refine callsIn_of_wp Tryz.func180 rfl h8 ?_ hro;simp only [Tryz.ntmps180,List.size_toArray,List.length_cons,List.length_nil,Nat.reduceAdd,Nat.reduceSub,Array.replicate_succ,Array.replicate_zero,List.push_toArray,List.append_toArray,List.nil_append,List.cons_append];gi_wp2_with (gi_at_call 193;refine(YU F (n-1) h3 hro (by omega) gf lb hFg eg n₀ N hreach _ hn₀ hseq).mono ?_;rintro e w1 ⟨v,rfl,hrow,hnil,hb⟩);go_ret;exact⟨v,rfl,hrow,hnil,hb⟩
def VB(N:List ByteArray):List (List UInt8):=(N.map λx=>x.data.toList).mergeSort λx y=>decide (x<=y)
theorem Yy(N:List ByteArray):(VB N).length=N.length:=by simp [VB]
theorem zgu(N:List ByteArray):(N.map λx=>x.data.toList).map encStr=N.map Value.string:=by
 rw [List.map_map];apply List.map_congr_left;intro x _;simp [encStr]
theorem ZV(Bs n₀:Nat)(A:Option Addr)(cap:Nat)(N:List ByteArray)(hreach:N.length*16<=140737488351232)(w:World)(hBs:Bs<w.heap.size)(hn₀:n₀<=w.heap.size)
 (hc:w.cell? ⟨Bs,0,none⟩=some (.slice A N.length cap)) (hI:Sy w A N) (hA:∀a,A=some a->0<N.length->a.block<n₀):
 Calls Tryz.prog 162 #[.func (.func 182) #[] #[.pointer (some ⟨Bs,0,none⟩)]] w λe w'=>∃v,e = .returned v/\w'.ownsRow w.heap.size 9 1 v N.length ((VB N).map encStr)/\Below w.heap.size w w':=by
 have hC:=callsIn_wide.1 (zdy Fence.wide 9 trivial trivial rfl (by omega) 182 #[.pointer (some ⟨Bs,0,none⟩)] trivial (enters_of Tryz.func182 (by kernel_rfl) rfl) n₀ N hreach w hn₀ (Yl Fence.wide 7 trivial rfl (by omega) Bs n₀ A cap N hreach w hBs hc hI hA));have HC:=O hC;have HR:=O hreach;clear hC hI hA hc hreach;go_enter Tryz.func162,Tryz.ntmps162;go_wp2_with fail;refine(HC.o).mono ?_;rintro e w1 ⟨v,rfl,hrow,hnil,hb⟩;rcases hrow.2 with ⟨rfl,hz⟩|⟨gb,cp,cur,rfl,hbase,hgb,r1,r2,r3,r4⟩
 ·have hss:N = []:=List.eq_nil_of_length_eq_zero hz;subst hss;go_wp2_with fail;refine(Tryz.slices_Sort_string_none none 0 w1).mono ?_;rintro e w2 ⟨rfl,rfl⟩;go_wp2_with fail;go_ret;exact⟨_,rfl,by simpa [VB] using hrow,hb⟩
 ·have r5:=r4;rw [<-zgu] at r5;have hlen:(N.map λx=>x.data.toList).length=N.length:=List.length_map _;have hH:Holds encStr w1 gb 0 (N.map λx=>x.data.toList).toArray:=holds_of_block hgb (by rw [hlen];simpa using r5);have hgl:gb<w1.heap.size:=(Array.getElem?_eq_some_iff.1 hgb).1;have cS:=O (Tryz.slices_Sort_string gb 0 cp _ w1 hH hgl (by rw [hlen];have:=HR.o;omega));rw [hlen] at cS;go_wp2_with fail;refine(cS.o).mono ?_;rintro e w2 ⟨rfl,nn,os,rfl⟩;go_wp2_with fail;go_ret;refine⟨_,rfl,?_,hb.grown (grownBy_sorted _) hb.size (λj hj=>by cases hj;exact hbase)⟩;have:=ownsRow_sorted (w:=w1) (n:=nn) (os:=os) (ss:=N.map λx=>x.data.toList) (ts:=VB N) (by rw [Yy,hlen]) hbase hgb (by rw [hlen];exact r1) r2 r3;rw [hlen] at this;exact this
end Go.Proofs.YtokiogmfgpidmaaGreatDoor
namespace Go.Wk
theorem zaA{N:List ByteArray}{x:Fld}{r:List Fld}:py N (x :: r)=or2 (zh x.1) (or2 (if Mt N x.1 then 6 else 0) (or2 (zc x.2) (py (N ++ [x.1]) r))):=rfl
theorem zi5{N:List ByteArray}{L:List (List Nd)}(hl:N.length=L.length){k:Nat}(h:k<N.length):
 py (N.take k) ((N.zip L).drop k)=or2 (zh N[k]) (or2 (if Mt (N.take k) N[k] then 6 else 0) (or2 (zc (L[k]'(by omega))) (py (N.take (k+1)) ((N.zip L).drop (k+1))))):=by
 have hz:k<(N.zip L).length:=by simp;omega
 rw [List.drop_eq_getElem_cons hz,zaA,List.getElem_zip,List.take_append_getElem h]
theorem zgH{N:List ByteArray}{j:Nat}(h:j<N.length)(s:ByteArray):Mt (N.take (j+1)) s=(Mt (N.take j) s || decide (jh N[j] s=0)):=by
 unfold Mt;rw [<-List.take_append_getElem h,List.any_append];simp
theorem zjP{N:List ByteArray}{L:List (List Nd)}(hl:N.length=L.length){k:Nat}(h:k<N.length):
 (zw ((N.zip L).take (k+1))).length=(zw ((N.zip L).take k)).length+(1+(L[k]'(by omega)).length):=by
 have hz:k<(N.zip L).length:=by simp;omega
 rw [Pm _ _ hz,List.length_append,List.getElem_zip];simp;omega
theorem SE(Z:List Fld)(p:Fld->Bool):(zw (Z.filter p)).length<=(zw Z).length:=by
 induction Z with
 | nil=>simp
 | cons x r ih =>
  simp only [List.filter_cons,zw,List.length_cons,List.length_append]
  split
  ·simp only [zw,List.length_cons,List.length_append];omega
  ·omega
theorem zjX(Z:List Fld):Z.length<=(zw Z).length:=by
 induction Z with
 | nil=>simp
 | cons x r ih=>simp only [zw,List.length_cons,List.length_append];omega
theorem zau(Z:List Fld)(p:Fld->Bool){i:Nat}(h:i<Z.length):(Z.take (i+1)).filter p=(Z.take i).filter p ++ if p Z[i]=true then [Z[i]] else []:=by
 rw [<-List.take_append_getElem h,List.filter_append,List.filter_cons];simp
end Go.Wk
namespace Go.Proofs.YtokiogmfgpidmaaGreatDoor
open Go.RowKit Go.Wk Go.Sort
def Ry(w:World)(N:List ByteArray)(L:List (List Nd))(e:Ending)(w':World):Prop :=
 ∃(A:Option Addr) (n c:Nat),e = .returned (.tuple #[.slice A n c,.int .i64 (oC N L)])/\Ns w' A n c (Ki N L)/\Below w.heap.size w w'/\∀a,A=some a->w.heap.size<=a.block
theorem NY{w w':World}{N:List ByteArray}{L:List (List Nd)}{x:Int}(h:oC N L=x)(h0:x≠0)(hb:Below w.heap.size w w'):Ry w N L (.returned (.tuple #[.slice none 0 0,.int .i64 x])) w' :=
 ⟨none,0,0,by rw [h],by rw [UE (by rw [h];exact h0)];exact jM _,hb,λa e=>by cases e⟩
theorem Sy.at{w:World}{A:Option Addr}{N:List ByteArray}(h:Sy w A N){k:Nat}(hk:k<N.length):∃a,A=some a/\w.cell? (a.add k)=some (.string N[k]):=h k N[k] (List.getElem?_eq_getElem hk)
theorem ZX{Z:List Fld}(h:∀y∈Z,y.1.size<=maxLen/\gh y.2):gh (zw Z):=by
 induction Z with
 | nil=>intro x hx;cases hx
 | cons y r ih =>
  intro x hx
  simp only [zw] at hx
  rcases List.mem_cons.1 hx with rfl|hx
  ·exact⟨(h y (by simp)).1,Nat.zero_le _,by show _<=(0:Int);omega,by show(0:Int)<=_;omega⟩
  ·rcases List.mem_append.1 hx with hx|hx
   ·exact(h y (by simp)).2 x hx
   ·exact ih (λz hz=>h z (by simp [hz])) x hx
theorem zgc{a b:ByteArray}(ha:a.size<=maxLen)(hb:b.size<=maxLen)(w:World):∀w',Below w.heap.size w w'->Calls Tryz.prog 39 #[.string a,.string b] w' λe w''=>e = .returned (.int .i64 (jh a b))/\Below w'.heap.size w' w'' :=
 λw' _=>Mj a b w' ha hb
theorem zd7(A:Option Addr)(n c:Nat)(N:List ByteArray)(A':Option Addr)(m c':Nat)(V:List Sl)(w:World)(hn:n=N.length)(hn2:n<=5864062014634*2)(hT:Sy w A N)(hz:∀x∈N,x.size<=maxLen)(hm:m=V.length)(hm2:m<=5864062014634)(hV:ou w A' V):
 Calls Tryz.prog 45 #[.slice A n c,.slice A' m c'] w (Ry w N (V.map Sl.P)):=by
 obtain⟨i0,hi,hz0,hz1,hz2⟩:=info_parts Ru;have HT:=O hT;have HV:=O hV;have HN:=O hn;have HM:=O hm;have HZ:=O hz;clear hT hV hz;by_cases VE:n=m
 ·subst VE;have HL:=O (show N.length=(V.map Sl.P).length by rw [List.length_map,<-hn,<-hm]);have HR:=O (show oC N (V.map Sl.P)=or2 (py [] (N.zip (V.map Sl.P))) (if 200<(zw (N.zip (V.map Sl.P))).length+1 then 4 else 0) by unfold oC;rw [if_pos HL.o]);have HLV:=O (show∀k,(h:k<V.length)->∀h',(V.map Sl.P)[k]'h'=V[k].P from λk h h'=>by simp);generalize V.map Sl.P=L at *;clear hn hm;go_enter Tryz.func45,Tryz.ntmps45;go_wp2_with fail;go_loopw [6,7,8,9] (λz i _ _ wr=>∃(k:Nat) (s:Int),k<=n/\i = .int .i64 k/\z = .int .i64 s/\0<=s/\s<=500/\Hid (s<=200->s=((zw ((N.zip L).take k)).length:Int)+1)/\Hid (200<s->200<(zw (N.zip L)).length+1)/\Hid (py [] (N.zip L)=py (N.take k) ((N.zip L).drop k))/\Hid (∀j,(h:j<V.length)->j<k->zc V[j].P=0)/\Hid (Below w.heap.size w wr)) (λ_ i _ _ _=>n-(intOf i).toNat)
  case atStart=>exact⟨0,1,Nat.zero_le _,rfl,rfl,by omega,by omega,O (λ_=>by simp [zw]),O (λh=>by omega),O (by simp),O (λj _ h=>by omega),Below.refl _ _⟩
  case round =>
   obtain⟨k,s,hk,rfl,rfl,hs0,hs1,hS,hF,hC,hO,hB⟩:=hrel;by_cases hlt:k<n
   ·have hk1:k<N.length:=by rw [<-HN.o];exact hlt
    have hk2:k<V.length:=by rw [<-HM.o];exact hlt
    obtain⟨a,rfl,c0⟩:=(HT.o.keep hB.o).at hk1;obtain⟨b,rfl,c1,hs⟩:=(HV.o.keep hB.o).at hk2;have HC:=O (hC.o.trans (zi5 HL.o hk1));have VG:k<L.length:=by rw [<-HL.o];exact hk1
    have eL:L[k]=V[k].P:=HLV.o k hk2 VG;have HFL:=O (zjP HL.o hk1);rw [eL] at HC HFL;have zz:=HZ.o _ (List.getElem_mem hk1);have C1:=O (CM N[k] wr zz);have N1:=O hs;clear hC eL hs;by_cases h1:zh N[k]=0
    ·rw [h1,zM] at HC;rw [h1] at C1;clear h1;go_wp2_with fail;refine(C1.o).mono ?_;rintro e w1 ⟨rfl,rfl⟩;go_wp2_with fail;go_loopw [9] (λj wj=>∃q:Nat,q<=k/\j = .int .i64 q/\Hid (Mt (N.take q) N[k]=false)/\Hid (Below wr.heap.size wr wj)) (λj _=>k-(intOf j).toNat)
     case atStart=>exact⟨0,Nat.zero_le _,rfl,O rfl,Below.refl _ _⟩
     case round =>
      obtain⟨q,hq,rfl,hH,hJ⟩:=hrel;by_cases hlq:q<k
      ·have hq1:q<N.length:=by omega
       have d0:=za hJ.o c0;obtain⟨a2,ha2,d1⟩:=(HT.o.keep (oz hB hJ (Nat.le_refl _)).o).at hq1;injection ha2 with ha2;subst ha2;have k0:=cell_regrown d0;have k1:=cell_regrown d1;have HS:=O (zgH hq1 N[k]);have BJ:=oz hB hJ (Nat.le_refl _);go_wp2_with fail;refine wp_region_quiet_below (by kernel_rfl) (by kernel_rfl) ?_
       repeat (first|go_big_quiet_step (fail)|quiet_step (fail))
       refine wpQuiet_nil ?_;intro w2 hw';have B2:=O (show Below wr.heap.size wr w2 by obtain⟨⟨d,os⟩,rfl⟩:=hw';exact below_regrown _ _ _);clear hw';have B3:=oz hJ B2 (Nat.le_refl _);have BJ3:=oz BJ B2 (by have:=BJ.o.size;omega);clear hJ B2 k0 k1 d0 d1 BJ;by_cases he:N[q]=N[k]
       ·have HE:=O (show oC N L=6 by
         have hh:Mt (N.take k) N[k]=true:=Tz.2 (by
          rw [<-he]
          exact List.getElem_mem (l:=N.take k) (n:=q) (by simp;omega)|> λh=>by simpa using h)
         have e:=HC.o
         rw [hh,if_pos rfl] at e
         rw [HR.o,e];rfl)
        have e1:(N[q].toList==N[k].toList)=true:=by rw [he];exact beq_self_eq_true _
        rw [e1];clear he HS HC hH e1;go_wp2;go_ret2;exact NY HE.o (by decide) BJ3.o
       ·have H2:=O (show Mt (N.take (q+1)) N[k]=false by
         rw [HS.o,hH.o,Bool.false_or,decide_eq_false_iff_not]
         exact λz=>he ((jf.zero _ _).1 z))
        have e1:(N[q].toList==N[k].toList)=false:=beq_eq_false_iff_ne.2 (λz=>he (toList_inj z));rw [e1];clear he HS hH e1;go_wp2;go_roundw
        case rel=>exact⟨q+1,by omega,by go_num,H2,B3⟩
        case measure=>simp [intOf];omega
      ·have HH:=O (show Mt (N.take k) N[k]=false by have:=hH.o;rwa [show q=k by omega] at this);have ZL:=O (HC.o.trans (by rw [HH.o,if_neg (by simp),zM]:_=or2 (zc V[k].P) (py (N.take (k+1)) ((N.zip L).drop (k+1)))));have BJ:=oz hB hJ (Nat.le_refl _);have d1:=za hJ.o c1;have N2:=O (N1.o.keep hJ.o);have C2:=O (IB _ _ _ _ _ N2.o);clear HC hH HH hJ hB c0 c1 N1 C1;by_cases h2:zc V[k].P=0
       ·rw [h2,zM] at ZL;rw [h2] at C2;have O2:=O (show∀j,(h:j<V.length)->j<k+1->zc V[j].P=0 from λj h hj=>by
         rcases Nat.lt_or_ge j k with h3|h3
         ·exact hO.o j h h3
         ·have:j=k:=by omega
          subst this;exact h2)
        have hP2:=(zH.1 h2).1;have HNL:=O N2.o.len;have hvn:V[k].n<=200:=by rw [N2.o.len];exact hP2
        have HP2:=O hP2;clear hP2;clear h2;go_wp2_with fail;refine(C2.o).mono ?_;rintro e w3 ⟨rfl,b3⟩;have d2:=za b3 d1;have B3:=bh BJ b3;clear b3 BJ d1 C2 N2;by_cases Ms:s<=200
        ·have HS2:=O (show s+(1+(V[k].n:Int))=((zw ((N.zip L).take (k+1))).length:Int)+1 by
          have h1:=hS.o Ms
          have h2:=HFL.o
          have h3:=HNL.o
          omega)
         have HF2:=O (show 200<s+(1+(V[k].n:Int))->200<(zw (N.zip L)).length+1 from λh=>by
          have h1:=HS2.o
          have h2:=I1 (N.zip L) (k+1)
          omega)
         go_wp2_with fail;go_roundw
         case rel=>exact⟨k+1,s+(1+(V[k].n:Int)),by omega,by go_num,rfl,by omega,by omega,O (λ_=>HS2.o),HF2,ZL,O2,B3⟩
         case measure=>simp [intOf];omega
        ·go_wp2_with fail;go_roundw
         case rel=>exact⟨k+1,s,by omega,by go_num,rfl,by omega,by omega,O (λh=>by omega),hF,ZL,O2,B3⟩
         case measure=>simp [intOf];omega
       ·have HE:=O (show oC N L=zc V[k].P by
         have e:=ZL.o.trans (jw h2 _)
         rw [HR.o,e,jw h2])
        have H2:=O h2;have e2:(zc V[k].P != 0)=true:=by rw [bne_iff_ne];exact h2
        clear h2 ZL;go_wp2_with fail;refine(C2.o).mono ?_;rintro e w3 ⟨rfl,b3⟩;have B3:=bh BJ b3;clear b3;go_wp2_with fail;go_ret2;exact NY HE.o H2.o B3.o
    ·have HE:=O (show oC N L=zh N[k] by
      have e:=HC.o.trans (jw h1 _)
      rw [HR.o,e,jw h1])
     have H1:=O h1;have e1:(zh N[k] != 0)=true:=by rw [bne_iff_ne];exact h1
     clear h1 HC;go_wp2_with fail;refine(C1.o).mono ?_;rintro e w1 ⟨rfl,rfl⟩;go_wp2_with fail;go_ret2;exact NY HE.o H1.o hB.o
   ·have hkn:k=n:=by omega
    have HC0:=O (show py [] (N.zip L)=0 by
     rw [hC.o,List.drop_of_length_le (by rw [List.length_zip,<-HL.o,<-HN.o];omega)];rfl)
    have VN:=O (show s<=200->s=((zw (N.zip L)).length:Int)+1 from λh=>by
     have:=hS.o h
     rwa [List.take_of_length_le (by rw [List.length_zip,<-HL.o,<-HN.o];omega)] at this)
    clear hC hS hkn;by_cases Ms:s<=200
    ·have HE:=O (show oC N L=0 by
      rw [HR.o,HC0.o,zM,if_neg (by have:=VN.o Ms;omega)])
     have HV0:=O (S5 HE.o);have hfl:(zw (N.zip L)).length<=199:=by have:=VN.o Ms;omega
     obtain⟨-,hnd,-⟩:=Le.1 HC0.o;have HPK:=O (λr hr=>zpt hnd r hr);have hlz:(N.zip L).length=n:=by rw [List.length_zip,<-HL.o,<-HN.o];omega
     have hls:(sL (N.zip L)).length=n:=by rw [(j9 _).length_eq,hlz]
     have HFS:=O (show∀r,(zw ((sL (N.zip L)).take r)).length<=199 from λr=>Nat.le_trans (I1 _ r) (by rw [Nb (j9 _)];exact hfl));have HFF:=O (show∀r i,(zw (((N.zip L).take i).filter λx=>decide (jB (N.zip L) x.1=r))).length<=199 from λr i=>Nat.le_trans (SE _ _) (Nat.le_trans (I1 _ i) hfl));have zfd:n<=200:=by have:=zjX (N.zip L);omega
     have HZ1:=O (show∀i,(h:i<N.length)->∃h',(N.zip L)[i]'h'=(N[i],V[i]'(by rw [<-HM.o,HN.o];exact h)|>.P) from λi h=>by
      have h2:i<L.length:=by rw [<-HL.o];exact h
      refine⟨by rw [List.length_zip];omega,?_⟩
      rw [List.getElem_zip,HLV.o i (by rw [<-HM.o,HN.o];exact h) h2])
     have SX:=O (show∀x∈N.zip L,gh x.2 from λx hx=>by
      obtain⟨i,hi,rfl⟩:=List.getElem_of_mem hx
      have hi1:i<N.length:=by rw [List.length_zip] at hi;omega
      obtain⟨h',e⟩:=HZ1.o i hi1
      rw [e]
      obtain⟨-,-,-,q⟩:=HV.o.at (k:=i) (by rw [<-HM.o,HN.o];exact hi1)
      exact q.ok)
     generalize hZ:N.zip L=Z at *;have HZZ:=O hZ;generalize hSS:sL Z=S at *;have HSS:=O hSS;have R0:=O (Tg wr (zG n));have HVF:=O (show∀j,(h:j<V.length)->zc V[j].P=0 from λj h=>hO.o j h (by have:=HM.o;omega));clear hnd hfl hZ hSS VN hF hO HC0 HR;obtain⟨w0,rfl⟩:∃w0:World,w0=wr:=⟨_,rfl⟩
     have B0:=hB;clear hB;go_wp2_with fail;go_loopw [10,11,12,13,14] (λo r _ _ _ wk=>∃r':Nat,r'<=n/\r = .int .i64 r'/\Hid (wk.ownsRow w0.heap.size 28 4 o (zG n :: zw (S.take r')).length (zL (zG n :: zw (S.take r'))))/\Hid (Below w0.heap.size w0 wk)) (λ_ r _ _ _ _=>n-(intOf r).toNat)
     case atStart=>exact⟨0,Nat.zero_le _,rfl,R0,zb _ _⟩
     case round =>
      obtain⟨r,hr,rfl,hR,hB⟩:=hrel;by_cases hlr:r<n
      ·go_wp2_with fail;go_loopw [10,12,13,14] (λo i _ _ wk=>∃i':Nat,i'<=n/\i = .int .i64 i'/\Hid (wk.ownsRow w0.heap.size 28 4 o (zG n ::(zw (S.take r)++ zw ((Z.take i').filter λx=>decide (jB Z x.1=r)))).length (zL (zG n ::(zw (S.take r)++ zw ((Z.take i').filter λx=>decide (jB Z x.1=r))))))/\Hid (Below w0.heap.size w0 wk)) (λ_ i _ _ _=>n-(intOf i).toNat)
       case atStart=>exact⟨0,Nat.zero_le _,rfl,O (by simpa [zw] using hR.o),hB⟩
       case round =>
        clear hR hB;obtain⟨i,hi',rfl,hR,hB⟩:=hrel;obtain⟨w4,rfl⟩:∃w4:World,w4=wr:=⟨_,rfl⟩
        by_cases hli:i<n
        ·have hi1:i<N.length:=by rw [<-HN.o];exact hli
         have hi2:i<V.length:=by rw [<-HM.o];exact hli
         obtain⟨hiz,eiz⟩:=HZ1.o i hi1;have BW:=oz B0 hB (by have:=B0.o.size;omega);obtain⟨a,rfl,c0⟩:=(HT.o.keep BW.o).at hi1;have zi:=HZ.o _ (List.getElem_mem hi1);have EIZ:=O eiz;clear eiz;go_wp2_with fail;go_loopw [13,14] (λah j wk=>∃j':Nat,j'<=n/\j = .int .i64 j'/\ah = .int .i64 (jB (Z.take j') N[i])/\Hid (Below w4.heap.size w4 wk)) (λ_ j _=>n-(intOf j).toNat)
         case atStart=>exact⟨0,Nat.zero_le _,rfl,rfl,Below.refl _ _⟩
         case round =>
          obtain⟨j,hj,rfl,rfl,hJ⟩:=hrel;have hah:=zgU (Z.take j) N[i];have hah2:(Z.take j).length<=200:=by simp;omega
          by_cases hlj:j<n
          ·have hj1:j<N.length:=by rw [<-HN.o];exact hlj
           obtain⟨hjz,ejz⟩:=HZ1.o j hj1;have HST:=O (show jB (Z.take (j+1)) N[i]=jB (Z.take j) N[i]+if jh N[j] N[i]<0 then 1 else 0 by rw [zbY _ _ _ hjz,ejz]);have d0:=za hJ.o c0;obtain⟨a2,ha2,d1⟩:=(HT.o.keep (oz BW hJ (by have:=BW.o.size;omega)).o).at hj1;injection ha2 with ha2;subst ha2;have zj:=HZ.o _ (List.getElem_mem hj1);have K:=rq (w:=wr) (zgc zj zi wr);have k0:=cell_regrown d0;have k1:=cell_regrown d1;clear ejz;go_wp2_with fail;refine wp_region_quiet_below (by kernel_rfl) (by kernel_rfl) ?_
           repeat (first|go_big_quiet_step (exact K _ _)|quiet_step (exact K _ _))
           refine wpQuiet_nil ?_;intro w5 hw';have B5:=O (show Below wr.heap.size wr w5 by obtain⟨⟨d,os⟩,rfl⟩:=hw';exact below_regrown _ _ _);clear hw';have BJ:=oz hJ B5 (by have:=hJ.o.size;omega);clear K k0 k1 d0 d1 hJ B5;by_cases hc:jh N[j] N[i]<0
           ·rw [decide_eq_true hc];have HA2:=O (show((jB (Z.take (j+1)) N[i]:Nat):Int)=(jB (Z.take j) N[i]:Nat)+1 by rw [HST.o,if_pos hc];omega);clear hc HST;go_wp2_with fail;go_roundw
            case rel=>exact⟨j+1,by omega,by go_num,by rw [HA2.o],BJ⟩
            case measure=>simp [intOf];omega
           ·rw [decide_eq_false hc];have HA2:=O (show((jB (Z.take (j+1)) N[i]:Nat):Int)=(jB (Z.take j) N[i]:Nat) by rw [HST.o,if_neg hc];omega);clear hc HST;go_wp2_with fail;go_roundw
            case rel=>exact⟨j+1,by omega,by go_num,by rw [HA2.o],BJ⟩
            case measure=>simp [intOf];omega
          ·have ez:Z.take j=Z:=List.take_of_length_le (by omega);rw [ez] at hah;rw [ez];have RK:=O (hR.o.kept (zA hJ.o none) (by cases hv:u10.ownBlock <;> simp));have BK:=oz hB hJ (by have:=hB.o.size;omega);have d0:=za hJ.o c0;have HFT:=O (zau Z (λx=>decide (jB Z x.1=r)) hiz);have BWJ:=oz BW hJ (by have:=BW.o.size;omega);have hl1:=HFS.o r;have hl2:=HFF.o r i;clear hJ hR hB BW c0 ez hah2;by_cases hq:jB Z N[i]=r
           ·have e1:(((jB Z N[i]:Nat):Int)==(r:Int))=true:=by rw [hq];exact beq_self_eq_true _
            obtain⟨b,rfl,q,hs⟩:=(HV.o.keep BWJ.o).at hi2;have hv:=HVF.o i hi2;obtain⟨hv2,hV2⟩:=zH.1 hv;obtain⟨a2,ea,-⟩:=hs.at_.nd hV2.pos;rw [ea] at q;have EA:=O ea;have HCS:=O (show∀w',Below wr.heap.size wr w'->∀j u,(zL V[i].P)[j]?=some u->w'.cell? (a2.add j)=some u from λw' hw=>by
             have:=hs.at_.keep hw
             rw [ea] at this
             exact this.cells)
            have HRN:=O hs.len;have hrn:V[i].n<=200:=by rw [hs.len];exact hv2
            have HOLD:=O (show a2.block<w.heap.size by
             obtain⟨-,-,-,hs0⟩:=HV.o.at hi2
             exact hs0.at_.lt hV2.pos a2 ea)
            have ZD:=O (show zG n ::(zw (S.take r)++ zw ((Z.take (i+1)).filter λx=>decide (jB Z x.1=r)))=((zG n ::(zw (S.take r)++ zw ((Z.take i).filter λx=>decide (jB Z x.1=r))))++ [bX N[i]])++ V[i].P by
             rw [HFT.o,EIZ.o,if_pos (by simp only [decide_eq_true_eq];exact hq),MB,Rp]
             simp)
            have hX0:(zG n ::(zw (S.take r)++ zw ((Z.take i).filter λx=>decide (jB Z x.1=r)))).length<=400:=by simp;omega
            generalize hX:zG n ::(zw (S.take r)++ zw ((Z.take i).filter λx=>decide (jB Z x.1=r)))=X at RK ZD hX0;have hsz:=BK.o.size;clear hX hs hv hv2 hV2 ea HFT;rw [show((jB Z N[i]:Nat):Int)=(r:Int) by rw [hq]];clear e1 hq hah;go_wp2_with (at_builtin;refine wpList_append_own _ rfl _ _ 22 rfl w0.heap.size 28 i0 _ 4 48 Tryz.underlying22 hi hz0 hz1 hz2 rfl (by decide) _ X.length (zL X) rfl (RK.o.alloc _) ⟨_,0,none⟩ 1 1 (zL [bX N[i]]) rfl rfl (jP _ _ _) (CV _) ?c1 ?c2 ?c3 ?_)
            case c1=>unfold maxLen;omega
            case c2=>omega
            case c3=>simp;omega
            intro v1 w6 hown hgrow _;have B6:=O ((BK.o.alloc BK.o.size _).grown hgrow (by simp;omega) (λg hg=>by have:=zR RK.o g hg;omega));have BW6:=oz B0 B6 (by have:=B0.o.size;omega);have OW:=O (show w6.ownsRow w0.heap.size 28 4 v1 (X ++ [bX N[i]]).length (zL (X ++ [bX N[i]])) by
             rw [List.length_append,ow];exact hown)
            have h16:(X ++ [bX N[i]]).length<=401:=by simp;omega
            obtain⟨b6,hb6,q6,hs6⟩:=(HV.o.keep BW6.o).at hi2;injection hb6 with hb6;subst hb6;rw [EA.o] at q6;have HC6:=O (show∀j u,(zL V[i].P)[j]?=some u->w6.cell? (a2.add j)=some u from by
             have:=hs6.at_
             rw [EA.o] at this
             exact this.cells)
            clear hown hgrow RK HCS hs6 EA q d0;generalize hX1:X ++ [bX N[i]]=X1 at OW ZD h16;clear hX1;have hsz6:=B6.o.size;go_wp2_with (at_builtin;refine wpList_append_own _ rfl _ _ 22 rfl w0.heap.size 28 i0 _ 4 48 Tryz.underlying22 hi hz0 hz1 hz2 rfl (by decide) _ X1.length (zL X1) rfl OW.o a2 V[i].n V[i].c (zL V[i].P) rfl (by simp [v7,HRN.o]) HC6.o (CV _) ?c1 ?c2 ?c3 ?_)
            case c1=>unfold maxLen;omega
            case c2=>omega
            case c3=>omega
            intro v2 w7 hown2 hgrow2 _;have OW2:=O (show w7.ownsRow w0.heap.size 28 4 v2 (X1 ++ V[i].P).length (zL (X1 ++ V[i].P)) by
             rw [List.length_append,ow,<-HRN.o];exact hown2)
            have B7:=O (B6.o.grown hgrow2 (by omega) (λg hg=>by have:=zR OW.o g hg;omega));rw [<-ZD.o] at OW2;clear hown2 hgrow2 OW B6 ZD;go_wp2_with fail;go_roundw
            case rel=>exact⟨i+1,by omega,by go_num,OW2,B7⟩
            case measure=>simp [intOf];omega
           ·have e1:(((jB Z N[i]:Nat):Int)==(r:Int))=false:=beq_eq_false_iff_ne.2 (λz=>hq (by omega));have RK2:=O (show wr.ownsRow w0.heap.size 28 4 u10 (zG n ::(zw (S.take r)++ zw ((Z.take (i+1)).filter λx=>decide (jB Z x.1=r)))).length (zL (zG n ::(zw (S.take r)++ zw ((Z.take (i+1)).filter λx=>decide (jB Z x.1=r))))) by
             rw [HFT.o,EIZ.o,if_neg (by simp only [decide_eq_true_eq];exact hq),List.append_nil]
             exact RK.o)
            clear hq HFT RK;go_wp2_with fail;go_roundw
            case rel=>exact⟨i+1,by omega,by go_num,RK2,BK⟩
            case measure=>simp [intOf];omega
        ·have HPR:=O (show(Z.take i).filter (λx=>decide (jB Z x.1=r))= [S[r]'(by omega)] by
          rw [List.take_of_length_le (by omega)];exact HPK.o r (by omega))
         have HT2:=O (show zG n ::(zw (S.take r)++ zw ((Z.take i).filter λx=>decide (jB Z x.1=r)))=zG n :: zw (S.take (r+1)) by
          rw [HPR.o,Pm S r (by omega),Rp])
         have R2:=O (by have:=hR.o;rw [HT2.o] at this;exact this);clear hR HPR HT2;go_wp2_with fail;go_roundw
         case rel=>exact⟨r+1,by omega,by go_num,R2,hB⟩
         case measure=>simp [intOf];omega
      ·obtain⟨A5,c5,rfl,hc5,hA5,hF5⟩:=vl hR.o;have HF5:=O hF5;have HX:=O (show zG n :: zw (S.take r)=Ki N L by
        rw [HV0.o,List.take_of_length_le (by omega),<-HN.o])
       have hlen:(zG n :: zw (S.take r)).length<=200:=by have:=HFS.o r;simp;omega
       have NN:=O (show Ns wr A5 (zG n :: zw (S.take r)).length c5 (Ki N L) by
        rw [<-HX.o]
        refine⟨rfl,hc5,by unfold maxLen;omega,hA5,?_⟩
        intro x hx
        rcases List.mem_cons.1 hx with rfl|hx
        ·exact⟨Nat.zero_le _,Nat.zero_le _,by show _<=(n:Int);omega,by show(n:Int)<=_;omega⟩
        ·refine ZX (Z:=S.take r) (λy hy=>?_) x hx
         have hy2:y∈Z:=by
          have:=List.mem_of_mem_take hy
          rw [<-HSS.o] at this
          exact(j9 Z).mem_iff.1 this
         refine⟨?_,SX.o y hy2⟩
         obtain⟨t,ht,rfl⟩:=List.getElem_of_mem hy2
         have ht1:t<N.length:=by rw [<-HN.o];omega
         obtain⟨h',e⟩:=HZ1.o t ht1
         rw [e]
         exact HZ.o _ (List.getElem_mem ht1))
       have B6:=oz B0 hB (by have:=B0.o.size;omega);clear hR hB hc5 hA5 hF5;go_wp2_with fail;go_ret2;exact⟨A5,_,c5,by rw [HE.o];rfl,NN.o,B6.o,λa e=>Nat.le_trans B0.o.size (HF5.o a e)⟩
    ·have HE:=O (show oC N L=4 by
      rw [HR.o,HC0.o,zM,if_pos (hF.o (by omega))])
     clear VN;go_wp2_with fail;go_ret2;exact NY HE.o (by decide) hB.o
 ·have HE:=O (show oC N (V.map Sl.P)=1 by unfold oC;rw [if_neg (by rw [List.length_map,<-hn,<-hm];exact VE)]);have e0:(n != m)=true:=by rw [bne_iff_ne];exact VE
  clear VE hn hm;go_enter Tryz.func45,Tryz.ntmps45;go_wp2_with fail;go_ret2;exact NY HE.o (by decide) (Below.refl _ _)
end Go.Proofs.YtokiogmfgpidmaaGreatDoor
