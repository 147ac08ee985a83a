/-
  The reference's RecOf: the fields by their ranks. The program's RecOf: a map ..
-/
import Derived.Stop.Asserts
import Derived.Deep.RegionHeld3
import Derived.Test.YthidiimbeaabhaaGreatDoorQ12
import Derived.Test.YthidiimbeaabhaaGreatDoorQ25
import Derived.Test.YthidiimbeaabhaaGreatDoorQ29
set_option maxRecDepth 100000
set_option maxHeartbeats 4000000
namespace Go.Wk
theorem rW{N:List ByteArray}{x:Fld}{r:List Fld}:bf N (x :: r)=or2 (zk x.1) (or2 (if lO N x.1 then 6 else 0) (or2 (zc x.2) (bf (N ++ [x.1]) r))):=rfl
theorem Iq{N:List ByteArray}{L:List (List Nd)}(hl:N.length=L.length){k:Nat}(h:k<N.length):
 bf (N.take k) ((N.zip L).drop k)=or2 (zk N[k]) (or2 (if lO (N.take k) N[k] then 6 else 0) (or2 (zc (L[k]'(by omega))) (bf (N.take (k+1)) ((N.zip L).drop (k+1))))):=by
 have hz:k<(N.zip L).length:=by simp;omega
 rw [List.drop_eq_getElem_cons hz,rW,List.getElem_zip,List.take_append_getElem h]
end Go.Wk
namespace Go.Proofs.YthidiimbeaabhaaGreatDoor
open Go.RowKit Go.Wk Go.Sort
theorem oh.at{w:World}{A:Option Addr}{N:List ByteArray}(h:oh w A N){k:Nat}(hk:k<N.length):∃a,A=some a/\w.cell? (a.add k)=some (.string N[k]):=h k N[k] (List.getElem?_eq_getElem hk)
theorem CZ{Z:List Fld}(h:∀y∈Z,y.1.size<=maxLen/\jZ y.2):jZ (zY Z):=by
 induction Z with
 | nil=>intro x hx;cases hx
 | cons y r ih =>
  intro x hx
  simp only [zY] at hx
  rcases List.mem_cons.1 hx with rfl|hx
  ·exact⟨(h y (by simp)).1,Nat.zero_le _,by show _<=(0:Int);omega,by show(0:Int)<=_;omega⟩
  ·rcases List.mem_append.1 hx with hx|hx
   ·exact(h y (by simp)).2 x hx
   ·exact ih (λz hz=>h z (by simp [hz])) x hx
end Go.Proofs.YthidiimbeaabhaaGreatDoor
namespace Go.Proofs.YthidiimbeaabhaaGreatDoor
open Go.RowKit Go.Wk Go.Sort Go.Maps
def nB(w:World)(N:List ByteArray)(L:List (List Nd))(e:Ending)(w':World):Prop :=
 ∃(A:Option Addr) (n c:Nat),e = .returned (.tuple #[.slice A n c,zM (cb N L)])/\Ns w' A n c (gP N L)/\(∀a,A=some a->w.heap.size<=a.block)/\Below w.heap.size w w'
theorem iH{w w':World}{N:List ByteArray}{L:List (List Nd)}{x:Int}(h:cb N L=x)(h0:x≠0)(hb:Below w.heap.size w w'):nB w N L (.returned (.tuple #[.slice none 0 0,zM x])) w' :=
 ⟨none,0,0,by rw [h],by rw [Cv (by rw [h];exact h0)];exact ic _,(λa e=>nomatch e),hb⟩
theorem mN:Keyed Tryz.prog 9:=string_keyed Tryz.underlying9
theorem sE(w:World):(zeroValue 30).run Tryz.prog w = .ok (.slice none 0 0) w:=by kernel_rfl
def dG(N:List ByteArray)(V:List Sl)(k:Nat):List (ByteArray × Value):=(N.zip (V.map Sl.v)).take k
theorem im{P:Program}(w:World){ops:Array Oper}{rest:List Oper}{o:Oper}{a:Act}{Q:Exit->Act->World->Prop}
 (hg:o.guard=none) (m x:Operand) (t:TypeId) (hop:o.op=Op.lookup t m x false)
 (k e:TypeId) (K:Keyed P k) (ht:P.underlying t=some (.map k e)) {z:Value} (hz:(zeroValue e).run P w = .ok z w) (b n:Nat) (D:DataW Value)
 (hm:a.eval m = .map (some b)) (hown:w.ownsMap P k aD b n D) (key:Value) (kl:Lit) (hx:a.eval x=key) (hkey:keyOf P k key=some kl) (u:Value) (hu:D.atKey kl (.held z)= .held u)
 (hK:wpList P ops Q rest (a.put o.dst u) w):
 wpList P ops Q (o :: rest) a w:=by
 refine wpList_plain hg λK' hK'=>?_;obtain⟨v,ps,hrun,hv⟩:=hown.lookup K ht hz (zd := .held z) (zp := []) rfl hkey;have:v=u:=by
  unfold aD at hv;rw [hu] at hv;simp at hv;exact hv.1
 subst this;unfold Oper.wp;simp [execOp,hop,hm,hx,hrun,Result.andThen];exact hK' _ _ hK
theorem fZ{w:World}{B:Nat}{v:Value}{k:Nat}{xs:List Value}(h:w.ownsRow B 9 1 v k xs):∃A c,v = .slice A k c/\∀j u,xs[j]?=some u->∃a,A=some a/\w.cell? (a.add j)=some u:=by
 have h1:=h.1;rcases h.2 with ⟨rfl,h0⟩|⟨g,cap,cur,rfl,_⟩
 ·refine⟨none,0,by rw [h0],λj u hj=>?_⟩;have:j<xs.length:=(List.getElem?_eq_some_iff.1 hj).1;omega
 ·exact⟨some ⟨g,0,none⟩,cap,rfl,λj u hj=>⟨_,rfl,h.cells (g:=g) rfl j u hj⟩⟩
theorem mS{W:World}{base base':Nat}{e e':TypeId}{size size':Nat}{v v':Value}{k k':Nat}{xs xs':List Value}(h:W.ownsRow base e size v k xs)(h':W.ownsRow base' e' size' v' k' xs')(hne:e≠e'):v.ownBlock=none\/v.ownBlock≠v'.ownBlock:=by
 rcases h.2 with ⟨rfl,_⟩|⟨g,cap,cur,rfl,_,hgb,_⟩
 ·exact .inl rfl
 ·refine .inr λe0=>?_;rcases h'.2 with ⟨rfl,_⟩|⟨g',cap',cur',rfl,_,hgb',_⟩
  ·simp [Value.ownBlock] at e0
  ·have:g=g':=by simpa [Value.ownBlock] using e0
   subst this;rw [hgb] at hgb';simp at hgb';exact hne hgb'.2
theorem DR{N:List ByteArray}{V:List Sl}{k:Nat}(h1:k<N.length)(h2:k<V.length):dG N V (k+1)=dG N V k ++ [(N[k],V[k].v)]:=by
 have hz:k<(N.zip (V.map Sl.v)).length:=by simp;omega
 unfold dG;rw [<-List.take_append_getElem hz,List.getElem_zip,List.getElem_map]
theorem lw{N:List ByteArray}{V:List Sl}(hl:N.length=V.length)(k:Nat):(dG N V k).map (·.1)=N.take k:=by
 unfold dG;rw [List.map_take];congr 1;rw [List.map_fst_zip (by simp;omega)]
theorem Db{N:List ByteArray}{V:List Sl}(hl:N.length=V.length)(k:Nat)(s:ByteArray):((dG N V k).any λp=>decide (p.1=s))=lO (N.take k) s:=by
 have e:((dG N V k).any λp=>decide (p.1=s))=((dG N V k).map (·.1)).any λx=>decide (x=s):=by rw [List.any_map];rfl
 rw [e,lw hl];unfold lO;congr 1;funext x;have:=jB.zero x s;simp [this]
theorem wd(A:Option Addr)(n c:Nat)(N:List ByteArray)(A':Option Addr)(m c':Nat)(V:List Sl)(w:World)(hn:n=N.length)(hn2:n<=5864062014634*2)(hT:oh w A N)(hz:∀x∈N,x.size<=maxLen)(hm:m=V.length)(I':m<=5864062014634)(hV:jD w A' V):
 Calls Tryz.prog 116 #[.slice A n c,.slice A' m c'] w (nB w N (V.map Sl.P)):=by
 have Hf:=@run_makeMap Tryz.prog;obtain⟨i0,hi,hz0,hz1,hz2⟩:=info_parts kC;have HT:=O hT;have HV:=O hV;have HN:=O hn;have HM:=O hm;have HZ:=O hz;clear hT hV hz;by_cases Ed:n=m
 ·subst Ed;have HL:=O (show N.length=(V.map Sl.P).length by rw [List.length_map,<-hn,<-hm]);have HR:=O (show cb N (V.map Sl.P)=or2 (bf [] (N.zip (V.map Sl.P))) (if 200<(zY (N.zip (V.map Sl.P))).length+1 then 4 else 0) by unfold cb;rw [if_pos HL.o]);have Mm:=O (show∀k,(h:k<V.length)->∀h',(V.map Sl.P)[k]'h'=V[k].P from λk h h'=>by simp);generalize V.map Sl.P=L at *;clear hn hm;go_enter Tryz.func116,Tryz.ntmps116;go_wp2_with fail;go_loopw [7,8,9,10,11,12,25] (λ_ _ _ _ _ _ i wr=>∃k:Nat,k<=n/\i = .int .i64 k/\Hid (wr.ownsMap Tryz.prog 9 aD w.heap.size k (ig (dG N V k)))/\Hid (bf [] (N.zip L)=bf (N.take k) ((N.zip L).drop k))/\Hid (∀j,(h:j<V.length)->j<k->zc V[j].P=0)/\Hid (Below w.heap.size w wr)) (λ_ _ _ _ _ _ i _=>n-(intOf i).toNat)
  case atStart=>exact⟨0,Nat.zero_le _,rfl,O (World.ownsMap_made _ _ _ _),O (by simp),O (λj _ h=>by omega),O ((Below.refl _ _).alloc (Nat.le_refl _) _)⟩
  case round =>
   obtain⟨k,hk,rfl,hO,hC,hF,hB⟩:=hrel;by_cases hlt:k<n
   ·have GF:k<N.length:=by rw [<-HN.o];exact hlt
    have hk2:k<V.length:=by rw [<-HM.o];exact hlt
    obtain⟨a,rfl,c0⟩:=(HT.o.keep hB.o).at GF;obtain⟨b,rfl,c1,hs⟩:=(HV.o.keep hB.o).at hk2;have HC:=O (hC.o.trans (Iq HL.o GF));have uI:k<L.length:=by rw [<-HL.o];exact GF
    have eL:L[k]=V[k].P:=Mm.o k hk2 uI;rw [eL] at HC;have zz:=HZ.o _ (List.getElem_mem GF);have C1:=O (aj N[k] wr zz);have N1:=O hs;clear hC eL hs;by_cases h1:zk N[k]=0
    ·rw [h1,zn] at HC;rw [h1,zf] at C1;clear h1;go_wp2_with fail;refine(C1.o).mono ?_;rintro e w1 ⟨rfl,b1⟩;have O1:=O (jr hO.o b1);have B1:=bh hB b1;have d1:=zb b1 c1;have N2:=O (N1.o.keep b1);have HK:=O (show keyOf Tryz.prog 9 (.string N[k])=some (kg N[k]) from WideMaps.keyOf_string_mk Tryz.underlying9 zz);have HA:=O ((sW (dG N V k) N[k]).trans (Db (by rw [<-HN.o,HM.o]) k N[k]));clear C1 N1 c0 c1 b1 hO hB;go_wp2_with (at_lookup;refine wpList_lookup_own_ok _ rfl _ _ 229 rfl 9 30 mN Tryz.underlying229 aD (sE _) _ [] rfl w.heap.size k _ rfl O1.o _ _ rfl HK.o ?_);intro v ps hv;rw [HA.o];clear hv HA;have HH:=O (show lO (N.take k) N[k]=true->cb N L=6 from λhh=>by
      have e:=HC.o
      rw [hh,if_pos rfl] at e
      rw [HR.o,e];rfl)
     have Mw:=O (show lO (N.take k) N[k]=false->bf [] (N.zip L)=or2 (zc V[k].P) (bf (N.take (k+1)) ((N.zip L).drop (k+1))) from λhh=>by
      have e:=HC.o
      rwa [hh,if_neg (by simp),zn] at e)
     clear HC;generalize lO (N.take k) N[k]=q at *
     cases q with
     | true =>
      have HE:=O (HH.o rfl)
      clear HH Mw
      go_wp2_with fail
      go_ret2
      exact iH HE.o (by decide) B1.o
     | false =>
      have Ld:=O (Mw.o rfl)
      clear HH Mw
      have C2:=O (zI N2.o)
      by_cases h2:zc V[k].P=0
      ·rw [h2,zn] at Ld
       rw [h2,zf] at C2;have O2:=O (show∀j,(h:j<V.length)->j<k+1->zc V[j].P=0 from λj h hj=>by
        rcases Nat.lt_or_ge j k with h3|h3
        ·exact hF.o j h h3
        ·have:j=k:=by omega
         subst this;exact h2)
       clear h2 hF;go_wp2_with fail;refine(C2.o).mono ?_;rintro e w3 ⟨rfl,b3⟩;have d3:=zb b3 d1;have B3:=bh B1 b3;have O3:=O (jr O1.o b3);clear b3 C2 B1 O1 d1 N2;go_wp2_with (at_mapUpdate;refine wpList_mapUpdate_own _ rfl _ _ _ 229 rfl 9 30 mN Tryz.underlying229 aD w.heap.size k _ rfl O3.o (by unfold maxLen;omega) _ _ _ rfl rfl HK.o _ [] rfl ?_);intro w4 hown hgrow;have O4:=O (show w4.ownsMap Tryz.prog 9 aD w.heap.size (k+1) (ig (dG N V (k+1))) by
        rw [DR GF hk2,eb];exact hown)
       have B4:=O (B3.o.grown hgrow B3.o.size (λg hg=>by cases hg;exact Nat.le_refl _));clear hown hgrow O3 B3;go_wp2_with fail;go_roundw
       case rel=>exact⟨k+1,by omega,by go_num,O4,Ld,O2,B4⟩
       case measure=>simp [intOf];omega
      ·have HE:=O (show cb N L=zc V[k].P by
        have e:=Ld.o.trans (zG h2 _)
        rw [HR.o,e,zG h2])
       have H2:=O h2;have j7:=O (zl h2);have Ha:=zl h2;rw [Ha] at C2;clear h2 Ld Ha;go_wp2_with fail;refine(C2.o).mono ?_;rintro e w3 ⟨rfl,b3⟩;go_wp2_with fail;go_ret2;have:=iH (w:=w) (L:=L) HE.o H2.o (bh B1 b3).o;rw [j7.o] at this;exact this
    ·have HE:=O (show cb N L=zk N[k] by
      have e:=HC.o.trans (zG h1 _)
      rw [HR.o,e,zG h1])
     have H1:=O h1;have j7:=O (zl h1);have Ha:=zl h1;rw [Ha] at C1;clear h1 HC Ha;go_wp2_with fail;refine(C1.o).mono ?_;rintro e w1 ⟨rfl,b1⟩;go_wp2_with fail;go_ret2;have:=iH (w:=w) (L:=L) HE.o H1.o (bh hB b1).o;rw [j7.o] at this;exact this
   ·have Lp:=O (show bf [] (N.zip L)=0 by
     rw [hC.o,List.drop_of_length_le (by rw [List.length_zip,<-HL.o,<-HN.o];omega)];rfl)
    have HVF:=O (show∀j,(h:j<V.length)->zc V[j].P=0 from λj h=>hF.o j h (by have:=HM.o;omega));have HRE:=O (show cb N L=if 200<(zY (N.zip L)).length+1 then 4 else 0 by rw [HR.o,Lp.o,zn]);obtain⟨-,LU,-⟩:=lE.1 Lp.o;have LS:(N.zip L).map (·.1)=N:=List.map_fst_zip (by rw [HL.o];exact Nat.le_refl _);have hls:(cO (N.zip L)).length=n:=by rw [(aW _).length_eq,List.length_zip,<-HL.o,<-HN.o];omega
    have HSN:=O (show(mr N).map encStr=(cO (N.zip L)).map λx=>Value.string x.1 by
     have h:=qM LU
     rw [LS] at h
     unfold mr
     rw [<-h,List.map_map]
     apply List.map_congr_left
     intro x _
     simp [encStr])
    have HIX:=O (show∀r,(h:r<(cO (N.zip L)).length)->∃i,∃h1:i<N.length,∃h2:i<V.length,(cO (N.zip L))[r]=(N[i],V[i].P)/\(ig (dG N V k)).atKey (kg N[i]) (.held (.slice none 0 0))= .held V[i].v from λr h=>by
     have hm:=(aW (N.zip L)).mem_iff.1 (List.getElem_mem h)
     obtain⟨i,hi,e⟩:=List.getElem_of_mem hm
     rw [List.length_zip] at hi
     have h1:i<N.length:=by omega
     have h2:i<V.length:=by rw [<-HM.o,HN.o];exact h1
     refine⟨i,h1,h2,?_,?_⟩
     ·rw [<-e,List.getElem_zip,Mm.o i h2 (by omega)]
     ·refine FD (p:=(N[i],V[i].v)) ?_ ?_ _
      ·rw [lw (by rw [<-HN.o,HM.o])]
       exact(LS ▸ LU).sublist (List.take_sublist _ _)
      ·unfold dG
       rw [List.take_of_length_le (by simp;have:=HN.o;omega)]
       have hz:i<(N.zip (V.map Sl.v)).length:=by simp;omega
       have:(N.zip (V.map Sl.v))[i]=(N[i],V[i].v):=by rw [List.getElem_zip,List.getElem_map]
       rw [<-this];exact List.getElem_mem hz)
    have HFS:=O (show∀r,(zY ((cO (N.zip L)).take r)).length<=(zY (N.zip L)).length from λr=>Nat.le_trans (oK _ r) (by rw [iD (aW _)];exact Nat.le_refl _));have HFA:=O (show(zY (cO (N.zip L))).length=(zY (N.zip L)).length from by rw [iD (aW _)]);have wN:=O (show∀x∈N.zip L,x.1.size<=maxLen/\jZ x.2 from λx hx=>by
     obtain⟨i,hi,rfl⟩:=List.getElem_of_mem hx
     rw [List.length_zip] at hi
     have h1:i<N.length:=by omega
     have h2:i<V.length:=by rw [<-HM.o,HN.o];exact h1
     rw [List.getElem_zip,Mm.o i h2 (by omega)]
     obtain⟨-,-,-,q⟩:=HV.o.at (k:=i) h2
     exact⟨HZ.o _ (List.getElem_mem h1),q.ok⟩)
    have IZ:=O (λh:cb N L=0=>xB h);have HMEM:=O (show∀x∈cO (N.zip L),x∈N.zip L from λx hx=>(aW _).mem_iff.1 hx);generalize hSS:cO (N.zip L)=S at *;generalize ig (dG N V k)=D at *;clear hC hF LU LS hSS Lp HR;have R0:=O (xw wr (zP n));obtain⟨w0,rfl⟩:∃w0:World,w0=wr:=⟨_,rfl⟩
    have B1:=O ((Below.refl w0.heap.size w0).alloc (Nat.le_refl _) (.cells #[.int .i64 (zP n).op,.int .i64 (zP n).n,.string (zP n).s,.string (zP n).t] 47));have B2:=O (B1.o.alloc B1.o.size (.cells #[.slice A n c] 38));have CS:=O (uA (w0.heap.size+1) w.heap.size A c N (by rw [<-HN.o];omega) ((w0.alloc (.cells #[.int .i64 (zP n).op,.int .i64 (zP n).n,.string (zP n).s,.string (zP n).t] 47)).alloc (.cells #[.slice A n c] 38)) (by simp) (Nat.le_trans hB.o.size B2.o.size)
     (by have:=(Boxed.new (w0.alloc (.cells #[.int .i64 (zP n).op,.int .i64 (zP n).n,.string (zP n).s,.string (zP n).t] 47)) 38 (.slice A n c)).cell;rw [World.size_alloc] at this;rw [<-HN.o];exact this) (HT.o.keep (hB.o.trans (B2.o.mono hB.o.size))) (λa ha h0=>by
      obtain⟨b,hb,q⟩:=HT.o 0 N[0] (List.getElem?_eq_getElem h0)
      rw [ha] at hb
      injection hb with hb
      subst hb
      have:=block_lt_of_cell q
      rwa [cD] at this))
    go_wp2_with fail;refine(callsIn_wide.1 (Aq Fence.wide 5 trivial rfl _ _ _ _)).mono ?_;rintro e w2 ⟨rfl,rfl⟩;rw [World.size_alloc];go_wp2_with fail;refine(CS.o).mono ?_;rintro e w3 ⟨v,rfl,hrow,hb⟩;rw [HSN.o] at hrow;obtain⟨A5,c5,rfl,-⟩:=fZ hrow;have Le:=O hrow;have B3:=O (B2.o.trans (hb.mono B2.o.size));have O3:=O (jr hO.o (B3.o));have B4:=O (hB.o.trans (B3.o.mono hB.o.size));have R3:=O (((R0.o.alloc (.cells #[.slice A n c] 38)).kept (zj hb none) (by simp [Value.ownBlock])));clear hrow CS HSN B1 B2 hb R0;have AL:=O HN.o.symm;rw [<-HN.o];have hfn:w.heap.size<w0.heap.size:=hO.o.lt;go_wp2_with fail;generalize hB5:((w0.alloc (.cells #[.int .i64 (zP n).op,.int .i64 (zP n).n,.string (zP n).s,.string (zP n).t] 47)).alloc (.cells #[.slice A n c] 38)).heap.size=B5 at *;clear hB5;go_loopw [13,15,66] (λo _ i wk=>∃r:Nat,r<=n/\i = .int .i64 r/\(zP n :: zY (S.take r)).length<=200/\Hid (wk.ownsRow w0.heap.size 47 4 o (zP n :: zY (S.take r)).length (zH (zP n :: zY (S.take r))))/\Hid (wk.ownsRow B5 9 1 (.slice A5 n c5) n (S.map λx=>Value.string x.1))/\Hid (Below w0.heap.size w0 wk)) (λ_ _ i _=>n-(intOf i).toNat)
    case atStart=>exact⟨0,Nat.zero_le _,rfl,by simp [zY],R3,O (by have:=Le.o;rw [<-HN.o] at this;exact this),B3⟩
    case round =>
     clear R3 Le O3;obtain⟨r,hr,rfl,hl2,hR,hS,I4⟩:=hrel;by_cases hlr:r<n
     ·have hr1:r<S.length:=by omega
      obtain⟨i,h1,h2,eS,hat⟩:=HIX.o r hr1;obtain⟨A6,c6,e6,hc6⟩:=fZ hS.o;injection e6 with ea _ ec;subst ea;obtain⟨a,rfl,c0⟩:=hc6 r (.string S[r].1) (by rw [List.getElem?_map,List.getElem?_eq_getElem hr1];rfl);clear hc6 ec;have BW:=O (hB.o.trans (I4.o.mono hB.o.size));obtain⟨b,hb',q,hs⟩:=(HV.o.keep BW.o).at h2;have hv:=HVF.o i h2;obtain⟨hv2,hV2⟩:=zL.1 hv;obtain⟨a2,ea,-⟩:=hs.at_.nd hV2.pos;have GR:=O hs.len;have hrn:V[i].n<=200:=by rw [hs.len];exact hv2
      have HSL:=O hs;have EA:=O ea;have GQ:=O (show zP n :: zY (S.take (r+1))=((zP n :: zY (S.take r))++ [cF N[i]])++ V[i].P by
       rw [vX S r hr1,eS];simp)
      rw [eS] at c0;have Jj:=O hat;have zi:=HZ.o _ (List.getElem_mem h1);have HK:=O (show keyOf Tryz.prog 9 (.string N[i])=some (kg N[i]) from WideMaps.keyOf_string_mk Tryz.underlying9 zi);have RK:=hR;generalize hX:zP n :: zY (S.take r)=X at RK GQ hl2;have hsz:=I4.o.size;clear hX hs hv hv2 hV2 ea hR eS hat q hb';go_wp2_with (at_builtin;refine wpList_append_own _ rfl _ _ 30 rfl w0.heap.size 47 i0 _ 4 48 Tryz.underlying30 hi hz0 hz1 hz2 rfl (by decide) _ X.length (zH X) rfl (RK.o.alloc _) ⟨_,0,none⟩ 1 1 (zH [cF N[i]]) rfl rfl (bW _ _ _) (bR _) ?c1 ?c2 ?c3 ?_)
      case c1=>unfold maxLen;omega
      case c2=>omega
      case c3=>first|omega|(simp;omega)
      intro v1 w6 hown hgrow _;have B6:=O ((I4.o.alloc I4.o.size _).grown hgrow (by simp;omega) (λg hg=>by have:=jb RK.o g hg;omega));have S6:=O ((hS.o.alloc _).kept hgrow (by have:=mS hS.o RK.o (by decide);exact this));have O6:=O (jr hO.o B6.o);have BW6:=O (hB.o.trans (B6.o.mono hB.o.size));have OW:=O (show w6.ownsRow w0.heap.size 47 4 v1 (X ++ [cF N[i]]).length (zH (X ++ [cF N[i]])) by
       rw [List.length_append,bi];exact hown)
      have Mh:(X ++ [cF N[i]]).length<=201:=by simp;omega
      have HC6:=O (show∀j u,(zH V[i].P)[j]?=some u->w6.cell? (a2.add j)=some u from by
       obtain⟨b6,hb6,q6,Jg⟩:=(HV.o.keep BW6.o).at h2
       have:=Jg.at_
       rw [EA.o] at this
       exact this.cells)
      have EV:V[i].v = .slice (some a2) V[i].n V[i].c:=by unfold Sl.v;rw [EA.o]
      rw [EV] at Jj;clear hown hgrow RK hS I4 HSL BW c0;generalize hX1:X ++ [cF N[i]]=X1 at OW GQ Mh;clear hX1;have hsz6:=B6.o.size;go_wp2_with (first|(at_lookup;refine im _ rfl _ _ 229 rfl 9 30 mN Tryz.underlying229 (sE _) w.heap.size k _ rfl O6.o _ _ rfl HK.o _ Jj.o ?_)|(at_builtin;refine wpList_append_own _ rfl _ _ 30 rfl w0.heap.size 47 i0 _ 4 48 Tryz.underlying30 hi hz0 hz1 hz2 rfl (by decide) _ X1.length (zH X1) rfl OW.o a2 V[i].n V[i].c (zH V[i].P) rfl (by simp [az,GR.o]) HC6.o (bR _) ?c1 ?c2 ?c3 ?_))
      case c1=>unfold maxLen;omega
      case c2=>omega
      case c3=>omega
      intro v2 w7 hown2 hgrow2 _;have B7:=O (B6.o.grown hgrow2 (by omega) (λg hg=>by have:=jb OW.o g hg;omega));have S7:=O (S6.o.kept hgrow2 (mS S6.o OW.o (by decide)));have K9:=O (show w7.ownsRow w0.heap.size 47 4 v2 (X1 ++ V[i].P).length (zH (X1 ++ V[i].P)) by
       rw [List.length_append,bi,<-GR.o];exact hown2)
      rw [<-GQ.o] at K9;have BW7:=O (hB.o.trans (B7.o.mono hB.o.size));have hf:=HFS.o (r+1);obtain⟨A7,c7,rfl,-,-,-⟩:=a6 K9.o;clear hown2 hgrow2 OW B6 GQ S6 O6 BW6 HC6 Jj;by_cases cR:200<(zP n :: zY (S.take (r+1))).length
      ·have HE:=O (show cb N L=4 by
        rw [HRE.o,if_pos (by simp at cR;omega)])
       generalize (zP n :: zY (S.take (r+1))).length=G at cR;go_wp2_with fail;go_ret2;exact iH HE.o (by decide) BW7.o
      ·have hl7:(zP n :: zY (S.take (r+1))).length<=200:=by omega
       obtain⟨G,hG⟩:∃G,G=(zP n :: zY (S.take (r+1))).length:=⟨_,rfl⟩
       have OW3:=K9;rw [<-hG] at cR OW3;rw [<-hG];have HG:=O hG;clear hG;go_wp2_with fail;go_roundw
       case rel=>exact⟨r+1,by omega,by go_num,hl7,by rw [HG.o];exact K9,S7,B7⟩
       case measure=>simp [intOf];omega
     ·have Km:=O (show S.take r=S from List.take_of_length_le (by omega));rw [Km.o] at hl2 hR;have HE:=O (show cb N L=0 by
       rw [HRE.o,if_neg (by have:=HFA.o;simp at hl2;omega)])
      obtain⟨A8,c8,rfl,hc8,hA8,hF8⟩:=a6 hR.o;have HF8:=O (show∀a,A8=some a->w.heap.size<=a.block from λa e=>Nat.le_trans hB.o.size (hF8 a e));have NN:=O (show Ns wr A8 (zP n :: zY S).length c8 (gP N L) by
       rw [IZ.o HE.o,<-HN.o]
       refine⟨rfl,hc8,by unfold maxLen;omega,hA8,?_⟩
       intro x hx
       rcases List.mem_cons.1 hx with rfl|hx
       ·exact⟨Nat.zero_le _,Nat.zero_le _,by show _<=(n:Int);omega,by show(n:Int)<=_;omega⟩
       ·exact CZ (Z:=S) (λy hy=>wN.o y (HMEM.o y hy)) x hx)
      have BW:=O (hB.o.trans (I4.o.mono hB.o.size));clear hR hS hc8 hA8 hF8;go_wp2_with fail;go_ret2;exact⟨A8,_,c8,by rw [HE.o];rfl,NN.o,HF8.o,BW.o⟩
 ·have HE:=O (show cb N (V.map Sl.P)=1 by unfold cb;rw [if_neg (by rw [List.length_map,<-hn,<-hm];exact Ed)]);have e0:(n != m)=true:=by rw [bne_iff_ne];exact Ed
  clear Ed hn hm;go_enter Tryz.func116,Tryz.ntmps116;go_wp2_with fail;go_ret2;exact iH (x:=1) HE.o (by decide) (Below.refl _ _)
end Go.Proofs.YthidiimbeaabhaaGreatDoor
namespace Go.Proofs.YthidiimbeaabhaaGreatDoor
open Go.RowKit Go.Extern.Stop Go.Stop Go.Extern
theorem CO(t:Addr)(w:World):(ReflectliteValue.unpack (.iface 184 (.pointer (some t)))).run Tryz.prog w
 = .ok (.agg #[.pointer (some ⟨2,184,none⟩),.pointer (some ⟨w.heap.size,0,none⟩),.int .u64 150]) (w.alloc (.cells #[.pointer (some t)] 184)):=by kernel_rfl
theorem Jo(a:Addr)(w:World):(ReflectliteValue.methodAny (ReflectliteValue.valueError "reflectlite.Value.Type" 0) (λt _ _ _=>ReflectliteType.toType t) #[.agg #[.pointer (some ⟨2,184,none⟩),.pointer (some a),.int .u64 150]]).run Tryz.prog w
 = .ok (.iface 267 (.agg #[.pointer (some ⟨2,184,none⟩)])) w:=by kernel_rfl
theorem wi(h:Value)(w:World):(Go.method 496 267 (.agg #[h]) "Kind").run Tryz.prog w = .ok (243,h) w:=by kernel_rfl
theorem Jr(w:World):((ReflectliteType.abiMethod λt=>(λa:Nat=>Value.int IntKind.u8 (a:Int))<$> Rtype.kind t) #[.pointer (some ⟨2,184,none⟩)]).run Tryz.prog w = .ok (.int .u8 22) w:=by kernel_rfl
theorem Jv(w:World):((ReflectliteType.abiMethod λt=>(λa:Nat=>Value.int IntKind.u8 (a:Int))<$> Rtype.kind t) #[.pointer (some ⟨2,80,none⟩)]).run Tryz.prog w = .ok (.int .u8 2) w:=by kernel_rfl
theorem rlm(z:Sem Value)(f:TypeId->Addr->Nat->Nat->Sem Value)(v:Value):
 ReflectliteValue.method z f #[v]=(do match <-ReflectliteValue.parts v with|none=>z|some (t,a,fl)=>f t a fl (fl % 32)):=rfl
theorem DI(a:Addr)(w:World):(ReflectliteValue.parts (.agg #[.pointer (some ⟨2,184,none⟩),.pointer (some a),.int .u64 150])).run Tryz.prog w = .ok (some (184,a,150)) w:=by kernel_rfl
theorem It(a p:Addr)(W:World)(ha:W.cell? a=some (.pointer (some p))):
 (ReflectliteValue.method (ReflectliteValue.valueError "reflectlite.Value.IsNil" 0) ReflectliteValue.isNil #[.agg #[.pointer (some ⟨2,184,none⟩),.pointer (some a),.int .u64 150]]).run Tryz.prog W = .ok (.bool false) W:=by
 rw [rlm];simp only [Sem.run_bind,DI,Result.andThen];simp [ReflectliteValue.isNil,loadVar,isAgg,underlying,Tryz.underlying184,ha,Result.andThen]
theorem Ho(h:Value)(w:World):(Go.method 496 267 (.agg #[h]) "Elem").run Tryz.prog w = .ok (253,.agg #[h]) w:=by kernel_rfl
theorem kH(h:Value)(w:World):(Go.method 496 267 (.agg #[h]) "Implements").run Tryz.prog w = .ok (254,.agg #[h]) w:=by kernel_rfl
theorem iq(h:Value)(w:World):(Go.method 496 267 (.agg #[h]) "AssignableTo").run Tryz.prog w = .ok (251,.agg #[h]) w:=by kernel_rfl
theorem Jp(w:World):(ReflectliteType.method ReflectliteType.elem #[.agg #[.pointer (some ⟨2,184,none⟩)]]).run Tryz.prog w = .ok (.iface 267 (.agg #[.pointer (some ⟨2,80,none⟩)])) w:=by kernel_rfl
theorem tz(w:World):(ReflectliteType.relation "Implements" ReflectliteType.implements_ #[.agg #[.pointer (some ⟨2,80,none⟩)],.iface 267 (.agg #[.pointer (some ⟨2,35,none⟩)])]).run Tryz.prog w = .ok (.bool true) w:=by kernel_rfl
theorem Gj(v:Value)(w:World):(ReflectliteType.typeOf #[.iface 80 v]).run Tryz.prog w = .ok (.iface 267 (.agg #[.pointer (some ⟨2,80,none⟩)])) w:=by kernel_rfl
theorem uw(w:World):(ReflectliteType.relation "AssignableTo" ReflectliteType.assignableTo #[.agg #[.pointer (some ⟨2,80,none⟩)],.iface 267 (.agg #[.pointer (some ⟨2,80,none⟩)])]).run Tryz.prog w = .ok (.bool true) w:=by kernel_rfl
theorem Bj(n:Int)(w:World):(ReflectliteValue.unpack (.iface 80 (.int .i64 n))).run Tryz.prog w
 = .ok (.agg #[.pointer (some ⟨2,80,none⟩),.pointer (some ⟨w.heap.size,0,none⟩),.int .u64 130]) (w.alloc (.cells #[.int .i64 n] 80)):=by kernel_rfl
theorem FC(w:World):(Rtype.elem? 184).run Tryz.prog w = .ok (some 80) w:=by kernel_rfl
theorem mkE(p:Addr)(w:World):(ReflectliteValue.mk 80 p ReflectliteValue.flagAddr).run Tryz.prog w = .ok (.agg #[.pointer (some ⟨2,80,none⟩),.pointer (some p),.int .u64 386]) w:=by kernel_rfl
theorem Ik(a p:Addr)(W:World)(ha:W.cell? a=some (.pointer (some p))):
 (ReflectliteValue.method (ReflectliteValue.valueError "reflectlite.Value.Elem" 0) ReflectliteValue.elem #[.agg #[.pointer (some ⟨2,184,none⟩),.pointer (some a),.int .u64 150]]).run Tryz.prog W
  = .ok (.agg #[.pointer (some ⟨2,80,none⟩),.pointer (some p),.int .u64 386]) W:=by
 rw [rlm];simp only [Sem.run_bind,DI,Result.andThen];simp [ReflectliteValue.elem,loadVar,isAgg,underlying,Tryz.underlying184,ha,Result.andThen,FC,mkE]
theorem rls(v x:Value):ReflectliteValue.set #[v,x]=(do
 let (some (dst,a,fl),some (src,b,_)):=(<-ReflectliteValue.parts v,<-ReflectliteValue.parts x)
  | unsupported (.noEntry "extern/(internal/reflectlite.Value).Set.zeroValue")
 if fl / ReflectliteValue.flagAddr % 2==0 then unsupported (.noEntry "extern/(internal/reflectlite.Value).Set.unaddressable")
 let val <-loadVar src b
 if <-Rtype.directlyAssignable dst src then storeVar dst a val
 else if <-Rtype.implements dst src then
  if(<-Rtype.kind src)==20 then
   match val with
   | .nilIface=>unsupported (.noEntry "extern/reflectlite: a nil value of one interface type handed on as a value of another")
   | _=>storeVar dst a val
  else storeVar dst a (.iface src val)
 else panicString ("reflectlite.Set: value of type " ++(<-Rtype.spelt src)++ " is not assignable to type " ++(<-Rtype.spelt dst))
 pure (.tuple #[])):=rfl
theorem EE(a:Addr)(w:World):(ReflectliteValue.parts (.agg #[.pointer (some ⟨2,80,none⟩),.pointer (some a),.int .u64 386])).run Tryz.prog w = .ok (some (80,a,386)) w:=by kernel_rfl
theorem Is(a:Addr)(w:World):(ReflectliteValue.parts (.agg #[.pointer (some ⟨2,80,none⟩),.pointer (some a),.int .u64 130])).run Tryz.prog w = .ok (some (80,a,130)) w:=by kernel_rfl
theorem FM(w:World):(Rtype.directlyAssignable 80 80).run Tryz.prog w = .ok true w:=by kernel_rfl
theorem Hm(ta b:Addr)(n:Int)(old:Value)(W:World)(hb:W.cell? b=some (.int .i64 n))(ht:W.cell? ta=some old)(hf:W.frozen? ta=false):
 (ReflectliteValue.set #[.agg #[.pointer (some ⟨2,80,none⟩),.pointer (some ta),.int .u64 386],.agg #[.pointer (some ⟨2,80,none⟩),.pointer (some b),.int .u64 130]]).run Tryz.prog W
  = .ok (.tuple #[]) (W.setCell ta (.int .i64 n)):=by
 rw [rls];simp only [Sem.run_bind,EE,Is,Result.andThen];simp [ReflectliteValue.flagAddr,loadVar,isAgg,underlying,Tryz.underlying80,hb,Result.andThen,FM,storeVar,Value.cells,storeCells,Addr.add];rw [run_store Tryz.prog W ta _ _ (by rfl)];simp [ht,hf]
theorem wj(n:Int)(t:Addr)(old:Value)(w:World)(hg:w.cell? ⟨0,0,none⟩=some (.iface 267 (.agg #[.pointer (some ⟨2,35,none⟩)])))(Kq:w.cell? t=some old)(hf0:w.frozen? t=false):
 Calls Tryz.prog 117 #[.iface 80 (.int .i64 n),.iface 184 (.pointer (some t))] w λev w'=>ev = .returned (.bool true)/\w'=(((((w.alloc (.cells #[.pointer (some t)] 184)).alloc (.cells #[.pointer (some ⟨2,184,none⟩),.pointer (some ⟨w.heap.size,0,none⟩),.int .u64 150] 238)).alloc (.cells #[.pointer (some ⟨2,184,none⟩),.pointer (some ⟨w.heap.size,0,none⟩),.int .u64 150] 238)).alloc (.cells #[.int .i64 n] 80)).setCell t (.int .i64 n)):=by
 have h6:=@run_callFunc_extern Tryz.prog 146 _ (λargs=>ReflectliteValue.unpack (args.getD 0 (.tuple #[]))) Tryz.func146 (by kernel_rfl) (by kernel_rfl) (by kernel_rfl) (by kernel_rfl);have h7:=@run_callFunc_extern Tryz.prog 147 _ (ReflectliteValue.methodAny (ReflectliteValue.valueError "reflectlite.Value.Type" 0) (λt _ _ _=>ReflectliteType.toType t)) Tryz.func147 (by kernel_rfl) (by kernel_rfl) (by kernel_rfl) (by kernel_rfl)
 have h8:=@run_callFunc_extern Tryz.prog 148 _ (ReflectliteValue.method (ReflectliteValue.valueError "reflectlite.Value.IsNil" 0) ReflectliteValue.isNil) Tryz.func148 (by kernel_rfl) (by kernel_rfl) (by kernel_rfl) (by kernel_rfl)
 have h27:=@run_callFunc_extern Tryz.prog 243 _ (ReflectliteType.abiMethod λt=>do pure (.int .u8 (<-Rtype.kind t))) Tryz.func243 (by kernel_rfl) (by kernel_rfl) (by kernel_rfl) (by kernel_rfl);have h37:=@run_callFunc_extern Tryz.prog 253 _ (ReflectliteType.method ReflectliteType.elem) Tryz.func253 (by kernel_rfl) (by kernel_rfl) (by kernel_rfl) (by kernel_rfl);have h38:=@run_callFunc_extern Tryz.prog 254 _ (ReflectliteType.relation "Implements" ReflectliteType.implements_) Tryz.func254 (by kernel_rfl) (by kernel_rfl) (by kernel_rfl) (by kernel_rfl)
 have h10:=@run_callFunc_extern Tryz.prog 173 _ (ReflectliteType.typeOf) Tryz.func173 (by kernel_rfl) (by kernel_rfl) (by kernel_rfl) (by kernel_rfl);have h35:=@run_callFunc_extern Tryz.prog 251 _ (ReflectliteType.relation "AssignableTo" ReflectliteType.assignableTo) Tryz.func251 (by kernel_rfl) (by kernel_rfl) (by kernel_rfl) (by kernel_rfl)
 have h11:=@run_callFunc_extern Tryz.prog 174 _ (ReflectliteValue.method (ReflectliteValue.valueError "reflectlite.Value.Elem" 0) ReflectliteValue.elem) Tryz.func174 (by kernel_rfl) (by kernel_rfl) (by kernel_rfl) (by kernel_rfl)
 have h12:=@run_callFunc_extern Tryz.prog 175 _ (ReflectliteValue.set) Tryz.func175 (by kernel_rfl) (by kernel_rfl) (by kernel_rfl) (by kernel_rfl);have tO:=Gj;have mA:=iq;have a25:=uw;have v25:=Bj;have f6:=CO;have f7:=Jo;have mK:=wi;have mE:=Ho;have mI:=kH;have k27:=Jr;have k25:=Jv;have e27:=Jp;have i25:=tz;have n8:=It ⟨w.heap.size,0,none⟩ t ((w.alloc (.cells #[.pointer (some t)] 184)).alloc (.cells #[.pointer (some ⟨2,184,none⟩),.pointer (some ⟨w.heap.size,0,none⟩),.int .u64 150] 238)) (by simp);have hlt:0<w.heap.size:=by
  rcases Nat.eq_zero_or_pos w.heap.size with h0|h
  ·simp [World.cell?,h0] at hg
  ·exact h
 have hg2:((w.alloc (.cells #[.pointer (some t)] 184)).alloc (.cells #[.pointer (some ⟨2,184,none⟩),.pointer (some ⟨w.heap.size,0,none⟩),.int .u64 150] 238)).cell? ⟨0,0,none⟩=some (.iface 267 (.agg #[.pointer (some ⟨2,35,none⟩)])):=by
  rw [World.cell?_alloc_lt _ _ ⟨0,0,none⟩ (by simp),World.cell?_alloc_lt _ _ ⟨0,0,none⟩ hlt];exact hg
 have htl:t.block<w.heap.size:=by
  rcases Nat.lt_or_ge t.block w.heap.size with h|h
  ·exact h
  ·simp [World.cell?,Array.getElem?_eq_none h] at Kq
 have el:=Ik ⟨w.heap.size,0,none⟩ t (((w.alloc (.cells #[.pointer (some t)] 184)).alloc (.cells #[.pointer (some ⟨2,184,none⟩),.pointer (some ⟨w.heap.size,0,none⟩),.int .u64 150] 238)).alloc (.cells #[.pointer (some ⟨2,184,none⟩),.pointer (some ⟨w.heap.size,0,none⟩),.int .u64 150] 238)) (by rw [World.cell?_alloc_lt _ _ ⟨w.heap.size,0,none⟩ (by simp;omega)];simp);have st:=Hm t ⟨w.heap.size+1+1+1,0,none⟩ n old ((((w.alloc (.cells #[.pointer (some t)] 184)).alloc (.cells #[.pointer (some ⟨2,184,none⟩),.pointer (some ⟨w.heap.size,0,none⟩),.int .u64 150] 238)).alloc (.cells #[.pointer (some ⟨2,184,none⟩),.pointer (some ⟨w.heap.size,0,none⟩),.int .u64 150] 238)).alloc (.cells #[.int .i64 n] 80))
  (by rw [World.cell?_alloc_at _ _ _ _ (by simp)];rfl)
  (by rw [World.cell?_alloc_lt _ _ t (by simp;omega),World.cell?_alloc_lt _ _ t (by simp;omega),World.cell?_alloc_lt _ _ t (by simp;omega),World.cell?_alloc_lt _ _ t htl];exact Kq)
  (by rw [World.frozen?_alloc_old _ _ t (by simp;omega),World.frozen?_alloc_old _ _ t (by simp;omega),World.frozen?_alloc_old _ _ t (by simp;omega),World.frozen?_alloc_old _ _ t (Nat.ne_of_lt htl)];exact hf0)
 go_enter Tryz.func117,Tryz.ntmps117;go_wp2;refine wp_loop_rounds 1 ?_;rw [rounds_succ];go_wp2;go_ret;exact⟨rfl,rfl⟩
end Go.Proofs.YthidiimbeaabhaaGreatDoor
namespace Go.Proofs.YthidiimbeaabhaaGreatDoor
open Go.RowKit
def aU(w:World):Prop:=w.cell? ⟨0,0,none⟩=some (.iface 267 (.agg #[.pointer (some ⟨2,35,none⟩)]))
theorem aU.keep{w w':World}(h:aU w)(hb:Below w.heap.size w w'):aU w':=zb hb h
theorem aU.pos{w:World}(h:aU w):0<w.heap.size:=block_lt_of_cell h
theorem aU.alloc{w:World}(h:aU w)(o:Obj):aU (w.alloc o):=h.keep ((Below.refl _ _).alloc (Nat.le_refl _) _)
theorem aU.drewN{w:World}(h:aU w)(n:Nat):aU (w.drewN n):=h
theorem aU.drew{w:World}(h:aU w):aU w.drew:=h
end Go.Proofs.YthidiimbeaabhaaGreatDoor
namespace Go.Proofs.YthidiimbeaabhaaGreatDoor
open Go.RowKit Go.Wk Go.Sort
structure Cx where
 EA:Option Addr
 en:Nat
 ec:Nat
 E:List En
 q:Rq
 A:Option Addr
 n:Nat
 c:Nat
 P:List Nd
def Cx.env(k:Cx):Env:=⟨k.E,k.q.who,k.q.act,k.q.what,k.q.P⟩
structure yw(w:World)(k:Cx):Prop where
 es:Es w k.EA k.en k.ec k.E
 rq:dT w k.q
 ns:Ns w k.A k.n k.c k.P
 door:aU w
 ok:ee k.env
theorem yw.keep{w w':World}{k:Cx}(h:yw w k)(hb:Below w.heap.size w w'):yw w' k:=⟨h.es.keep hb,h.rq.keep hb,h.ns.keep hb,h.door.keep hb,h.ok⟩
def Cx.row(k:Cx)(p:Int):Array Value:=#[.slice k.EA k.en k.ec,.string k.q.who.1,.string k.q.who.2,.string k.q.act.1,.string k.q.act.2,.string k.q.what.1,.string k.q.what.2,.slice k.q.NA k.q.nn k.q.nc,.slice k.A k.n k.c,.int .i64 p]
structure z7(W w:World)(R:Nat)(k:Cx)(p:Int):Prop where
 base:Below W.heap.size W w
 hi:W.heap.size<=R
 ok:yw W k
 row:∃t,w.heap[R]?=some (.cells (k.row p) t (0,0))
section
variable {W w w':World} {R:Nat} {k:Cx} {p:Int}
theorem z7.cx(h:z7 W w R k p):yw w k:=h.ok.keep h.base
theorem z7.cell(h:z7 W w R k p){j:Nat}{v:Value}(hj:(k.row p)[j]?=some v):w.cell? ⟨R,j,none⟩=some v:=by
 obtain⟨t,e⟩:=h.row;exact zr e hj
theorem z7.c0(h:z7 W w R k p):w.cell? ⟨R,0,none⟩=some (.slice k.EA k.en k.ec):=h.cell rfl
theorem z7.c1(h:z7 W w R k p):w.cell? ⟨R,1,none⟩=some (.string k.q.who.1):=h.cell rfl
theorem z7.c2(h:z7 W w R k p):w.cell? ⟨R,2,none⟩=some (.string k.q.who.2):=h.cell rfl
theorem z7.c3(h:z7 W w R k p):w.cell? ⟨R,3,none⟩=some (.string k.q.act.1):=h.cell rfl
theorem z7.c4(h:z7 W w R k p):w.cell? ⟨R,4,none⟩=some (.string k.q.act.2):=h.cell rfl
theorem z7.c5(h:z7 W w R k p):w.cell? ⟨R,5,none⟩=some (.string k.q.what.1):=h.cell rfl
theorem z7.c6(h:z7 W w R k p):w.cell? ⟨R,6,none⟩=some (.string k.q.what.2):=h.cell rfl
theorem z7.c7(h:z7 W w R k p):w.cell? ⟨R,7,none⟩=some (.slice k.q.NA k.q.nn k.q.nc):=h.cell rfl
theorem z7.c8(h:z7 W w R k p):w.cell? ⟨R,8,none⟩=some (.slice k.A k.n k.c):=h.cell rfl
theorem z7.c9(h:z7 W w R k p):w.cell? ⟨R,9,none⟩=some (.int .i64 p):=h.cell rfl
theorem z7.lt(h:z7 W w R k p):R<w.heap.size:=block_lt_of_cell h.c9
theorem z7.z(h:z7 W w R k p)(j:Nat):w.frozen? ⟨R,j,none⟩=false:=by
 obtain⟨t,e⟩:=h.row;unfold World.frozen?;rw [e];simp
theorem z7.keep(h:z7 W w R k p)(hb:Below w.heap.size w w'):z7 W w' R k p:=by
 obtain⟨t,e⟩:=h.row;exact⟨h.base.trans (hb.mono h.base.size),h.hi,h.ok,t,(hb.block R h.lt).trans e⟩
theorem z7.put(h:z7 W w R k p)(q:Int):z7 W (w.setCell ⟨R,9,none⟩ (.int .i64 q)) R k q:=by
 obtain⟨b,hi,ok,t,e⟩:=h;refine⟨b.setCell (p:=⟨R,9,none⟩) hi _,hi,ok,t,?_⟩;simp only [World.setCell];rw [Array.getElem?_modify];simp [e,Cx.row]
theorem z7.fork(h:z7 W w R k p){A:Option Addr}{n c:Nat}{V:List Nd}(hv:Ns w A n c V)(h0:0<V.length):∀a,A=some a->a.block≠R:=by
 intro a ha hR;subst ha;obtain⟨b,hb,q1,q2,-,-⟩:=hv.at_ 0 V[0] (List.getElem?_eq_getElem h0);injection hb with hb;subst hb;rw [show a.add (0*4)=a from rfl] at q1 q2;obtain⟨t,e⟩:=h.row;obtain⟨blk,off,spot⟩:=a;simp only at hR;subst hR;unfold World.cell? at q1 q2;simp only [e] at q1 q2;split at q1
 ·cases q1
 ·unfold Cx.row at q1 q2;rcases off with _|_|_|_|_|_|_|_|_|_|off <;> simp at q1 q2
theorem z7.ns(h:z7 W w R k p){A:Option Addr}{n c:Nat}{V:List Nd}(hv:Ns w A n c V)(hg:w.grownBy w' (some R)):Ns w' A n c V:=hv.but hg λh0 a e=>h.fork hv h0 a e
end
structure bJ(w:World)(R:Nat)(k:Cx):Prop where
 c0:w.cell? ⟨R,0,none⟩=some (.slice k.EA k.en k.ec)
 es:Es w k.EA k.en k.ec k.E
 door:aU w
 e:zQ k.E=0
theorem bJ.keep{w w':World}{R:Nat}{k:Cx}(h:bJ w R k)(hb:Below w.heap.size w w'):bJ w' R k:=⟨zb hb h.c0,h.es.keep hb,h.door.keep hb,h.e⟩
theorem z7.y{W w:World}{R:Nat}{k:Cx}{p:Int}(h:z7 W w R k p):bJ w R k:=⟨h.c0,h.cx.es,h.cx.door,h.ok.ok.e⟩
abbrev bz (k:Int):List PanicEntry := [{ v := .iface 80 (.int .i64 k),recovered:=false }]
def zT(w:World)(r:Res)(e:Ending)(w':World):Prop :=
 Below w.heap.size w w'/\match r with
  | .error x=>e = .panicked (bz x)
  | .ok V=>∃A n c,e = .returned (.slice A n c)/\Ns w' A n c V/\(∀a,A=some a->w.heap.size<=a.block)
def zU(W w:World)(R:Nat)(k:Cx)(q:Int)(r:Res)(e:Ending)(w':World):Prop :=
 w.grownBy w' (some R)/\match r with
  | .error x=>e = .panicked (bz x)
  | .ok V=>(∃A n c,e = .returned (.slice A n c)/\Ns w' A n c V/\(∀a,A=some a->a.block<W.heap.size\/w.heap.size<=a.block))/\z7 W w' R k q
def fq(W:World)(R:Nat)(k:Cx)(N:Nat):Prop :=
 ∀(x:Ex) (p:Nat) (w:World),z7 W w R k (p:Int)->XAt k.P p false x->x.flat.length<=N->
  Calls Tryz.prog 34 #[.pointer (some ⟨R,0,none⟩)] w (zU W w R k ((p+x.flat.length:Nat):Int) (evX k.env x))
theorem jY{w:World}{A:Option Addr}{n c:Nat}{V:List Nd}(h:Ns w A n c V)(h0:0<V.length):∃a,A=some a/\1<=n/\Nd4 w a (hdN V)/\fC (hdN V)/\zg V=(hdN V).op:=by
 obtain⟨a,ha,D⟩:=h.at_.nd h0;rw [show a.add (0*4)=a from rfl] at D;have e:hdN V=V[0]:=by
  cases V with
  | nil=>simp at h0
  | cons x r=>rfl
 refine⟨a,ha,by rw [h.len];exact h0,by rw [e];exact D,by rw [e];exact h.ok.at h0,?_⟩;rw [e];exact jx h0
theorem dI(A:Option Addr)(n c:Nat)(V:List Nd)(o:Int)(w:World)(h:Ns w A n c V)(h0:0<V.length):
 Calls Tryz.prog 115 #[.slice A n c,.int .i64 o] w λe w'=>e = .returned (.bool (zg V==o))/\Below w.heap.size w w':=by
 obtain⟨a,rfl,hn1,D,-,e⟩:=jY h h0;have d0:=D.c0;rw [e];have hn:(0:Int)<(n:Int):=by omega
 generalize hdN V=x at *;clear h D e;go_enter Tryz.func115,Tryz.ntmps115;go_wp2_with fail;go_ret;exact⟨rfl,Below.refl _ _⟩
theorem zB(A:Option Addr)(n c:Nat)(V:List Nd)(o:Int)(w:World)(h:Ns w A n c V)(h0:0<V.length):
 Calls Tryz.prog 84 #[.slice A n c,.int .i64 o] w λe w'=>e=(if zg V=o then .returned (.slice A n c) else .panicked (bz 2))/\Below w.heap.size w w':=by
 have K:=O (dI A n c V o w h h0);clear h h0;by_cases g:zg V=o
 ·rw [if_pos g];have f1:(zg V==o)=true:=beq_iff_eq.2 g;rw [f1] at K;clear f1 g;go_enter Tryz.func84,Tryz.ntmps84;go_wp2_with fail;refine K.o.mono ?_;rintro e w1 ⟨rfl,b1⟩;have B1:=O b1;clear b1 K;go_wp2_with fail;go_ret;exact⟨rfl,B1.o⟩
 ·rw [if_neg g];have f1:(zg V==o)=false:=beq_eq_false_iff_ne.2 g;rw [f1] at K;clear f1 g;go_enter Tryz.func84,Tryz.ntmps84;go_wp2_with fail;refine K.o.mono ?_;rintro e w1 ⟨rfl,b1⟩;have B1:=O b1;clear b1 K;go_wp2_with fail;exact⟨rfl,rfl,B1.o⟩
theorem zT.up{w w1 w2:World}{r:Res}{e:Ending}(h:zT w1 r e w2)(hb:Below w.heap.size w w1):zT w r e w2:=by
 refine⟨hb.trans (h.1.mono hb.size),?_⟩
 cases r with
 | error x=>exact h.2
 | ok V =>
  obtain⟨A,n,c,he,hN,hF⟩:=h.2
  exact⟨A,n,c,he,hN,λa ha=>Nat.le_trans hb.size (hF a ha)⟩
theorem js{w w1:World}{k:Int}(hb:Below w.heap.size w w1):zT w (.error k) (.panicked (bz k)) w1:=⟨hb,rfl⟩
theorem dd{V:List Nd}(h:zc V=0):0<V.length:=(zL.1 h).2.pos
theorem iY(w:World)(x:Nd)(hx:fC x):zT w (.ok [x]) (.returned (.slice (some ⟨w.heap.size,0,none⟩) 1 1)) (w.alloc (.cells #[.int .i64 x.op,.int .i64 x.n,.string x.s,.string x.t] 47)):=
 ⟨za w _,some ⟨w.heap.size,0,none⟩,1,1,rfl,dS w x hx,λa e=>by injection e with e;subst e;exact Nat.le_refl _⟩
theorem sX(op a b:Int):I64 (dr op a b):=by
 unfold dr;split
 ·split
  ·rename_i h;unfold cq at h;simpa [I64] using h
  ·unfold I64;omega
 ·unfold I64;omega
theorem nP(o n:Int)(h:I64 n):fC ⟨o,n,emp,emp⟩:=⟨Nat.zero_le _,Nat.zero_le _,h.1,h.2⟩
theorem jp(b:Bool)(w:World):Calls Tryz.prog 87 #[.bool b] w (zT w (.ok (zw b))):=by
 have T:=O (iY w ⟨1,if b then 1 else 0,emp,emp⟩ (nP _ _ (by cases b <;>(unfold I64;decide))));rcases b with _|_
 ·go_enter Tryz.func87,Tryz.ntmps87;go_wp2_with fail;go_ret;exact T.o
 ·go_enter Tryz.func87,Tryz.ntmps87;go_wp2_with fail;go_ret;exact T.o
theorem fG(u:Ud)(w:World)(h1:u.1.size<=maxLen)(h2:u.2.size<=maxLen):Calls Tryz.prog 83 #[.agg #[.string u.1,.string u.2]] w (zT w (.ok (aY u))):=by
 obtain⟨s,t⟩:=u;have T:=O ((iY (w.alloc (.cells #[.string s,.string t] 24)) ⟨4,0,s,t⟩ ⟨h1,h2,(show -9223372036854775808<=(0:Int) by decide),(show(0:Int)<=9223372036854775807 by decide)⟩).up (za w _));rw [World.size_alloc] at T;clear h1 h2;go_enter Tryz.func83,Tryz.ntmps83;go_wp2_with fail;go_ret;exact T.o
theorem mX(A:Option Addr)(n c:Nat)(V:List Nd)(w:World)(h:Ns w A n c V)(h0:0<V.length):
 Calls Tryz.prog 120 #[.slice A n c] w λe w'=>e = .returned (udV (jV V))/\Below w.heap.size w w':=by
 obtain⟨a,rfl,hn1,⟨d0,d1,d2,d3⟩,-,e⟩:=jY h h0;have hn:(0:Int)<(n:Int):=by omega
 unfold jV udV;generalize hdN V=x at *;clear h e;have B0:=za w (.cells #[.string ⟨#[]⟩,.string ⟨#[]⟩] 24);have hn0:0<n:=hn1;obtain⟨w0,hw0⟩:∃w0,w.alloc (.cells #[.string ⟨#[]⟩,.string ⟨#[]⟩] 24)=w0:=⟨_,rfl⟩
 have V0:=dN w (.string ⟨#[]⟩) (.string ⟨#[]⟩) 24;rw [hw0] at B0 V0;have e2:(⟨w0.heap,w0.tape,w0.drawn+1,w0.os,w0.output⟩:World).cell? ⟨a.block,a.off+2,none⟩=some (.string x.s):=zb B0 d2;have e3:(⟨w0.heap,w0.tape,w0.drawn+1,w0.os,w0.output⟩:World).cell? ⟨a.block,a.off+3,none⟩=some (.string x.t):=zb B0 d3;go_enter Tryz.func120,Tryz.ntmps120;go_wp2_with fail;have g2:=zb B0 d2;have g3:=zb B0 d3;clear e2 e3;obtain⟨v0,v1,z0,z1⟩:=V0;have hl:w.heap.size<w0.heap.size:=block_lt_of_cell v0;have hab:a.block<w.heap.size:=block_lt_of_cell d0;have k2:((w0.setCell ⟨w.heap.size,0,none⟩ (.string x.s)).setCell ⟨w.heap.size,1,none⟩ (.string x.t)).drew.cell? ⟨a.block,a.off+2,none⟩=some (.string x.s):=
  (World.cell?_setCell_other _ _ _ _ (by intro e;injection e with e;omega)).trans ((World.cell?_setCell_other _ _ _ _ (by intro e;injection e with e;omega)).trans g2)
 have k3:((w0.setCell ⟨w.heap.size,0,none⟩ (.string x.s)).setCell ⟨w.heap.size,1,none⟩ (.string x.t)).drew.cell? ⟨a.block,a.off+3,none⟩=some (.string x.t):=
  (World.cell?_setCell_other _ _ _ _ (by intro e;injection e with e;omega)).trans ((World.cell?_setCell_other _ _ _ _ (by intro e;injection e with e;omega)).trans g3)
 go_region_held3 (λw':World=>w'.cell? ⟨a.block,a.off+2,none⟩=some (.string x.s)/\w'.cell? ⟨a.block,a.off+3,none⟩=some (.string x.t)) (first|exact⟨g2,g3⟩|exact⟨k2,k3⟩) (fail);have u1:((w0.setCell ⟨w.heap.size,0,none⟩ (.string x.s)).setCell ⟨w.heap.size,1,none⟩ (.string x.t)).drew.cell? ⟨w.heap.size,1,none⟩=some (.string x.t):=
  World.cell?_setCell_same _ _ _ ((World.cell?_setCell_other w0 ⟨w.heap.size,0,none⟩ ⟨w.heap.size,1,none⟩ _ (by intro e;injection e with _ e;cases e)).trans v1)
 have u0:((w0.setCell ⟨w.heap.size,0,none⟩ (.string x.s)).setCell ⟨w.heap.size,1,none⟩ (.string x.t)).drew.cell? ⟨w.heap.size,0,none⟩=some (.string x.s):=
  (World.cell?_setCell_other _ _ _ _ (by intro e;injection e with _ e;cases e)).trans (World.cell?_setCell_same w0 _ _ v0)
 have B1:Below w.heap.size w ((w0.setCell ⟨w.heap.size,0,none⟩ (.string x.s)).setCell ⟨w.heap.size,1,none⟩ (.string x.t)).drew:=((B0.setCell (p:=⟨w.heap.size,0,none⟩) (Nat.le_refl _) _).setCell (p:=⟨w.heap.size,1,none⟩) (Nat.le_refl _) _).drew;generalize ((w0.setCell ⟨w.heap.size,0,none⟩ (.string x.s)).setCell ⟨w.heap.size,1,none⟩ (.string x.t)).drew=w2 at *;go_wp2_with fail;exact⟨rfl,.agg #[.string x.s,.string x.t],by simp [results,Tryz.results120,go_sem,u0,u1],rfl,B1⟩
theorem rP(v:Value)(w:World):Calls Tryz.prog 117 #[.nilIface,v] w λe w'=>e = .returned (.bool false)/\w'=w:=by
 go_enter Tryz.func117,Tryz.ntmps117;go_wp2_with fail;go_ret;exact⟨rfl,rfl⟩
theorem lk(v:Value)(n:Int)(w:World)(hg:aU w):Calls Tryz.prog 88 #[v,.iface 80 (.int .i64 n)] w λe w'=>e = .panicked (bz n)/\Below w.heap.size w w':=by
 have h1:=hg.alloc (.cells #[.int .i64 0] 80);have c1:=wj n ⟨w.heap.size,0,none⟩ (.int .i64 0) (w.alloc (.cells #[.int .i64 0] 80)) h1 (by simp) (by simp);have C1:=O c1;clear c1 h1;go_enter Tryz.func88,Tryz.ntmps88;go_wp2_with (go_at_call 117;refine C1.o.mono ?_;rintro e w' ⟨rfl,rfl⟩);exact⟨rfl,rfl,(by(repeat' (first|exact Below.refl _ _|refine Below.alloc ?_ ?_ _|refine Below.setCell ?_ ?_ _|refine Below.drew ?_|refine Below.drewN ?_ _))<;>(try simp)<;> omega)⟩
theorem lr(v:Value)(w:World):Calls Tryz.prog 88 #[v,.nilIface] w λe w'=>e = .returned v/\Below w.heap.size w w':=by
 have C1:=O (λx w=>rP x w);go_enter Tryz.func88,Tryz.ntmps88;go_wp2_with (go_at_call 117;refine(C1.o _ _).mono ?_;rintro e w' ⟨rfl,rfl⟩);go_ret;exact⟨rfl,za _ _⟩
theorem df(v:Value)(n:Int)(w:World)(hg:aU w):Calls Tryz.prog 90 #[v,.iface 80 (.int .i64 n)] w λe w'=>e = .panicked (bz n)/\Below w.heap.size w w':=by
 have h1:=hg.alloc (.cells #[.int .i64 0] 80);have c1:=wj n ⟨w.heap.size,0,none⟩ (.int .i64 0) (w.alloc (.cells #[.int .i64 0] 80)) h1 (by simp) (by simp);have C1:=O c1;clear c1 h1;go_enter Tryz.func90,Tryz.ntmps90;go_wp2_with (go_at_call 117;refine C1.o.mono ?_;rintro e w' ⟨rfl,rfl⟩);exact⟨rfl,rfl,(by(repeat' (first|exact Below.refl _ _|refine Below.alloc ?_ ?_ _|refine Below.setCell ?_ ?_ _|refine Below.drew ?_|refine Below.drewN ?_ _))<;>(try simp)<;> omega)⟩
theorem ck(v:Value)(w:World):Calls Tryz.prog 90 #[v,.nilIface] w λe w'=>e = .returned v/\Below w.heap.size w w':=by
 have C1:=O (λx w=>rP x w);go_enter Tryz.func90,Tryz.ntmps90;go_wp2_with (go_at_call 117;refine(C1.o _ _).mono ?_;rintro e w' ⟨rfl,rfl⟩);go_ret;exact⟨rfl,za _ _⟩
theorem fS(v:Value)(n:Int)(w:World)(hg:aU w):Calls Tryz.prog 94 #[v,.iface 80 (.int .i64 n)] w λe w'=>e = .panicked (bz n)/\Below w.heap.size w w':=by
 have h1:=hg.alloc (.cells #[.int .i64 0] 80);have c1:=wj n ⟨w.heap.size,0,none⟩ (.int .i64 0) (w.alloc (.cells #[.int .i64 0] 80)) h1 (by simp) (by simp);have C1:=O c1;clear c1 h1;go_enter Tryz.func94,Tryz.ntmps94;go_wp2_with (go_at_call 117;refine C1.o.mono ?_;rintro e w' ⟨rfl,rfl⟩);exact⟨rfl,rfl,(by(repeat' (first|exact Below.refl _ _|refine Below.alloc ?_ ?_ _|refine Below.setCell ?_ ?_ _|refine Below.drew ?_|refine Below.drewN ?_ _))<;>(try simp)<;> omega)⟩
theorem fE(v:Value)(w:World):Calls Tryz.prog 94 #[v,.nilIface] w λe w'=>e = .returned v/\Below w.heap.size w w':=by
 have C1:=O (λx w=>rP x w);go_enter Tryz.func94,Tryz.ntmps94;go_wp2_with (go_at_call 117;refine(C1.o _ _).mono ?_;rintro e w' ⟨rfl,rfl⟩);go_ret;exact⟨rfl,za _ _⟩
theorem ud(v:Value)(w:World):Calls Tryz.prog 122 #[v,.nilIface] w λe w'=>e = .returned v/\Below w.heap.size w w':=by
 have C1:=O (λx w=>rP x w);go_enter Tryz.func122,Tryz.ntmps122;go_wp2_with (go_at_call 117;refine(C1.o _ _).mono ?_;rintro e w' ⟨rfl,rfl⟩);go_ret;exact⟨rfl,za _ _⟩
end Go.Proofs.YthidiimbeaabhaaGreatDoor
