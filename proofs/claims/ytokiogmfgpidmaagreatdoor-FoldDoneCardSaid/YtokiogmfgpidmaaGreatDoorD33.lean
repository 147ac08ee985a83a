/-
  The program's RecOf: a map from the names to the values, then the names in ..
-/
import Derived.Test.YtokiogmfgpidmaaGreatDoorD32
set_option maxRecDepth 100000
set_option maxHeartbeats 4000000
namespace Go.Proofs.YtokiogmfgpidmaaGreatDoor
open Go.RowKit Go.Wk Go.Sort Go.Maps
def Uj(w:World)(N:List ByteArray)(L:List (List Nd))(e:Ending)(w':World):Prop :=
 ∃(A:Option Addr) (n c:Nat),e = .returned (.tuple #[.slice A n c,fa (oC N L)])/\Ns w' A n c (Ki N L)/\(∀a,A=some a->w.heap.size<=a.block)/\Below w.heap.size w w'
theorem PY{w w':World}{N:List ByteArray}{L:List (List Nd)}{x:Int}(h:oC N L=x)(h0:x≠0)(hb:Below w.heap.size w w'):Uj w N L (.returned (.tuple #[.slice none 0 0,fa x])) w' :=
 ⟨none,0,0,by rw [h],by rw [UE (by rw [h];exact h0)];exact jM _,(λa e=>nomatch e),hb⟩
theorem TW:Keyed Tryz.prog 9:=string_keyed Tryz.underlying9
theorem zbC(w:World):(zeroValue 22).run Tryz.prog w = .ok (.slice none 0 0) w:=by kernel_rfl
def LQ(N:List ByteArray)(V:List Sl)(k:Nat):List (ByteArray × Value):=(N.zip (V.map Sl.v)).take k
theorem Pb{P:Program}(w:World){ops:Array Oper}{rest:List Oper}{o:Oper}{a:Act}{Q:Exit->Act->World->Prop}
 (hg:o.guard=none) (m x:Operand) (t:TypeId) (hop:o.op=Op.lookup t m x false)
 (k e:TypeId) (K:Keyed P k) (ht:P.underlying t=some (.map k e)) {z:Value} (hz:(zeroValue e).run P w = .ok z w) (b n:Nat) (D:DataW Value)
 (hm:a.eval m = .map (some b)) (hown:w.ownsMap P k FB b n D) (key:Value) (kl:Lit) (hx:a.eval x=key) (hkey:keyOf P k key=some kl) (u:Value) (hu:D.atKey kl (.held z)= .held u)
 (hK:wpList P ops Q rest (a.put o.dst u) w):
 wpList P ops Q (o :: rest) a w:=by
 refine wpList_plain hg λK' hK'=>?_;obtain⟨v,ps,hrun,hv⟩:=hown.lookup K ht hz (zd := .held z) (zp := []) rfl hkey;have:v=u:=by
  unfold FB at hv;rw [hu] at hv;simp at hv;exact hv.1
 subst this;unfold Oper.wp;simp [execOp,hop,hm,hx,hrun,Result.andThen];exact hK' _ _ hK
theorem Oc{w:World}{B:Nat}{v:Value}{k:Nat}{xs:List Value}(h:w.ownsRow B 9 1 v k xs):∃A c,v = .slice A k c/\∀j u,xs[j]?=some u->∃a,A=some a/\w.cell? (a.add j)=some u:=by
 have h1:=h.1;rcases h.2 with ⟨rfl,h0⟩|⟨g,cap,cur,rfl,_⟩
 ·refine⟨none,0,by rw [h0],λj u hj=>?_⟩;have:j<xs.length:=(List.getElem?_eq_some_iff.1 hj).1;omega
 ·exact⟨some ⟨g,0,none⟩,cap,rfl,λj u hj=>⟨_,rfl,h.cells (g:=g) rfl j u hj⟩⟩
theorem UN{W:World}{base base':Nat}{e e':TypeId}{size size':Nat}{v v':Value}{k k':Nat}{xs xs':List Value}(h:W.ownsRow base e size v k xs)(h':W.ownsRow base' e' size' v' k' xs')(hne:e≠e'):v.ownBlock=none\/v.ownBlock≠v'.ownBlock:=by
 rcases h.2 with ⟨rfl,_⟩|⟨g,cap,cur,rfl,_,hgb,_⟩
 ·exact .inl rfl
 ·refine .inr λe0=>?_;rcases h'.2 with ⟨rfl,_⟩|⟨g',cap',cur',rfl,_,hgb',_⟩
  ·simp [Value.ownBlock] at e0
  ·have:g=g':=by simpa [Value.ownBlock] using e0
   subst this;rw [hgb] at hgb';simp at hgb';exact hne hgb'.2
theorem zdd{N:List ByteArray}{V:List Sl}{k:Nat}(h1:k<N.length)(h2:k<V.length):LQ N V (k+1)=LQ N V k ++ [(N[k],V[k].v)]:=by
 have hz:k<(N.zip (V.map Sl.v)).length:=by simp;omega
 unfold LQ;rw [<-List.take_append_getElem hz,List.getElem_zip,List.getElem_map]
theorem RY{N:List ByteArray}{V:List Sl}(hl:N.length=V.length)(k:Nat):(LQ N V k).map (·.1)=N.take k:=by
 unfold LQ;rw [List.map_take];congr 1;rw [List.map_fst_zip (by simp;omega)]
theorem zi0{N:List ByteArray}{V:List Sl}(hl:N.length=V.length)(k:Nat)(s:ByteArray):((LQ N V k).any λp=>decide (p.1=s))=Mt (N.take k) s:=by
 have e:((LQ N V k).any λp=>decide (p.1=s))=((LQ N V k).map (·.1)).any λx=>decide (x=s):=by rw [List.any_map];rfl
 rw [e,RY hl];unfold Mt;congr 1;funext x;have:=jf.zero x s;simp [this]
theorem zd2(A:Option Addr)(n c:Nat)(N:List ByteArray)(A':Option Addr)(m c':Nat)(V:List Sl)(w:World)(hn:n=N.length)(hn2:n<=5864062014634*2)(hT:Sy w A N)(hz:∀x∈N,x.size<=maxLen)(hm:m=V.length)(hm2:m<=5864062014634)(hV:ou w A' V):
 Calls Tryz.prog 138 #[.slice A n c,.slice A' m c'] w (Uj w N (V.map Sl.P)):=by
 have hmm:=@run_makeMap Tryz.prog;obtain⟨i0,hi,hz0,hz1,hz2⟩:=info_parts Ru;have HT:=O hT;have HV:=O hV;have HN:=O hn;have HM:=O hm;have HZ:=O hz;clear hT hV hz;by_cases VE:n=m
 ·subst VE;have HL:=O (show N.length=(V.map Sl.P).length by rw [List.length_map,<-hn,<-hm]);have HR:=O (show oC N (V.map Sl.P)=or2 (py [] (N.zip (V.map Sl.P))) (if 200<(zw (N.zip (V.map Sl.P))).length+1 then 4 else 0) by unfold oC;rw [if_pos HL.o]);have HLV:=O (show∀k,(h:k<V.length)->∀h',(V.map Sl.P)[k]'h'=V[k].P from λk h h'=>by simp);generalize V.map Sl.P=L at *;clear hn hm;go_enter Tryz.func138,Tryz.ntmps138;go_wp2_with fail;go_loopw [7,8,9,10,11,12,25] (λ_ _ _ _ _ _ i wr=>∃k:Nat,k<=n/\i = .int .i64 k/\Hid (wr.ownsMap Tryz.prog 9 FB w.heap.size k (QO (LQ N V k)))/\Hid (py [] (N.zip L)=py (N.take k) ((N.zip L).drop k))/\Hid (∀j,(h:j<V.length)->j<k->zc V[j].P=0)/\Hid (Below w.heap.size w wr)) (λ_ _ _ _ _ _ i _=>n-(intOf i).toNat)
  case atStart=>exact⟨0,Nat.zero_le _,rfl,O (World.ownsMap_made _ _ _ _),O (by simp),O (λj _ h=>by omega),O ((Below.refl _ _).alloc (Nat.le_refl _) _)⟩
  case round =>
   obtain⟨k,hk,rfl,hO,hC,hF,hB⟩:=hrel;by_cases hlt:k<n
   ·have hk1:k<N.length:=by rw [<-HN.o];exact hlt
    have hk2:k<V.length:=by rw [<-HM.o];exact hlt
    obtain⟨a,rfl,c0⟩:=(HT.o.keep hB.o).at hk1;obtain⟨b,rfl,c1,hs⟩:=(HV.o.keep hB.o).at hk2;have HC:=O (hC.o.trans (zi5 HL.o hk1));have VG:k<L.length:=by rw [<-HL.o];exact hk1
    have eL:L[k]=V[k].P:=HLV.o k hk2 VG;rw [eL] at HC;have zz:=HZ.o _ (List.getElem_mem hk1);have C1:=O (Gj N[k] wr zz);have N1:=O hs;clear hC eL hs;by_cases h1:zh N[k]=0
    ·rw [h1,zM] at HC;rw [h1,zm] at C1;clear h1;go_wp2_with fail;refine(C1.o).mono ?_;rintro e w1 ⟨rfl,b1⟩;have O1:=O (t8 hO.o b1);have B1:=bh hB b1;have d1:=za b1 c1;have N2:=O (N1.o.keep b1);have HK:=O (show keyOf Tryz.prog 9 (.string N[k])=some (QN N[k]) from WideMaps.keyOf_string_mk Tryz.underlying9 zz);have HA:=O ((zic (LQ N V k) N[k]).trans (zi0 (by rw [<-HN.o,HM.o]) k N[k]));clear C1 N1 c0 c1 b1 hO hB;go_wp2_with (at_lookup;refine wpList_lookup_own_ok _ rfl _ _ 241 rfl 9 22 TW Tryz.underlying241 FB (zbC _) _ [] rfl w.heap.size k _ rfl O1.o _ _ rfl HK.o ?_);intro v ps hv;rw [HA.o];clear hv HA;have HH:=O (show Mt (N.take k) N[k]=true->oC N L=6 from λhh=>by
      have e:=HC.o
      rw [hh,if_pos rfl] at e
      rw [HR.o,e];rfl)
     have HH2:=O (show Mt (N.take k) N[k]=false->py [] (N.zip L)=or2 (zc V[k].P) (py (N.take (k+1)) ((N.zip L).drop (k+1))) from λhh=>by
      have e:=HC.o
      rwa [hh,if_neg (by simp),zM] at e)
     clear HC;generalize Mt (N.take k) N[k]=q at *
     cases q with
     | true =>
      have HE:=O (HH.o rfl)
      clear HH HH2
      go_wp2_with fail
      go_ret2
      exact PY HE.o (by decide) B1.o
     | false =>
      have ZL:=O (HH2.o rfl)
      clear HH HH2
      have C2:=O (zT N2.o)
      by_cases h2:zc V[k].P=0
      ·rw [h2,zM] at ZL
       rw [h2,zm] at C2;have O2:=O (show∀j,(h:j<V.length)->j<k+1->zc V[j].P=0 from λj h hj=>by
        rcases Nat.lt_or_ge j k with h3|h3
        ·exact hF.o j h h3
        ·have:j=k:=by omega
         subst this;exact h2)
       clear h2 hF;go_wp2_with fail;refine(C2.o).mono ?_;rintro e w3 ⟨rfl,b3⟩;have d3:=za b3 d1;have B3:=bh B1 b3;have O3:=O (t8 O1.o b3);clear b3 C2 B1 O1 d1 N2;go_wp2_with (at_mapUpdate;refine wpList_mapUpdate_own _ rfl _ _ _ 241 rfl 9 22 TW Tryz.underlying241 FB w.heap.size k _ rfl O3.o (by unfold maxLen;omega) _ _ _ rfl rfl HK.o _ [] rfl ?_);intro w4 hown hgrow;have O4:=O (show w4.ownsMap Tryz.prog 9 FB w.heap.size (k+1) (QO (LQ N V (k+1))) by
        rw [zdd hk1 hk2,OH];exact hown)
       have B4:=O (B3.o.grown hgrow B3.o.size (λg hg=>by cases hg;exact Nat.le_refl _));clear hown hgrow O3 B3;go_wp2_with fail;go_roundw
       case rel=>exact⟨k+1,by omega,by go_num,O4,ZL,O2,B4⟩
       case measure=>simp [intOf];omega
      ·have HE:=O (show oC N L=zc V[k].P by
        have e:=ZL.o.trans (jw h2 _)
        rw [HR.o,e,jw h2])
       have H2:=O h2;have HEV:=O (zy h2);have hev:=zy h2;rw [hev] at C2;clear h2 ZL hev;go_wp2_with fail;refine(C2.o).mono ?_;rintro e w3 ⟨rfl,b3⟩;go_wp2_with fail;go_ret2;have:=PY (w:=w) (L:=L) HE.o H2.o (bh B1 b3).o;rw [HEV.o] at this;exact this
    ·have HE:=O (show oC N L=zh N[k] by
      have e:=HC.o.trans (jw h1 _)
      rw [HR.o,e,jw h1])
     have H1:=O h1;have HEV:=O (zy h1);have hev:=zy h1;rw [hev] at C1;clear h1 HC hev;go_wp2_with fail;refine(C1.o).mono ?_;rintro e w1 ⟨rfl,b1⟩;go_wp2_with fail;go_ret2;have:=PY (w:=w) (L:=L) HE.o H1.o (bh hB b1).o;rw [HEV.o] at this;exact this
   ·have HC0:=O (show py [] (N.zip L)=0 by
     rw [hC.o,List.drop_of_length_le (by rw [List.length_zip,<-HL.o,<-HN.o];omega)];rfl)
    have HVF:=O (show∀j,(h:j<V.length)->zc V[j].P=0 from λj h=>hF.o j h (by have:=HM.o;omega));have HRE:=O (show oC N L=if 200<(zw (N.zip L)).length+1 then 4 else 0 by rw [HR.o,HC0.o,zM]);obtain⟨-,hnd,-⟩:=Le.1 HC0.o;have hzn:(N.zip L).map (·.1)=N:=List.map_fst_zip (by rw [HL.o];exact Nat.le_refl _);have hls:(sL (N.zip L)).length=n:=by rw [(j9 _).length_eq,List.length_zip,<-HL.o,<-HN.o];omega
    have HSN:=O (show(VB N).map encStr=(sL (N.zip L)).map λx=>Value.string x.1 by
     have h:=Y8 hnd
     rw [hzn] at h
     unfold VB
     rw [<-h,List.map_map]
     apply List.map_congr_left
     intro x _
     simp [encStr])
    have HIX:=O (show∀r,(h:r<(sL (N.zip L)).length)->∃i,∃h1:i<N.length,∃h2:i<V.length,(sL (N.zip L))[r]=(N[i],V[i].P)/\(QO (LQ N V k)).atKey (QN N[i]) (.held (.slice none 0 0))= .held V[i].v from λr h=>by
     have hm:=(j9 (N.zip L)).mem_iff.1 (List.getElem_mem h)
     obtain⟨i,hi,e⟩:=List.getElem_of_mem hm
     rw [List.length_zip] at hi
     have h1:i<N.length:=by omega
     have h2:i<V.length:=by rw [<-HM.o,HN.o];exact h1
     refine⟨i,h1,h2,?_,?_⟩
     ·rw [<-e,List.getElem_zip,HLV.o i h2 (by omega)]
     ·refine zkY (p:=(N[i],V[i].v)) ?_ ?_ _
      ·rw [RY (by rw [<-HN.o,HM.o])]
       exact(hzn ▸ hnd).sublist (List.take_sublist _ _)
      ·unfold LQ
       rw [List.take_of_length_le (by simp;have:=HN.o;omega)]
       have hz:i<(N.zip (V.map Sl.v)).length:=by simp;omega
       have:(N.zip (V.map Sl.v))[i]=(N[i],V[i].v):=by rw [List.getElem_zip,List.getElem_map]
       rw [<-this];exact List.getElem_mem hz)
    have HFS:=O (show∀r,(zw ((sL (N.zip L)).take r)).length<=(zw (N.zip L)).length from λr=>Nat.le_trans (I1 _ r) (by rw [Nb (j9 _)];exact Nat.le_refl _));have HFA:=O (show(zw (sL (N.zip L))).length=(zw (N.zip L)).length from by rw [Nb (j9 _)]);have HSZ:=O (show∀x∈N.zip L,x.1.size<=maxLen/\gh x.2 from λx hx=>by
     obtain⟨i,hi,rfl⟩:=List.getElem_of_mem hx
     rw [List.length_zip] at hi
     have h1:i<N.length:=by omega
     have h2:i<V.length:=by rw [<-HM.o,HN.o];exact h1
     rw [List.getElem_zip,HLV.o i h2 (by omega)]
     obtain⟨-,-,-,q⟩:=HV.o.at (k:=i) h2
     exact⟨HZ.o _ (List.getElem_mem h1),q.ok⟩)
    have HRV:=O (λh:oC N L=0=>S5 h);have VI:=O (show∀x∈sL (N.zip L),x∈N.zip L from λx hx=>(j9 _).mem_iff.1 hx);generalize hSS:sL (N.zip L)=S at *;generalize QO (LQ N V k)=D at *;clear hC hF hnd hzn hSS HC0 HR;have R0:=O (Tg wr (zG n));obtain⟨w0,rfl⟩:∃w0:World,w0=wr:=⟨_,rfl⟩
    have B1:=O ((Below.refl w0.heap.size w0).alloc (Nat.le_refl _) (.cells #[.int .i64 (zG n).op,.int .i64 (zG n).n,.string (zG n).s,.string (zG n).t] 28));have B2:=O (B1.o.alloc B1.o.size (.cells #[.slice A n c] 85));have CS:=O (ZV (w0.heap.size+1) w.heap.size A c N (by rw [<-HN.o];omega) ((w0.alloc (.cells #[.int .i64 (zG n).op,.int .i64 (zG n).n,.string (zG n).s,.string (zG n).t] 28)).alloc (.cells #[.slice A n c] 85)) (by simp) (Nat.le_trans hB.o.size B2.o.size)
     (by have:=(Boxed.new (w0.alloc (.cells #[.int .i64 (zG n).op,.int .i64 (zG n).n,.string (zG n).s,.string (zG n).t] 28)) 85 (.slice A n c)).cell;rw [World.size_alloc] at this;rw [<-HN.o];exact this) (HT.o.keep (hB.o.trans (B2.o.mono hB.o.size))) (λa ha h0=>by
      obtain⟨b,hb,q⟩:=HT.o 0 N[0] (List.getElem?_eq_getElem h0)
      rw [ha] at hb
      injection hb with hb
      subst hb
      have:=block_lt_of_cell q
      rwa [vW] at this))
    go_wp2_with fail;refine(callsIn_wide.1 (zga Fence.wide 5 trivial rfl _ _ _ _)).mono ?_;rintro e w2 ⟨rfl,rfl⟩;rw [World.size_alloc];go_wp2_with fail;refine(CS.o).mono ?_;rintro e w3 ⟨v,rfl,hrow,hb⟩;rw [HSN.o] at hrow;obtain⟨A5,c5,rfl,-⟩:=Oc hrow;have HS5:=O hrow;have B3:=O (B2.o.trans (hb.mono B2.o.size));have O3:=O (t8 hO.o (B3.o));have B4:=O (hB.o.trans (B3.o.mono hB.o.size));have R3:=O (((R0.o.alloc (.cells #[.slice A n c] 85)).kept (zA hb none) (by simp [Value.ownBlock])));clear hrow CS HSN B1 B2 hb R0;have VL:=O HN.o.symm;rw [<-HN.o];have hfn:w.heap.size<w0.heap.size:=hO.o.lt;go_wp2_with fail;generalize hB5:((w0.alloc (.cells #[.int .i64 (zG n).op,.int .i64 (zG n).n,.string (zG n).s,.string (zG n).t] 28)).alloc (.cells #[.slice A n c] 85)).heap.size=B5 at *;clear hB5;go_loopw [13,15,66] (λo _ i wk=>∃r:Nat,r<=n/\i = .int .i64 r/\(zG n :: zw (S.take r)).length<=200/\Hid (wk.ownsRow w0.heap.size 28 4 o (zG n :: zw (S.take r)).length (zL (zG n :: zw (S.take r))))/\Hid (wk.ownsRow B5 9 1 (.slice A5 n c5) n (S.map λx=>Value.string x.1))/\Hid (Below w0.heap.size w0 wk)) (λ_ _ i _=>n-(intOf i).toNat)
    case atStart=>exact⟨0,Nat.zero_le _,rfl,by simp [zw],R3,O (by have:=HS5.o;rw [<-HN.o] at this;exact this),B3⟩
    case round =>
     clear R3 HS5 O3;obtain⟨r,hr,rfl,hl2,hR,hS,hBk⟩:=hrel;by_cases hlr:r<n
     ·have hr1:r<S.length:=by omega
      obtain⟨i,h1,h2,eS,hat⟩:=HIX.o r hr1;obtain⟨A6,c6,e6,hc6⟩:=Oc hS.o;injection e6 with ea _ ec;subst ea;obtain⟨a,rfl,c0⟩:=hc6 r (.string S[r].1) (by rw [List.getElem?_map,List.getElem?_eq_getElem hr1];rfl);clear hc6 ec;have BW:=O (hB.o.trans (hBk.o.mono hB.o.size));obtain⟨b,hb',q,hs⟩:=(HV.o.keep BW.o).at h2;have hv:=HVF.o i h2;obtain⟨hv2,hV2⟩:=zH.1 hv;obtain⟨a2,ea,-⟩:=hs.at_.nd hV2.pos;have HRN:=O hs.len;have hrn:V[i].n<=200:=by rw [hs.len];exact hv2
      have HSL:=O hs;have EA:=O ea;have ZD:=O (show zG n :: zw (S.take (r+1))=((zG n :: zw (S.take r))++ [bX N[i]])++ V[i].P by
       rw [Pm S r hr1,eS];simp)
      rw [eS] at c0;have HAT:=O hat;have zi:=HZ.o _ (List.getElem_mem h1);have HK:=O (show keyOf Tryz.prog 9 (.string N[i])=some (QN N[i]) from WideMaps.keyOf_string_mk Tryz.underlying9 zi);have RK:=hR;generalize hX:zG n :: zw (S.take r)=X at RK ZD hl2;have hsz:=hBk.o.size;clear hX hs hv hv2 hV2 ea hR eS hat q hb';go_wp2_with (at_builtin;refine wpList_append_own _ rfl _ _ 22 rfl w0.heap.size 28 i0 _ 4 48 Tryz.underlying22 hi hz0 hz1 hz2 rfl (by decide) _ X.length (zL X) rfl (RK.o.alloc _) ⟨_,0,none⟩ 1 1 (zL [bX N[i]]) rfl rfl (jP _ _ _) (CV _) ?c1 ?c2 ?c3 ?_)
      case c1=>unfold maxLen;omega
      case c2=>omega
      case c3=>first|omega|(simp;omega)
      intro v1 w6 hown hgrow _;have B6:=O ((hBk.o.alloc hBk.o.size _).grown hgrow (by simp;omega) (λg hg=>by have:=zR RK.o g hg;omega));have S6:=O ((hS.o.alloc _).kept hgrow (by have:=UN hS.o RK.o (by decide);exact this));have O6:=O (t8 hO.o B6.o);have BW6:=O (hB.o.trans (B6.o.mono hB.o.size));have OW:=O (show w6.ownsRow w0.heap.size 28 4 v1 (X ++ [bX N[i]]).length (zL (X ++ [bX N[i]])) by
       rw [List.length_append,ow];exact hown)
      have h16:(X ++ [bX N[i]]).length<=201:=by simp;omega
      have HC6:=O (show∀j u,(zL V[i].P)[j]?=some u->w6.cell? (a2.add j)=some u from by
       obtain⟨b6,hb6,q6,hs6⟩:=(HV.o.keep BW6.o).at h2
       have:=hs6.at_
       rw [EA.o] at this
       exact this.cells)
      have EV:V[i].v = .slice (some a2) V[i].n V[i].c:=by unfold Sl.v;rw [EA.o]
      rw [EV] at HAT;clear hown hgrow RK hS hBk HSL BW c0;generalize hX1:X ++ [bX N[i]]=X1 at OW ZD h16;clear hX1;have hsz6:=B6.o.size;go_wp2_with (first|(at_lookup;refine Pb _ rfl _ _ 241 rfl 9 22 TW Tryz.underlying241 (zbC _) w.heap.size k _ rfl O6.o _ _ rfl HK.o _ HAT.o ?_)|(at_builtin;refine wpList_append_own _ rfl _ _ 22 rfl w0.heap.size 28 i0 _ 4 48 Tryz.underlying22 hi hz0 hz1 hz2 rfl (by decide) _ X1.length (zL X1) rfl OW.o a2 V[i].n V[i].c (zL V[i].P) rfl (by simp [v7,HRN.o]) HC6.o (CV _) ?c1 ?c2 ?c3 ?_))
      case c1=>unfold maxLen;omega
      case c2=>omega
      case c3=>omega
      intro v2 w7 hown2 hgrow2 _;have B7:=O (B6.o.grown hgrow2 (by omega) (λg hg=>by have:=zR OW.o g hg;omega));have S7:=O (S6.o.kept hgrow2 (UN S6.o OW.o (by decide)));have OW2:=O (show w7.ownsRow w0.heap.size 28 4 v2 (X1 ++ V[i].P).length (zL (X1 ++ V[i].P)) by
       rw [List.length_append,ow,<-HRN.o];exact hown2)
      rw [<-ZD.o] at OW2;have BW7:=O (hB.o.trans (B7.o.mono hB.o.size));have hf:=HFS.o (r+1);obtain⟨A7,c7,rfl,-,-,-⟩:=vl OW2.o;clear hown2 hgrow2 OW B6 ZD S6 O6 BW6 HC6 HAT;by_cases Ms:200<(zG n :: zw (S.take (r+1))).length
      ·have HE:=O (show oC N L=4 by
        rw [HRE.o,if_pos (by simp at Ms;omega)])
       generalize (zG n :: zw (S.take (r+1))).length=G at Ms;go_wp2_with fail;go_ret2;exact PY HE.o (by decide) BW7.o
      ·have hl7:(zG n :: zw (S.take (r+1))).length<=200:=by omega
       obtain⟨G,hG⟩:∃G,G=(zG n :: zw (S.take (r+1))).length:=⟨_,rfl⟩
       have OW3:=OW2;rw [<-hG] at Ms OW3;rw [<-hG];have HG:=O hG;clear hG;go_wp2_with fail;go_roundw
       case rel=>exact⟨r+1,by omega,by go_num,hl7,by rw [HG.o];exact OW2,S7,B7⟩
       case measure=>simp [intOf];omega
     ·have Lc:=O (show S.take r=S from List.take_of_length_le (by omega));rw [Lc.o] at hl2 hR;have HE:=O (show oC N L=0 by
       rw [HRE.o,if_neg (by have:=HFA.o;simp at hl2;omega)])
      obtain⟨A8,c8,rfl,hc8,hA8,hF8⟩:=vl hR.o;have HF8:=O (show∀a,A8=some a->w.heap.size<=a.block from λa e=>Nat.le_trans hB.o.size (hF8 a e));have NN:=O (show Ns wr A8 (zG n :: zw S).length c8 (Ki N L) by
       rw [HRV.o HE.o,<-HN.o]
       refine⟨rfl,hc8,by unfold maxLen;omega,hA8,?_⟩
       intro x hx
       rcases List.mem_cons.1 hx with rfl|hx
       ·exact⟨Nat.zero_le _,Nat.zero_le _,by show _<=(n:Int);omega,by show(n:Int)<=_;omega⟩
       ·exact ZX (Z:=S) (λy hy=>HSZ.o y (VI.o y hy)) x hx)
      have BW:=O (hB.o.trans (hBk.o.mono hB.o.size));clear hR hS hc8 hA8 hF8;go_wp2_with fail;go_ret2;exact⟨A8,_,c8,by rw [HE.o];rfl,NN.o,HF8.o,BW.o⟩
 ·have HE:=O (show oC N (V.map Sl.P)=1 by unfold oC;rw [if_neg (by rw [List.length_map,<-hn,<-hm];exact VE)]);have e0:(n != m)=true:=by rw [bne_iff_ne];exact VE
  clear VE hn hm;go_enter Tryz.func138,Tryz.ntmps138;go_wp2_with fail;go_ret2;exact PY (x:=1) HE.o (by decide) (Below.refl _ _)
end Go.Proofs.YtokiogmfgpidmaaGreatDoor
namespace Go.Proofs.YtokiogmfgpidmaaGreatDoor
open Go.RowKit Go.Wk Go.Sort
structure Cx where
 EA:Option Addr
 en:Nat
 ec:Nat
 E:List En
 q:Rq
 A:Option Addr
 n:Nat
 c:Nat
 P:List Nd
def Cx.env(k:Cx):Env:=⟨k.E,k.q.who,k.q.act,k.q.what,k.q.P⟩
structure Po(w:World)(k:Cx):Prop where
 es:Es w k.EA k.en k.ec k.E
 rq:zjG w k.q
 ns:Ns w k.A k.n k.c k.P
 door:CQ w
 ok:vq k.env
theorem Po.keep{w w':World}{k:Cx}(h:Po w k)(hb:Below w.heap.size w w'):Po w' k:=⟨h.es.keep hb,h.rq.keep hb,h.ns.keep hb,h.door.keep hb,h.ok⟩
def Cx.row(k:Cx)(p:Int):Array Value:=#[.slice k.EA k.en k.ec,.string k.q.who.1,.string k.q.who.2,.string k.q.act.1,.string k.q.act.2,.string k.q.what.1,.string k.q.what.2,.slice k.q.NA k.q.nn k.q.nc,.slice k.A k.n k.c,.int .i64 p]
section
variable {W w w':World} {R:Nat} {k:Cx} {p:Int}
end
structure Gh(w:World)(R:Nat)(k:Cx):Prop where
 c0:w.cell? ⟨R,0,none⟩=some (.slice k.EA k.en k.ec)
 es:Es w k.EA k.en k.ec k.E
 door:CQ w
 e:jW k.E=0
theorem Gh.keep{w w':World}{R:Nat}{k:Cx}(h:Gh w R k)(hb:Below w.heap.size w w'):Gh w' R k:=⟨za hb h.c0,h.es.keep hb,h.door.keep hb,h.e⟩
abbrev Gd (k:Int):List PanicEntry := [{ v := .iface 41 (.int .i64 k),recovered:=false }]
def jl(w:World)(r:Res)(e:Ending)(w':World):Prop :=
 Below w.heap.size w w'/\match r with
  | .error x=>e = .panicked (Gd x)
  | .ok V=>∃A n c,e = .returned (.slice A n c)/\Ns w' A n c V/\(∀a,A=some a->w.heap.size<=a.block)
theorem jY{w:World}{A:Option Addr}{n c:Nat}{V:List Nd}(h:Ns w A n c V)(h0:0<V.length):∃a,A=some a/\1<=n/\Nd4 w a (hdN V)/\Kb (hdN V)/\zf V=(hdN V).op:=by
 obtain⟨a,ha,D⟩:=h.at_.nd h0;rw [show a.add (0*4)=a from rfl] at D;have e:hdN V=V[0]:=by
  cases V with
  | nil=>simp at h0
  | cons x r=>rfl
 refine⟨a,ha,by rw [h.len];exact h0,by rw [e];exact D,by rw [e];exact h.ok.at h0,?_⟩;rw [e];exact bW h0
theorem LM(A:Option Addr)(n c:Nat)(V:List Nd)(o:Int)(w:World)(h:Ns w A n c V)(h0:0<V.length):
 Calls Tryz.prog 137 #[.slice A n c,.int .i64 o] w λe w'=>e = .returned (.bool (zf V==o))/\Below w.heap.size w w':=by
 obtain⟨a,rfl,hn1,D,-,e⟩:=jY h h0;have d0:=D.c0;rw [e];have hn:(0:Int)<(n:Int):=by omega
 generalize hdN V=x at *;clear h D e;go_enter Tryz.func137,Tryz.ntmps137;go_wp2_with fail;go_ret;exact⟨rfl,Below.refl _ _⟩
theorem jD(A:Option Addr)(n c:Nat)(V:List Nd)(o:Int)(w:World)(h:Ns w A n c V)(h0:0<V.length):
 Calls Tryz.prog 96 #[.slice A n c,.int .i64 o] w λe w'=>e=(if zf V=o then .returned (.slice A n c) else .panicked (Gd 2))/\Below w.heap.size w w':=by
 have K:=O (LM A n c V o w h h0);clear h h0;by_cases g:zf V=o
 ·rw [if_pos g];have f1:(zf V==o)=true:=beq_iff_eq.2 g;rw [f1] at K;clear f1 g;go_enter Tryz.func96,Tryz.ntmps96;go_wp2_with fail;refine K.o.mono ?_;rintro e w1 ⟨rfl,b1⟩;have B1:=O b1;clear b1 K;go_wp2_with fail;go_ret;exact⟨rfl,B1.o⟩
 ·rw [if_neg g];have f1:(zf V==o)=false:=beq_eq_false_iff_ne.2 g;rw [f1] at K;clear f1 g;go_enter Tryz.func96,Tryz.ntmps96;go_wp2_with fail;refine K.o.mono ?_;rintro e w1 ⟨rfl,b1⟩;have B1:=O b1;clear b1 K;go_wp2_with fail;exact⟨rfl,rfl,B1.o⟩
theorem jl.up{w w1 w2:World}{r:Res}{e:Ending}(h:jl w1 r e w2)(hb:Below w.heap.size w w1):jl w r e w2:=by
 refine⟨hb.trans (h.1.mono hb.size),?_⟩
 cases r with
 | error x=>exact h.2
 | ok V =>
  obtain⟨A,n,c,he,hN,hF⟩:=h.2
  exact⟨A,n,c,he,hN,λa ha=>Nat.le_trans hb.size (hF a ha)⟩
theorem j8{w w1:World}{k:Int}(hb:Below w.heap.size w w1):jl w (.error k) (.panicked (Gd k)) w1:=⟨hb,rfl⟩
theorem zk{V:List Nd}(h:zc V=0):0<V.length:=(zH.1 h).2.pos
theorem Tk(w:World)(x:Nd)(hx:Kb x):jl w (.ok [x]) (.returned (.slice (some ⟨w.heap.size,0,none⟩) 1 1)) (w.alloc (.cells #[.int .i64 x.op,.int .i64 x.n,.string x.s,.string x.t] 28)):=
 ⟨zb w _,some ⟨w.heap.size,0,none⟩,1,1,rfl,MF w x hx,λa e=>by injection e with e;subst e;exact Nat.le_refl _⟩
theorem PV(op a b:Int):I64 (vP op a b):=by
 unfold vP;split
 ·split
  ·rename_i h;unfold pV at h;simpa [I64] using h
  ·unfold I64;omega
 ·unfold I64;omega
theorem UF(o n:Int)(h:I64 n):Kb ⟨o,n,emp,emp⟩:=⟨Nat.zero_le _,Nat.zero_le _,h.1,h.2⟩
theorem j6(b:Bool)(w:World):Calls Tryz.prog 99 #[.bool b] w (jl w (.ok (zI b))):=by
 have T:=O (Tk w ⟨1,if b then 1 else 0,emp,emp⟩ (UF _ _ (by cases b <;>(unfold I64;decide))));rcases b with _|_
 ·go_enter Tryz.func99,Tryz.ntmps99;go_wp2_with fail;go_ret;exact T.o
 ·go_enter Tryz.func99,Tryz.ntmps99;go_wp2_with fail;go_ret;exact T.o
theorem TV(A:Option Addr)(n c:Nat)(V:List Nd)(w:World)(h:Ns w A n c V)(h0:0<V.length):
 Calls Tryz.prog 142 #[.slice A n c] w λe w'=>e = .returned (udV (jc V))/\Below w.heap.size w w':=by
 obtain⟨a,rfl,hn1,⟨d0,d1,d2,d3⟩,-,e⟩:=jY h h0;have hn:(0:Int)<(n:Int):=by omega
 unfold jc udV;generalize hdN V=x at *;clear h e;have B0:=zb w (.cells #[.string ⟨#[]⟩,.string ⟨#[]⟩] 36);have hn0:0<n:=hn1;obtain⟨w0,hw0⟩:∃w0,w.alloc (.cells #[.string ⟨#[]⟩,.string ⟨#[]⟩] 36)=w0:=⟨_,rfl⟩
 have V0:=ot w (.string ⟨#[]⟩) (.string ⟨#[]⟩) 36;rw [hw0] at B0 V0;have e2:(⟨w0.heap,w0.tape,w0.drawn+1,w0.os,w0.output⟩:World).cell? ⟨a.block,a.off+2,none⟩=some (.string x.s):=za B0 d2;have e3:(⟨w0.heap,w0.tape,w0.drawn+1,w0.os,w0.output⟩:World).cell? ⟨a.block,a.off+3,none⟩=some (.string x.t):=za B0 d3;go_enter Tryz.func142,Tryz.ntmps142;go_wp2_with fail;have g2:=za B0 d2;have g3:=za B0 d3;clear e2 e3;obtain⟨v0,v1,z0,z1⟩:=V0;have hl:w.heap.size<w0.heap.size:=block_lt_of_cell v0;have hab:a.block<w.heap.size:=block_lt_of_cell d0;have k2:((w0.setCell ⟨w.heap.size,0,none⟩ (.string x.s)).setCell ⟨w.heap.size,1,none⟩ (.string x.t)).drew.cell? ⟨a.block,a.off+2,none⟩=some (.string x.s):=
  (World.cell?_setCell_other _ _ _ _ (by intro e;injection e with e;omega)).trans ((World.cell?_setCell_other _ _ _ _ (by intro e;injection e with e;omega)).trans g2)
 have k3:((w0.setCell ⟨w.heap.size,0,none⟩ (.string x.s)).setCell ⟨w.heap.size,1,none⟩ (.string x.t)).drew.cell? ⟨a.block,a.off+3,none⟩=some (.string x.t):=
  (World.cell?_setCell_other _ _ _ _ (by intro e;injection e with e;omega)).trans ((World.cell?_setCell_other _ _ _ _ (by intro e;injection e with e;omega)).trans g3)
 go_region_held3 (λw':World=>w'.cell? ⟨a.block,a.off+2,none⟩=some (.string x.s)/\w'.cell? ⟨a.block,a.off+3,none⟩=some (.string x.t)) (first|exact⟨g2,g3⟩|exact⟨k2,k3⟩) (fail);have u1:((w0.setCell ⟨w.heap.size,0,none⟩ (.string x.s)).setCell ⟨w.heap.size,1,none⟩ (.string x.t)).drew.cell? ⟨w.heap.size,1,none⟩=some (.string x.t):=
  World.cell?_setCell_same _ _ _ ((World.cell?_setCell_other w0 ⟨w.heap.size,0,none⟩ ⟨w.heap.size,1,none⟩ _ (by intro e;injection e with _ e;cases e)).trans v1)
 have u0:((w0.setCell ⟨w.heap.size,0,none⟩ (.string x.s)).setCell ⟨w.heap.size,1,none⟩ (.string x.t)).drew.cell? ⟨w.heap.size,0,none⟩=some (.string x.s):=
  (World.cell?_setCell_other _ _ _ _ (by intro e;injection e with _ e;cases e)).trans (World.cell?_setCell_same w0 _ _ v0)
 have B1:Below w.heap.size w ((w0.setCell ⟨w.heap.size,0,none⟩ (.string x.s)).setCell ⟨w.heap.size,1,none⟩ (.string x.t)).drew:=((B0.setCell (p:=⟨w.heap.size,0,none⟩) (Nat.le_refl _) _).setCell (p:=⟨w.heap.size,1,none⟩) (Nat.le_refl _) _).drew;generalize ((w0.setCell ⟨w.heap.size,0,none⟩ (.string x.s)).setCell ⟨w.heap.size,1,none⟩ (.string x.t)).drew=w2 at *;go_wp2_with fail;exact⟨rfl,.agg #[.string x.s,.string x.t],by simp [results,Tryz.results142,go_sem,u0,u1],rfl,B1⟩
theorem XT(v:Value)(w:World):Calls Tryz.prog 48 #[.nilIface,v] w λe w'=>e = .returned (.bool false)/\w'=w:=by
 go_enter Tryz.func48,Tryz.ntmps48;go_wp2_with fail;go_ret;exact⟨rfl,rfl⟩
theorem Sr(v:Value)(n:Int)(w:World)(hg:CQ w):Calls Tryz.prog 100 #[v,.iface 41 (.int .i64 n)] w λe w'=>e = .panicked (Gd n)/\Below w.heap.size w w':=by
 have h1:=hg.alloc (.cells #[.int .i64 0] 41);have c1:=zee n ⟨w.heap.size,0,none⟩ (.int .i64 0) (w.alloc (.cells #[.int .i64 0] 41)) h1 (by simp) (by simp);have C1:=O c1;clear c1 h1;go_enter Tryz.func100,Tryz.ntmps100;go_wp2_with (go_at_call 48;refine C1.o.mono ?_;rintro e w' ⟨rfl,rfl⟩);exact⟨rfl,rfl,(by(repeat' (first|exact Below.refl _ _|refine Below.alloc ?_ ?_ _|refine Below.setCell ?_ ?_ _|refine Below.drew ?_|refine Below.drewN ?_ _))<;>(try simp)<;> omega)⟩
theorem RO(v:Value)(w:World):Calls Tryz.prog 100 #[v,.nilIface] w λe w'=>e = .returned v/\Below w.heap.size w w':=by
 have C1:=O (λx w=>XT x w);go_enter Tryz.func100,Tryz.ntmps100;go_wp2_with (go_at_call 48;refine(C1.o _ _).mono ?_;rintro e w' ⟨rfl,rfl⟩);go_ret;exact⟨rfl,zb _ _⟩
theorem Kg(v:Value)(n:Int)(w:World)(hg:CQ w):Calls Tryz.prog 102 #[v,.iface 41 (.int .i64 n)] w λe w'=>e = .panicked (Gd n)/\Below w.heap.size w w':=by
 have h1:=hg.alloc (.cells #[.int .i64 0] 41);have c1:=zee n ⟨w.heap.size,0,none⟩ (.int .i64 0) (w.alloc (.cells #[.int .i64 0] 41)) h1 (by simp) (by simp);have C1:=O c1;clear c1 h1;go_enter Tryz.func102,Tryz.ntmps102;go_wp2_with (go_at_call 48;refine C1.o.mono ?_;rintro e w' ⟨rfl,rfl⟩);exact⟨rfl,rfl,(by(repeat' (first|exact Below.refl _ _|refine Below.alloc ?_ ?_ _|refine Below.setCell ?_ ?_ _|refine Below.drew ?_|refine Below.drewN ?_ _))<;>(try simp)<;> omega)⟩
theorem IE(v:Value)(w:World):Calls Tryz.prog 102 #[v,.nilIface] w λe w'=>e = .returned v/\Below w.heap.size w w':=by
 have C1:=O (λx w=>XT x w);go_enter Tryz.func102,Tryz.ntmps102;go_wp2_with (go_at_call 48;refine(C1.o _ _).mono ?_;rintro e w' ⟨rfl,rfl⟩);go_ret;exact⟨rfl,zb _ _⟩
theorem Nt(v:Value)(n:Int)(w:World)(hg:CQ w):Calls Tryz.prog 106 #[v,.iface 41 (.int .i64 n)] w λe w'=>e = .panicked (Gd n)/\Below w.heap.size w w':=by
 have h1:=hg.alloc (.cells #[.int .i64 0] 41);have c1:=zee n ⟨w.heap.size,0,none⟩ (.int .i64 0) (w.alloc (.cells #[.int .i64 0] 41)) h1 (by simp) (by simp);have C1:=O c1;clear c1 h1;go_enter Tryz.func106,Tryz.ntmps106;go_wp2_with (go_at_call 48;refine C1.o.mono ?_;rintro e w' ⟨rfl,rfl⟩);exact⟨rfl,rfl,(by(repeat' (first|exact Below.refl _ _|refine Below.alloc ?_ ?_ _|refine Below.setCell ?_ ?_ _|refine Below.drew ?_|refine Below.drewN ?_ _))<;>(try simp)<;> omega)⟩
theorem NI(v:Value)(w:World):Calls Tryz.prog 106 #[v,.nilIface] w λe w'=>e = .returned v/\Below w.heap.size w w':=by
 have C1:=O (λx w=>XT x w);go_enter Tryz.func106,Tryz.ntmps106;go_wp2_with (go_at_call 48;refine(C1.o _ _).mono ?_;rintro e w' ⟨rfl,rfl⟩);go_ret;exact⟨rfl,zb _ _⟩
theorem zaf(v:Value)(w:World):Calls Tryz.prog 145 #[v,.nilIface] w λe w'=>e = .returned v/\Below w.heap.size w w':=by
 have C1:=O (λx w=>XT x w);go_enter Tryz.func145,Tryz.ntmps145;go_wp2_with (go_at_call 48;refine(C1.o _ _).mono ?_;rintro e w' ⟨rfl,rfl⟩);go_ret;exact⟨rfl,zb _ _⟩
theorem Pk(p q:Addr)(w:World):
 CallsD Tryz.prog 116 #[.pointer (some p),.pointer (some q)] .returning w λe u' w'=>e = .returned (.tuple #[])/\u' = .returning/\w'=w:=by
 refine callsD_of_wpS Tryz.func116 rfl λc₀ cs hu=>?_;apply wpS_seq;apply wpS_region;simp [wpOpsS,go_sem,recoverD,hu,Tryz.ntmps116,Exit.thenS];refine wpS_of_wp ?_;go_wp2_with fail;cases c₀;simp_all [bodyPostS,results,Tryz.results116]
theorem MG(E F:Nat)(x:Int)(v0 v1:Value)(older:List PanicEntry)(w:World)(hE:w.cell? ⟨E,0,none⟩=some v0)(zE:w.frozen? ⟨E,0,none⟩=false)(hF:w.cell? ⟨F,0,none⟩=some v1)(zF:w.frozen? ⟨F,0,none⟩=false)(hne:E≠F):
 CallsD Tryz.prog 116 #[.pointer (some ⟨E,0,none⟩),.pointer (some ⟨F,0,none⟩)] (.panicking ({ v := .iface 41 (.int .i64 x),recovered:=false } :: older)) w λe u' w' =>
  e = .returned (.tuple #[])/\u' = .panicking ({ v := .iface 41 (.int .i64 x),recovered:=true } :: older)/\w'=((w.setCell ⟨E,0,none⟩ (.slice none 0 0)).setCell ⟨F,0,none⟩ (.iface 41 (.int .i64 x))):=by
 have hl:E<w.heap.size:=block_lt_of_cell hE;have hl2:F<w.heap.size:=block_lt_of_cell hF;have zoI:F≠E:=hne.symm;have hta:∀w,(Instr.typeAssert (.iface 41 (.int .i64 x)) 20 41 true).run Tryz.prog w = .ok (.tuple #[.int .i64 x,.bool true]) w:=λ_=>by kernel_rfl
 refine callsD_of_wpS Tryz.func116 rfl λc₀ cs hu=>?_;apply wpS_seq;apply wpS_region;simp [wpOpsS,go_sem,recoverD,hu,Tryz.ntmps116];refine wpS_of_wp ?_;go_wp2_with fail;cases c₀;simp [bodyPostS,results,Tryz.results116]
theorem zis(A:Option Addr)(n c:Nat)(V:List Sl)(nv:Value)(w:World)(hn:n=V.length)(hm:n<=1000)(hV:ou w A V)(hd:CQ w):
 Calls Tryz.prog 98 #[.int .i64 5,nv,.slice A n c] w (jl w (z6 (Wk.setE (V.map Sl.P)) (setV (V.map Sl.P)))):=by
 have K:=O (zdD A n c V w hn (by omega) hV);unfold za1 at K;generalize V.map Sl.P=L at *;have HD:=O hd;clear hn hm hV hd;by_cases z:Wk.setE L=0
 ·have HT:=O (show z6 (Wk.setE L) (setV L)= .ok (setV L) by unfold z6;rw [if_pos z]);rw [HT.o];rw [z,zm] at K;clear z;go_enter Tryz.func98,Tryz.ntmps98;go_wp2_with fail;refine K.o.mono ?_;rintro e w1 ⟨A2,n2,c2,rfl,hN,hF,b1⟩;have B1:=O b1;have HN:=O hN;have HF:=O hF;clear b1 hN hF K;go_wp2_with fail;refine(NI (.slice A2 n2 c2) w1).mono ?_;rintro e w2 ⟨rfl,b2⟩;have B2:=bh B1 b2;have VL:=O (HN.o.keep b2);clear b2 B1 HN;go_wp2_with fail;go_ret;exact⟨B2.o,A2,n2,c2,rfl,VL.o,HF.o⟩
 ·have HT:=O (show z6 (Wk.setE L) (setV L)= .error (Wk.setE L) by unfold z6;rw [if_neg z]);rw [HT.o];rw [zy z] at K;generalize Wk.setE L=u at *;clear z;go_enter Tryz.func98,Tryz.ntmps98;go_wp2_with fail;refine K.o.mono ?_;rintro e w1 ⟨A2,n2,c2,rfl,-,-,b1⟩;have B1:=O b1;clear b1 K;go_wp2_with fail;refine(Nt (.slice A2 n2 c2) u w1 (HD.o.keep B1.o)).mono ?_;rintro e w2 ⟨rfl,b2⟩;have B2:=bh B1 b2;clear b2 B1;go_wp2_with fail;exact⟨rfl,j8 B2.o⟩
theorem ziC(A:Option Addr)(n c:Nat)(N:List ByteArray)(A':Option Addr)(m c':Nat)(V:List Sl)(w:World)(hn:n=N.length)(hn2:n<=1000)(hT:Sy w A N)(hz:∀x∈N,x.size<=maxLen)(hm:m=V.length)(hm2:m<=1000)(hV:ou w A' V)(hd:CQ w):
 Calls Tryz.prog 98 #[.int .i64 6,.slice A n c,.slice A' m c'] w (jl w (z6 (oC N (V.map Sl.P)) (Ki N (V.map Sl.P)))):=by
 have K:=O (zd2 A n c N A' m c' V w hn (by omega) hT hz hm (by omega) hV);unfold Uj at K;generalize V.map Sl.P=L at *;have HD:=O hd;clear hn hm hV hd hn2 hm2 hT hz;by_cases z:oC N L=0
 ·have HT:=O (show z6 (oC N L) (Ki N L)= .ok (Ki N L) by unfold z6;rw [if_pos z]);rw [HT.o];rw [z,zm] at K;clear z;go_enter Tryz.func98,Tryz.ntmps98;go_wp2_with fail;refine K.o.mono ?_;rintro e w1 ⟨A2,n2,c2,rfl,hN,hF,b1⟩;have B1:=O b1;have HN:=O hN;have HF:=O hF;clear b1 hN hF K;go_wp2_with fail;refine(NI (.slice A2 n2 c2) w1).mono ?_;rintro e w2 ⟨rfl,b2⟩;have B2:=bh B1 b2;have VL:=O (HN.o.keep b2);clear b2 B1 HN;go_wp2_with fail;go_ret;exact⟨B2.o,A2,n2,c2,rfl,VL.o,HF.o⟩
 ·have HT:=O (show z6 (oC N L) (Ki N L)= .error (oC N L) by unfold z6;rw [if_neg z]);rw [HT.o];rw [zy z] at K;generalize oC N L=u at *;clear z;go_enter Tryz.func98,Tryz.ntmps98;go_wp2_with fail;refine K.o.mono ?_;rintro e w1 ⟨A2,n2,c2,rfl,-,-,b1⟩;have B1:=O b1;clear b1 K;go_wp2_with fail;refine(Nt (.slice A2 n2 c2) u w1 (HD.o.keep B1.o)).mono ?_;rintro e w2 ⟨rfl,b2⟩;have B2:=bh B1 b2;clear b2 B1;go_wp2_with fail;exact⟨rfl,j8 B2.o⟩
end Go.Proofs.YtokiogmfgpidmaaGreatDoor
