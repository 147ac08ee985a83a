/-
  The program's RecOf: a map from the names to the values, then the names in ..
-/
import Derived.Test.YtokiogmfgpidmaaGreatDoorQ31
set_option maxRecDepth 100000
set_option maxHeartbeats 8000000
namespace Go.Proofs.YtokiogmfgpidmaaGreatDoor
open Go.RowKit Go.Wk Go.Sort Go.Maps
def nP(w:World)(N:List ByteArray)(L:List (List Nd))(e:Ending)(w':World):Prop :=
 ∃(A:Option Addr) (n c:Nat),e = .returned (.tuple #[.slice A n c,jr (aU N L)])/\Ns w' A n c (dJ N L)/\(∀a,A=some a->w.heap.size<=a.block)/\Below w.heap.size w w'
theorem i6{w w':World}{N:List ByteArray}{L:List (List Nd)}{x:Int}(h:aU N L=x)(h0:x≠0)(hb:Below w.heap.size w w'):nP w N L (.returned (.tuple #[.slice none 0 0,jr x])) w' :=
 ⟨none,0,0,by rw [h],by rw [DW (by rw [h];exact h0)];exact rE _,(λa e=>nomatch e),hb⟩
theorem mV:Keyed Tryz.prog 9:=string_keyed Tryz.underlying9
theorem ux(w:World):(zeroValue 22).run Tryz.prog w = .ok (.slice none 0 0) w:=by kernel_rfl
def dy(N:List ByteArray)(V:List Sl)(k:Nat):List (ByteArray × Value):=(N.zip (V.map Sl.v)).take k
theorem gx{P:Program}(w:World){ops:Array Oper}{rest:List Oper}{o:Oper}{a:Act}{Q:Exit->Act->World->Prop}
 (hg:o.guard=none) (m x:Operand) (t:TypeId) (hop:o.op=Op.lookup t m x false)
 (k e:TypeId) (K:Keyed P k) (ht:P.underlying t=some (.map k e)) {z:Value} (hz:(zeroValue e).run P w = .ok z w) (b n:Nat) (D:DataW Value)
 (hm:a.eval m = .map (some b)) (hown:w.ownsMap P k bi b n D) (key:Value) (kl:Lit) (hx:a.eval x=key) (hkey:keyOf P k key=some kl) (u:Value) (hu:D.atKey kl (.held z)= .held u)
 (hK:wpList P ops Q rest (a.put o.dst u) w):
 wpList P ops Q (o :: rest) a w:=by
 refine wpList_plain hg λK' hK'=>?_;obtain⟨v,ps,hrun,hv⟩:=hown.lookup K ht hz (zd := .held z) (zp := []) rfl hkey;have:v=u:=by
  unfold bi at hv;rw [hu] at hv;simp at hv;exact hv.1
 subst this;unfold Oper.wp;simp [execOp,hop,hm,hx,hrun,Result.andThen];exact hK' _ _ hK
theorem dA{w:World}{B:Nat}{v:Value}{k:Nat}{xs:List Value}(h:w.ownsRow B 9 1 v k xs):∃A c,v = .slice A k c/\∀j u,xs[j]?=some u->∃a,A=some a/\w.cell? (a.add j)=some u:=by
 have h1:=h.1;rcases h.2 with ⟨rfl,h0⟩|⟨g,cap,cur,rfl,_⟩
 ·refine⟨none,0,by rw [h0],λj u hj=>?_⟩;have:j<xs.length:=(List.getElem?_eq_some_iff.1 hj).1;omega
 ·exact⟨some ⟨g,0,none⟩,cap,rfl,λj u hj=>⟨_,rfl,h.cells (g:=g) rfl j u hj⟩⟩
theorem mY{W:World}{base base':Nat}{e e':TypeId}{size size':Nat}{v v':Value}{k k':Nat}{xs xs':List Value}(h:W.ownsRow base e size v k xs)(h':W.ownsRow base' e' size' v' k' xs')(hne:e≠e'):v.ownBlock=none\/v.ownBlock≠v'.ownBlock:=by
 rcases h.2 with ⟨rfl,_⟩|⟨g,cap,cur,rfl,_,hgb,_⟩
 ·exact .inl rfl
 ·refine .inr λe0=>?_;rcases h'.2 with ⟨rfl,_⟩|⟨g',cap',cur',rfl,_,hgb',_⟩
  ·simp [Value.ownBlock] at e0
  ·have:g=g':=by simpa [Value.ownBlock] using e0
   subst this;rw [hgb] at hgb';simp at hgb';exact hne hgb'.2
theorem wS{N:List ByteArray}{V:List Sl}{k:Nat}(h1:k<N.length)(h2:k<V.length):dy N V (k+1)=dy N V k ++ [(N[k],V[k].v)]:=by
 have hz:k<(N.zip (V.map Sl.v)).length:=by simp;omega
 unfold dy;rw [<-List.take_append_getElem hz,List.getElem_zip,List.getElem_map]
theorem lm{N:List ByteArray}{V:List Sl}(hl:N.length=V.length)(k:Nat):(dy N V k).map (·.1)=N.take k:=by
 unfold dy;rw [List.map_take];congr 1;rw [List.map_fst_zip (by simp;omega)]
theorem Ey{N:List ByteArray}{V:List Sl}(hl:N.length=V.length)(k:Nat)(s:ByteArray):((dy N V k).any λp=>decide (p.1=s))=lP (N.take k) s:=by
 have e:((dy N V k).any λp=>decide (p.1=s))=((dy N V k).map (·.1)).any λx=>decide (x=s):=by rw [List.any_map];rfl
 rw [e,lm hl];unfold lP;congr 1;funext x;have:=jf.zero x s;simp [this]
theorem xY(A:Option Addr)(n c:Nat)(N:List ByteArray)(A':Option Addr)(m c':Nat)(V:List Sl)(w:World)(hn:n=N.length)(hn2:n<=5864062014634*2)(hT:mx w A N)(hz:∀x∈N,x.size<=maxLen)(hm:m=V.length)(KH:m<=5864062014634)(hV:aw w A' V):
 Calls Tryz.prog 138 #[.slice A n c,.slice A' m c'] w (nP w N (V.map Sl.P)):=by
 have Gt:=@run_makeMap Tryz.prog;obtain⟨i0,hi,hz0,hz1,hz2⟩:=info_parts mS;have HT:=O hT;have HV:=O hV;have HN:=O hn;have HM:=O hm;have HZ:=O hz;clear hT hV hz;by_cases C6:n=m
 ·subst C6;have HL:=O (show N.length=(V.map Sl.P).length by rw [List.length_map,<-hn,<-hm]);have HR:=O (show aU N (V.map Sl.P)=or2 (aY [] (N.zip (V.map Sl.P))) (if 200<(zL (N.zip (V.map Sl.P))).length+1 then 4 else 0) by unfold aU;rw [if_pos HL.o]);have NF:=O (show∀k,(h:k<V.length)->∀h',(V.map Sl.P)[k]'h'=V[k].P from λk h h'=>by simp);generalize V.map Sl.P=L at *;clear hn hm;go_enter Tryz.func138,Tryz.ntmps138;go_wp2_with fail;go_loopw [7,8,9,10,11,12,25] (λ_ _ _ _ _ _ i wr=>∃k:Nat,k<=n/\i = .int .i64 k/\Hid (wr.ownsMap Tryz.prog 9 bi w.heap.size k (ky (dy N V k)))/\Hid (aY [] (N.zip L)=aY (N.take k) ((N.zip L).drop k))/\Hid (∀j,(h:j<V.length)->j<k->zc V[j].P=0)/\Hid (Below w.heap.size w wr)) (λ_ _ _ _ _ _ i _=>n-(intOf i).toNat)
  case atStart=>exact⟨0,Nat.zero_le _,rfl,O (World.ownsMap_made _ _ _ _),O (by simp),O (λj _ h=>by omega),O ((Below.refl _ _).alloc (Nat.le_refl _) _)⟩
  case round =>
   obtain⟨k,hk,rfl,hO,hC,hF,hB⟩:=hrel;by_cases hlt:k<n
   ·have Gr:k<N.length:=by rw [<-HN.o];exact hlt
    have hk2:k<V.length:=by rw [<-HM.o];exact hlt
    obtain⟨a,rfl,c0⟩:=(HT.o.keep hB.o).at Gr;obtain⟨b,rfl,c1,hs⟩:=(HV.o.keep hB.o).at hk2;have HC:=O (hC.o.trans (JD HL.o Gr));have CW:k<L.length:=by rw [<-HL.o];exact Gr
    have eL:L[k]=V[k].P:=NF.o k hk2 CW;rw [eL] at HC;have zz:=HZ.o _ (List.getElem_mem Gr);have C1:=O (bz N[k] wr zz);have N1:=O hs;clear hC eL hs;by_cases h1:zh N[k]=0
    ·rw [h1,zS] at HC;rw [h1,zk] at C1;clear h1;go_wp2_with fail;refine(C1.o).mono ?_;rintro e w1 ⟨rfl,b1⟩;have O1:=O (ah hO.o b1);have B1:=bh hB b1;have d1:=za b1 c1;have N2:=O (N1.o.keep b1);have HK:=O (show keyOf Tryz.prog 9 (.string N[k])=some (kp N[k]) from WideMaps.keyOf_string_mk Tryz.underlying9 zz);have HA:=O ((EL (dy N V k) N[k]).trans (Ey (by rw [<-HN.o,HM.o]) k N[k]));clear C1 N1 c0 c1 b1 hO hB;go_wp2_with (at_lookup;refine wpList_lookup_own_ok _ rfl _ _ 241 rfl 9 22 mV Tryz.underlying241 bi (ux _) _ [] rfl w.heap.size k _ rfl O1.o _ _ rfl HK.o ?_);intro v ps hv;rw [HA.o];clear hv HA;have HH:=O (show lP (N.take k) N[k]=true->aU N L=6 from λhh=>by
      have e:=HC.o
      rw [hh,if_pos rfl] at e
      rw [HR.o,e];rfl)
     have OM:=O (show lP (N.take k) N[k]=false->aY [] (N.zip L)=or2 (zc V[k].P) (aY (N.take (k+1)) ((N.zip L).drop (k+1))) from λhh=>by
      have e:=HC.o
      rwa [hh,if_neg (by simp),zS] at e)
     clear HC;generalize lP (N.take k) N[k]=q at *
     cases q with
     | true =>
      have HE:=O (HH.o rfl)
      clear HH OM
      go_wp2_with fail
      go_ret2
      exact i6 HE.o (by decide) B1.o
     | false =>
      have M7:=O (OM.o rfl)
      clear HH OM
      have C2:=O (zJ N2.o)
      by_cases h2:zc V[k].P=0
      ·rw [h2,zS] at M7
       rw [h2,zk] at C2;have O2:=O (show∀j,(h:j<V.length)->j<k+1->zc V[j].P=0 from λj h hj=>by
        rcases Nat.lt_or_ge j k with h3|h3
        ·exact hF.o j h h3
        ·have:j=k:=by omega
         subst this;exact h2)
       clear h2 hF;go_wp2_with fail;refine(C2.o).mono ?_;rintro e w3 ⟨rfl,b3⟩;have d3:=za b3 d1;have B3:=bh B1 b3;have O3:=O (ah O1.o b3);clear b3 C2 B1 O1 d1 N2;go_wp2_with (at_mapUpdate;refine wpList_mapUpdate_own _ rfl _ _ _ 241 rfl 9 22 mV Tryz.underlying241 bi w.heap.size k _ rfl O3.o (by unfold maxLen;omega) _ _ _ rfl rfl HK.o _ [] rfl ?_);intro w4 hown hgrow;have O4:=O (show w4.ownsMap Tryz.prog 9 bi w.heap.size (k+1) (ky (dy N V (k+1))) by
        rw [wS Gr hk2,fV];exact hown)
       have B4:=O (B3.o.grown hgrow B3.o.size (λg hg=>by cases hg;exact Nat.le_refl _));clear hown hgrow O3 B3;go_wp2_with fail;go_roundw
       case rel=>exact⟨k+1,by omega,by go_num,O4,M7,O2,B4⟩
       case measure=>simp [intOf];omega
      ·have HE:=O (show aU N L=zc V[k].P by
        have e:=M7.o.trans (jt h2 _)
        rw [HR.o,e,jt h2])
       have H2:=O h2;have hJ:=O (zn h2);have Ji:=zn h2;rw [Ji] at C2;clear h2 M7 Ji;go_wp2_with fail;refine(C2.o).mono ?_;rintro e w3 ⟨rfl,b3⟩;go_wp2_with fail;go_ret2;have:=i6 (w:=w) (L:=L) HE.o H2.o (bh B1 b3).o;rw [hJ.o] at this;exact this
    ·have HE:=O (show aU N L=zh N[k] by
      have e:=HC.o.trans (jt h1 _)
      rw [HR.o,e,jt h1])
     have H1:=O h1;have hJ:=O (zn h1);have Ji:=zn h1;rw [Ji] at C1;clear h1 HC Ji;go_wp2_with fail;refine(C1.o).mono ?_;rintro e w1 ⟨rfl,b1⟩;go_wp2_with fail;go_ret2;have:=i6 (w:=w) (L:=L) HE.o H1.o (bh hB b1).o;rw [hJ.o] at this;exact this
   ·have OI:=O (show aY [] (N.zip L)=0 by
     rw [hC.o,List.drop_of_length_le (by rw [List.length_zip,<-HL.o,<-HN.o];omega)];rfl)
    have HVF:=O (show∀j,(h:j<V.length)->zc V[j].P=0 from λj h=>hF.o j h (by have:=HM.o;omega));have HRE:=O (show aU N L=if 200<(zL (N.zip L)).length+1 then 4 else 0 by rw [HR.o,OI.o,zS]);obtain⟨-,hnd,-⟩:=fy.1 OI.o;have OT:(N.zip L).map (·.1)=N:=List.map_fst_zip (by rw [HL.o];exact Nat.le_refl _);have hls:(bZ (N.zip L)).length=n:=by rw [(ao _).length_eq,List.length_zip,<-HL.o,<-HN.o];omega
    have HSN:=O (show(mM N).map encStr=(bZ (N.zip L)).map λx=>Value.string x.1 by
     have h:=rR hnd
     rw [OT] at h
     unfold mM
     rw [<-h,List.map_map]
     apply List.map_congr_left
     intro x _
     simp [encStr])
    have HIX:=O (show∀r,(h:r<(bZ (N.zip L)).length)->∃i,∃h1:i<N.length,∃h2:i<V.length,(bZ (N.zip L))[r]=(N[i],V[i].P)/\(ky (dy N V k)).atKey (kp N[i]) (.held (.slice none 0 0))= .held V[i].v from λr h=>by
     have hm:=(ao (N.zip L)).mem_iff.1 (List.getElem_mem h)
     obtain⟨i,hi,e⟩:=List.getElem_of_mem hm
     rw [List.length_zip] at hi
     have h1:i<N.length:=by omega
     have h2:i<V.length:=by rw [<-HM.o,HN.o];exact h1
     refine⟨i,h1,h2,?_,?_⟩
     ·rw [<-e,List.getElem_zip,NF.o i h2 (by omega)]
     ·refine Ij (p:=(N[i],V[i].v)) ?_ ?_ _
      ·rw [lm (by rw [<-HN.o,HM.o])]
       exact(OT ▸ hnd).sublist (List.take_sublist _ _)
      ·unfold dy
       rw [List.take_of_length_le (by simp;have:=HN.o;omega)]
       have hz:i<(N.zip (V.map Sl.v)).length:=by simp;omega
       have:(N.zip (V.map Sl.v))[i]=(N[i],V[i].v):=by rw [List.getElem_zip,List.getElem_map]
       rw [<-this];exact List.getElem_mem hz)
    have HFS:=O (show∀r,(zL ((bZ (N.zip L)).take r)).length<=(zL (N.zip L)).length from λr=>Nat.le_trans (oK _ r) (by rw [gG (ao _)];exact Nat.le_refl _));have HFA:=O (show(zL (bZ (N.zip L))).length=(zL (N.zip L)).length from by rw [gG (ao _)]);have OQ:=O (show∀x∈N.zip L,x.1.size<=maxLen/\au x.2 from λx hx=>by
     obtain⟨i,hi,rfl⟩:=List.getElem_of_mem hx
     rw [List.length_zip] at hi
     have h1:i<N.length:=by omega
     have h2:i<V.length:=by rw [<-HM.o,HN.o];exact h1
     rw [List.getElem_zip,NF.o i h2 (by omega)]
     obtain⟨-,-,-,q⟩:=HV.o.at (k:=i) h2
     exact⟨HZ.o _ (List.getElem_mem h1),q.ok⟩)
    have Le:=O (λh:aU N L=0=>rG h);have ov:=O (show∀x∈bZ (N.zip L),x∈N.zip L from λx hx=>(ao _).mem_iff.1 hx);generalize hSS:bZ (N.zip L)=S at *;generalize ky (dy N V k)=D at *;clear hC hF hnd OT hSS OI HR;have R0:=O (y8 wr (zM n));obtain⟨w0,rfl⟩:∃w0:World,w0=wr:=⟨_,rfl⟩
    have B1:=O ((Below.refl w0.heap.size w0).alloc (Nat.le_refl _) (.cells #[.int .i64 (zM n).op,.int .i64 (zM n).n,.string (zM n).s,.string (zM n).t] 28));have B2:=O (B1.o.alloc B1.o.size (.cells #[.slice A n c] 85));have CS:=O (uS (w0.heap.size+1) w.heap.size A c N (by rw [<-HN.o];omega) ((w0.alloc (.cells #[.int .i64 (zM n).op,.int .i64 (zM n).n,.string (zM n).s,.string (zM n).t] 28)).alloc (.cells #[.slice A n c] 85)) (by simp) (Nat.le_trans hB.o.size B2.o.size)
     (by have:=(Boxed.new (w0.alloc (.cells #[.int .i64 (zM n).op,.int .i64 (zM n).n,.string (zM n).s,.string (zM n).t] 28)) 85 (.slice A n c)).cell;rw [World.size_alloc] at this;rw [<-HN.o];exact this) (HT.o.keep (hB.o.trans (B2.o.mono hB.o.size))) (λa ha h0=>by
      obtain⟨b,hb,q⟩:=HT.o 0 N[0] (List.getElem?_eq_getElem h0)
      rw [ha] at hb
      injection hb with hb
      subst hb
      have:=block_lt_of_cell q
      rwa [jQ] at this))
    go_wp2_with fail;refine(callsIn_wide.1 (BP Fence.wide 5 trivial rfl _ _ _ _)).mono ?_;rintro e w2 ⟨rfl,rfl⟩;rw [World.size_alloc];go_wp2_with fail;refine(CS.o).mono ?_;rintro e w3 ⟨v,rfl,hrow,hb⟩;rw [HSN.o] at hrow;obtain⟨A5,c5,rfl,-⟩:=dA hrow;have MZ:=O hrow;have B3:=O (B2.o.trans (hb.mono B2.o.size));have O3:=O (ah hO.o (B3.o));have B4:=O (hB.o.trans (B3.o.mono hB.o.size));have R3:=O (((R0.o.alloc (.cells #[.slice A n c] 85)).kept (zj hb none) (by simp [Value.ownBlock])));clear hrow CS HSN B1 B2 hb R0;have vX:=O HN.o.symm;rw [<-HN.o];have hfn:w.heap.size<w0.heap.size:=hO.o.lt;go_wp2_with fail;generalize hB5:((w0.alloc (.cells #[.int .i64 (zM n).op,.int .i64 (zM n).n,.string (zM n).s,.string (zM n).t] 28)).alloc (.cells #[.slice A n c] 85)).heap.size=B5 at *;clear hB5;go_loopw [13,15,66] (λo _ i wk=>∃r:Nat,r<=n/\i = .int .i64 r/\(zM n :: zL (S.take r)).length<=200/\Hid (wk.ownsRow w0.heap.size 28 4 o (zM n :: zL (S.take r)).length (zT (zM n :: zL (S.take r))))/\Hid (wk.ownsRow B5 9 1 (.slice A5 n c5) n (S.map λx=>Value.string x.1))/\Hid (Below w0.heap.size w0 wk)) (λ_ _ i _=>n-(intOf i).toNat)
    case atStart=>exact⟨0,Nat.zero_le _,rfl,by simp [zL],R3,O (by have:=MZ.o;rw [<-HN.o] at this;exact this),B3⟩
    case round =>
     clear R3 MZ O3;obtain⟨r,hr,rfl,hl2,hR,hS,KY⟩:=hrel;by_cases hlr:r<n
     ·have hr1:r<S.length:=by omega
      obtain⟨i,h1,h2,eS,hat⟩:=HIX.o r hr1;obtain⟨A6,c6,e6,Mv⟩:=dA hS.o;injection e6 with ea _ ec;subst ea;obtain⟨a,rfl,c0⟩:=Mv r (.string S[r].1) (by rw [List.getElem?_map,List.getElem?_eq_getElem hr1];rfl);clear Mv ec;have BW:=O (hB.o.trans (KY.o.mono hB.o.size));obtain⟨b,hb',q,hs⟩:=(HV.o.keep BW.o).at h2;have hv:=HVF.o i h2;obtain⟨hv2,hV2⟩:=zH.1 hv;obtain⟨a2,ea,-⟩:=hs.at_.nd hV2.pos;have LZ:=O hs.len;have hrn:V[i].n<=200:=by rw [hs.len];exact hv2
      have HSL:=O hs;have EA:=O ea;have IY:=O (show zM n :: zL (S.take (r+1))=((zM n :: zL (S.take r))++ [aX N[i]])++ V[i].P by
       rw [xT S r hr1,eS];simp)
      rw [eS] at c0;have KG:=O hat;have zi:=HZ.o _ (List.getElem_mem h1);have HK:=O (show keyOf Tryz.prog 9 (.string N[i])=some (kp N[i]) from WideMaps.keyOf_string_mk Tryz.underlying9 zi);have RK:=hR;generalize hX:zM n :: zL (S.take r)=X at RK IY hl2;have hsz:=KY.o.size;clear hX hs hv hv2 hV2 ea hR eS hat q hb';go_wp2_with (at_builtin;refine wpList_append_own _ rfl _ _ 22 rfl w0.heap.size 28 i0 _ 4 48 Tryz.underlying22 hi hz0 hz1 hz2 rfl (by decide) _ X.length (zT X) rfl (RK.o.alloc _) ⟨_,0,none⟩ 1 1 (zT [aX N[i]]) rfl rfl (aA _ _ _) (cz _) ?c1 ?c2 ?c3 ?_)
      case c1=>unfold maxLen;omega
      case c2=>omega
      case c3=>first|omega|(simp;omega)
      intro v1 w6 hown hgrow _;have B6:=O ((KY.o.alloc KY.o.size _).grown hgrow (by simp;omega) (λg hg=>by have:=jm RK.o g hg;omega));have S6:=O ((hS.o.alloc _).kept hgrow (by have:=mY hS.o RK.o (by decide);exact this));have O6:=O (ah hO.o B6.o);have BW6:=O (hB.o.trans (B6.o.mono hB.o.size));have OW:=O (show w6.ownsRow w0.heap.size 28 4 v1 (X ++ [aX N[i]]).length (zT (X ++ [aX N[i]])) by
       rw [List.length_append,bL];exact hown)
      have Oh:(X ++ [aX N[i]]).length<=201:=by simp;omega
      have HC6:=O (show∀j u,(zT V[i].P)[j]?=some u->w6.cell? (a2.add j)=some u from by
       obtain⟨b6,OY,q6,hs6⟩:=(HV.o.keep BW6.o).at h2
       have:=hs6.at_
       rw [EA.o] at this
       exact this.cells)
      have EV:V[i].v = .slice (some a2) V[i].n V[i].c:=by unfold Sl.v;rw [EA.o]
      rw [EV] at KG;clear hown hgrow RK hS KY HSL BW c0;generalize hX1:X ++ [aX N[i]]=X1 at OW IY Oh;clear hX1;have hsz6:=B6.o.size;go_wp2_with (first|(at_lookup;refine gx _ rfl _ _ 241 rfl 9 22 mV Tryz.underlying241 (ux _) w.heap.size k _ rfl O6.o _ _ rfl HK.o _ KG.o ?_)|(at_builtin;refine wpList_append_own _ rfl _ _ 22 rfl w0.heap.size 28 i0 _ 4 48 Tryz.underlying22 hi hz0 hz1 hz2 rfl (by decide) _ X1.length (zT X1) rfl OW.o a2 V[i].n V[i].c (zT V[i].P) rfl (by simp [aZ,LZ.o]) HC6.o (cz _) ?c1 ?c2 ?c3 ?_))
      case c1=>unfold maxLen;omega
      case c2=>omega
      case c3=>omega
      intro v2 w7 hown2 hgrow2 _;have B7:=O (B6.o.grown hgrow2 (by omega) (λg hg=>by have:=jm OW.o g hg;omega));have S7:=O (S6.o.kept hgrow2 (mY S6.o OW.o (by decide)));have MV:=O (show w7.ownsRow w0.heap.size 28 4 v2 (X1 ++ V[i].P).length (zT (X1 ++ V[i].P)) by
       rw [List.length_append,bL,<-LZ.o];exact hown2)
      rw [<-IY.o] at MV;have BW7:=O (hB.o.trans (B7.o.mono hB.o.size));have hf:=HFS.o (r+1);obtain⟨A7,c7,rfl,-,-,-⟩:=aT MV.o;clear hown2 hgrow2 OW B6 IY S6 O6 BW6 HC6 KG;by_cases bX:200<(zM n :: zL (S.take (r+1))).length
      ·have HE:=O (show aU N L=4 by
        rw [HRE.o,if_pos (by simp at bX;omega)])
       generalize (zM n :: zL (S.take (r+1))).length=G at bX;go_wp2_with fail;go_ret2;exact i6 HE.o (by decide) BW7.o
      ·have Na:(zM n :: zL (S.take (r+1))).length<=200:=by omega
       obtain⟨G,hG⟩:∃G,G=(zM n :: zL (S.take (r+1))).length:=⟨_,rfl⟩
       have OW3:=MV;rw [<-hG] at bX OW3;rw [<-hG];have HG:=O hG;clear hG;go_wp2_with fail;go_roundw
       case rel=>exact⟨r+1,by omega,by go_num,Na,by rw [HG.o];exact MV,S7,B7⟩
       case measure=>simp [intOf];omega
     ·have Ag:=O (show S.take r=S from List.take_of_length_le (by omega));rw [Ag.o] at hl2 hR;have HE:=O (show aU N L=0 by
       rw [HRE.o,if_neg (by have:=HFA.o;simp at hl2;omega)])
      obtain⟨A8,c8,rfl,hc8,hA8,hF8⟩:=aT hR.o;have HF8:=O (show∀a,A8=some a->w.heap.size<=a.block from λa e=>Nat.le_trans hB.o.size (hF8 a e));have NN:=O (show Ns wr A8 (zM n :: zL S).length c8 (dJ N L) by
       rw [Le.o HE.o,<-HN.o]
       refine⟨rfl,hc8,by unfold maxLen;omega,hA8,?_⟩
       intro x hx
       rcases List.mem_cons.1 hx with rfl|hx
       ·exact⟨Nat.zero_le _,Nat.zero_le _,by show _<=(n:Int);omega,by show(n:Int)<=_;omega⟩
       ·exact DL (Z:=S) (λy hy=>OQ.o y (ov.o y hy)) x hx)
      have BW:=O (hB.o.trans (KY.o.mono hB.o.size));clear hR hS hc8 hA8 hF8;go_wp2_with fail;go_ret2;exact⟨A8,_,c8,by rw [HE.o];rfl,NN.o,HF8.o,BW.o⟩
 ·have HE:=O (show aU N (V.map Sl.P)=1 by unfold aU;rw [if_neg (by rw [List.length_map,<-hn,<-hm];exact C6)]);have e0:(n != m)=true:=by rw [bne_iff_ne];exact C6
  clear C6 hn hm;go_enter Tryz.func138,Tryz.ntmps138;go_wp2_with fail;go_ret2;exact i6 (x:=1) HE.o (by decide) (Below.refl _ _)
end Go.Proofs.YtokiogmfgpidmaaGreatDoor
namespace Go.Proofs.YtokiogmfgpidmaaGreatDoor
open Go.RowKit Go.Wk Go.Sort
structure Cx where
 EA:Option Addr
 en:Nat
 ec:Nat
 E:List En
 q:Rq
 A:Option Addr
 n:Nat
 c:Nat
 P:List Nd
def Cx.env(k:Cx):Env:=⟨k.E,k.q.who,k.q.act,k.q.what,k.q.P⟩
structure Cg(w:World)(k:Cx):Prop where
 es:Es w k.EA k.en k.ec k.E
 rq:oV w k.q
 ns:Ns w k.A k.n k.c k.P
 door:aD w
 ok:aO k.env
theorem Cg.keep{w w':World}{k:Cx}(h:Cg w k)(hb:Below w.heap.size w w'):Cg w' k:=⟨h.es.keep hb,h.rq.keep hb,h.ns.keep hb,h.door.keep hb,h.ok⟩
def Cx.row(k:Cx)(p:Int):Array Value:=#[.slice k.EA k.en k.ec,.string k.q.who.1,.string k.q.who.2,.string k.q.act.1,.string k.q.act.2,.string k.q.what.1,.string k.q.what.2,.slice k.q.NA k.q.nn k.q.nc,.slice k.A k.n k.c,.int .i64 p]
structure ja(W w:World)(R:Nat)(k:Cx)(p:Int):Prop where
 base:Below W.heap.size W w
 hi:W.heap.size<=R
 ok:Cg W k
 row:∃t,w.heap[R]?=some (.cells (k.row p) t (0,0))
section
variable {W w w':World} {R:Nat} {k:Cx} {p:Int}
theorem ja.cx(h:ja W w R k p):Cg w k:=h.ok.keep h.base
theorem ja.cell(h:ja W w R k p){j:Nat}{v:Value}(hj:(k.row p)[j]?=some v):w.cell? ⟨R,j,none⟩=some v:=by
 obtain⟨t,e⟩:=h.row;exact zV e hj
theorem ja.c0(h:ja W w R k p):w.cell? ⟨R,0,none⟩=some (.slice k.EA k.en k.ec):=h.cell rfl
theorem ja.c1(h:ja W w R k p):w.cell? ⟨R,1,none⟩=some (.string k.q.who.1):=h.cell rfl
theorem ja.c2(h:ja W w R k p):w.cell? ⟨R,2,none⟩=some (.string k.q.who.2):=h.cell rfl
theorem ja.c3(h:ja W w R k p):w.cell? ⟨R,3,none⟩=some (.string k.q.act.1):=h.cell rfl
theorem ja.c4(h:ja W w R k p):w.cell? ⟨R,4,none⟩=some (.string k.q.act.2):=h.cell rfl
theorem ja.c5(h:ja W w R k p):w.cell? ⟨R,5,none⟩=some (.string k.q.what.1):=h.cell rfl
theorem ja.c6(h:ja W w R k p):w.cell? ⟨R,6,none⟩=some (.string k.q.what.2):=h.cell rfl
theorem ja.c7(h:ja W w R k p):w.cell? ⟨R,7,none⟩=some (.slice k.q.NA k.q.nn k.q.nc):=h.cell rfl
theorem ja.c8(h:ja W w R k p):w.cell? ⟨R,8,none⟩=some (.slice k.A k.n k.c):=h.cell rfl
theorem ja.c9(h:ja W w R k p):w.cell? ⟨R,9,none⟩=some (.int .i64 p):=h.cell rfl
theorem ja.lt(h:ja W w R k p):R<w.heap.size:=block_lt_of_cell h.c9
theorem ja.z(h:ja W w R k p)(j:Nat):w.frozen? ⟨R,j,none⟩=false:=by
 obtain⟨t,e⟩:=h.row;unfold World.frozen?;rw [e];simp
theorem ja.keep(h:ja W w R k p)(hb:Below w.heap.size w w'):ja W w' R k p:=by
 obtain⟨t,e⟩:=h.row;exact⟨h.base.trans (hb.mono h.base.size),h.hi,h.ok,t,(hb.block R h.lt).trans e⟩
theorem ja.put(h:ja W w R k p)(q:Int):ja W (w.setCell ⟨R,9,none⟩ (.int .i64 q)) R k q:=by
 obtain⟨b,hi,ok,t,e⟩:=h;refine⟨b.setCell (p:=⟨R,9,none⟩) hi _,hi,ok,t,?_⟩;simp only [World.setCell];rw [Array.getElem?_modify];simp [e,Cx.row]
theorem ja.fork(h:ja W w R k p){A:Option Addr}{n c:Nat}{V:List Nd}(hv:Ns w A n c V)(h0:0<V.length):∀a,A=some a->a.block≠R:=by
 intro a ha hR;subst ha;obtain⟨b,hb,q1,q2,-,-⟩:=hv.at_ 0 V[0] (List.getElem?_eq_getElem h0);injection hb with hb;subst hb;rw [show a.add (0*4)=a from rfl] at q1 q2;obtain⟨t,e⟩:=h.row;obtain⟨blk,off,spot⟩:=a;simp only at hR;subst hR;unfold World.cell? at q1 q2;simp only [e] at q1 q2;split at q1
 ·cases q1
 ·unfold Cx.row at q1 q2;rcases off with _|_|_|_|_|_|_|_|_|_|off <;> simp at q1 q2
theorem ja.ns(h:ja W w R k p){A:Option Addr}{n c:Nat}{V:List Nd}(hv:Ns w A n c V)(hg:w.grownBy w' (some R)):Ns w' A n c V:=hv.but hg λh0 a e=>h.fork hv h0 a e
end
structure br(w:World)(R:Nat)(k:Cx):Prop where
 c0:w.cell? ⟨R,0,none⟩=some (.slice k.EA k.en k.ec)
 es:Es w k.EA k.en k.ec k.E
 door:aD w
 e:jw k.E=0
theorem br.keep{w w':World}{R:Nat}{k:Cx}(h:br w R k)(hb:Below w.heap.size w w'):br w' R k:=⟨za hb h.c0,h.es.keep hb,h.door.keep hb,h.e⟩
theorem ja.y{W w:World}{R:Nat}{k:Cx}{p:Int}(h:ja W w R k p):br w R k:=⟨h.c0,h.cx.es,h.cx.door,h.ok.ok.e⟩
abbrev bj (k:Int):List PanicEntry := [{ v := .iface 41 (.int .i64 k),recovered:=false }]
def zU(w:World)(r:Res)(e:Ending)(w':World):Prop :=
 Below w.heap.size w w'/\match r with
  | .error x=>e = .panicked (bj x)
  | .ok V=>∃A n c,e = .returned (.slice A n c)/\Ns w' A n c V/\(∀a,A=some a->w.heap.size<=a.block)
def zZ(W w:World)(R:Nat)(k:Cx)(q:Int)(r:Res)(e:Ending)(w':World):Prop :=
 w.grownBy w' (some R)/\match r with
  | .error x=>e = .panicked (bj x)
  | .ok V=>(∃A n c,e = .returned (.slice A n c)/\Ns w' A n c V/\(∀a,A=some a->a.block<W.heap.size\/w.heap.size<=a.block))/\ja W w' R k q
def eV(W:World)(R:Nat)(k:Cx)(N:Nat):Prop :=
 ∀(x:Ex) (p:Nat) (w:World),ja W w R k (p:Int)->XAt k.P p false x->x.flat.length<=N->
  Calls Tryz.prog 30 #[.pointer (some ⟨R,0,none⟩)] w (zZ W w R k ((p+x.flat.length:Nat):Int) (evX k.env x))
theorem jZ{w:World}{A:Option Addr}{n c:Nat}{V:List Nd}(h:Ns w A n c V)(h0:0<V.length):∃a,A=some a/\1<=n/\Nd4 w a (hdN V)/\er (hdN V)/\zf V=(hdN V).op:=by
 obtain⟨a,ha,D⟩:=h.at_.nd h0;rw [show a.add (0*4)=a from rfl] at D;have e:hdN V=V[0]:=by
  cases V with
  | nil=>simp at h0
  | cons x r=>rfl
 refine⟨a,ha,by rw [h.len];exact h0,by rw [e];exact D,by rw [e];exact h.ok.at h0,?_⟩;rw [e];exact jB h0
theorem dr(A:Option Addr)(n c:Nat)(V:List Nd)(o:Int)(w:World)(h:Ns w A n c V)(h0:0<V.length):
 Calls Tryz.prog 137 #[.slice A n c,.int .i64 o] w λe w'=>e = .returned (.bool (zf V==o))/\Below w.heap.size w w':=by
 obtain⟨a,rfl,hn1,D,-,e⟩:=jZ h h0;have d0:=D.c0;rw [e];have hn:(0:Int)<(n:Int):=by omega
 generalize hdN V=x at *;clear h D e;go_enter Tryz.func137,Tryz.ntmps137;go_wp2_with fail;go_ret;exact⟨rfl,Below.refl _ _⟩
theorem zG(A:Option Addr)(n c:Nat)(V:List Nd)(o:Int)(w:World)(h:Ns w A n c V)(h0:0<V.length):
 Calls Tryz.prog 96 #[.slice A n c,.int .i64 o] w λe w'=>e=(if zf V=o then .returned (.slice A n c) else .panicked (bj 2))/\Below w.heap.size w w':=by
 have K:=O (dr A n c V o w h h0);clear h h0;by_cases g:zf V=o
 ·rw [if_pos g];have f1:(zf V==o)=true:=beq_iff_eq.2 g;rw [f1] at K;clear f1 g;go_enter Tryz.func96,Tryz.ntmps96;go_wp2_with fail;refine K.o.mono ?_;rintro e w1 ⟨rfl,b1⟩;have B1:=O b1;clear b1 K;go_wp2_with fail;go_ret;exact⟨rfl,B1.o⟩
 ·rw [if_neg g];have f1:(zf V==o)=false:=beq_eq_false_iff_ne.2 g;rw [f1] at K;clear f1 g;go_enter Tryz.func96,Tryz.ntmps96;go_wp2_with fail;refine K.o.mono ?_;rintro e w1 ⟨rfl,b1⟩;have B1:=O b1;clear b1 K;go_wp2_with fail;exact⟨rfl,rfl,B1.o⟩
theorem zU.up{w w1 w2:World}{r:Res}{e:Ending}(h:zU w1 r e w2)(hb:Below w.heap.size w w1):zU w r e w2:=by
 refine⟨hb.trans (h.1.mono hb.size),?_⟩
 cases r with
 | error x=>exact h.2
 | ok V =>
  obtain⟨A,n,c,he,hN,hF⟩:=h.2
  exact⟨A,n,c,he,hN,λa ha=>Nat.le_trans hb.size (hF a ha)⟩
theorem jx{w w1:World}{k:Int}(hb:Below w.heap.size w w1):zU w (.error k) (.panicked (bj k)) w1:=⟨hb,rfl⟩
theorem cR{V:List Nd}(h:zc V=0):0<V.length:=(zH.1 h).2.pos
theorem ij(w:World)(x:Nd)(hx:er x):zU w (.ok [x]) (.returned (.slice (some ⟨w.heap.size,0,none⟩) 1 1)) (w.alloc (.cells #[.int .i64 x.op,.int .i64 x.n,.string x.s,.string x.t] 28)):=
 ⟨zb w _,some ⟨w.heap.size,0,none⟩,1,1,rfl,ru w x hx,λa e=>by injection e with e;subst e;exact Nat.le_refl _⟩
theorem vG(op a b:Int):I64 (dn op a b):=by
 unfold dn;split
 ·split
  ·rename_i h;unfold bR at h;simpa [I64] using h
  ·unfold I64;omega
 ·unfold I64;omega
theorem nJ(o n:Int)(h:I64 n):er ⟨o,n,emp,emp⟩:=⟨Nat.zero_le _,Nat.zero_le _,h.1,h.2⟩
theorem jz(b:Bool)(w:World):Calls Tryz.prog 99 #[.bool b] w (zU w (.ok (zK b))):=by
 have T:=O (ij w ⟨1,if b then 1 else 0,emp,emp⟩ (nJ _ _ (by cases b <;>(unfold I64;decide))));rcases b with _|_
 ·go_enter Tryz.func99,Tryz.ntmps99;go_wp2_with fail;go_ret;exact T.o
 ·go_enter Tryz.func99,Tryz.ntmps99;go_wp2_with fail;go_ret;exact T.o
theorem fA(u:Ud)(w:World)(h1:u.1.size<=maxLen)(h2:u.2.size<=maxLen):Calls Tryz.prog 95 #[.agg #[.string u.1,.string u.2]] w (zU w (.ok (vK u))):=by
 obtain⟨s,t⟩:=u;have T:=O ((ij (w.alloc (.cells #[.string s,.string t] 36)) ⟨4,0,s,t⟩ ⟨h1,h2,(show -9223372036854775808<=(0:Int) by decide),(show(0:Int)<=9223372036854775807 by decide)⟩).up (zb w _));rw [World.size_alloc] at T;clear h1 h2;go_enter Tryz.func95,Tryz.ntmps95;go_wp2_with fail;go_ret;exact T.o
theorem nu(A:Option Addr)(n c:Nat)(V:List Nd)(w:World)(h:Ns w A n c V)(h0:0<V.length):
 Calls Tryz.prog 142 #[.slice A n c] w λe w'=>e = .returned (udV (jX V))/\Below w.heap.size w w':=by
 obtain⟨a,rfl,hn1,⟨d0,d1,d2,d3⟩,-,e⟩:=jZ h h0;have hn:(0:Int)<(n:Int):=by omega
 unfold jX udV;generalize hdN V=x at *;clear h e;have B0:=zb w (.cells #[.string ⟨#[]⟩,.string ⟨#[]⟩] 36);have hn0:0<n:=hn1;obtain⟨w0,hw0⟩:∃w0,w.alloc (.cells #[.string ⟨#[]⟩,.string ⟨#[]⟩] 36)=w0:=⟨_,rfl⟩
 have V0:=eI w (.string ⟨#[]⟩) (.string ⟨#[]⟩) 36;rw [hw0] at B0 V0;have e2:(⟨w0.heap,w0.tape,w0.drawn+1,w0.os,w0.output⟩:World).cell? ⟨a.block,a.off+2,none⟩=some (.string x.s):=za B0 d2;have e3:(⟨w0.heap,w0.tape,w0.drawn+1,w0.os,w0.output⟩:World).cell? ⟨a.block,a.off+3,none⟩=some (.string x.t):=za B0 d3;go_enter Tryz.func142,Tryz.ntmps142;go_wp2_with fail;have g2:=za B0 d2;have g3:=za B0 d3;clear e2 e3;obtain⟨v0,v1,z0,z1⟩:=V0;have hl:w.heap.size<w0.heap.size:=block_lt_of_cell v0;have hab:a.block<w.heap.size:=block_lt_of_cell d0;have k2:((w0.setCell ⟨w.heap.size,0,none⟩ (.string x.s)).setCell ⟨w.heap.size,1,none⟩ (.string x.t)).drew.cell? ⟨a.block,a.off+2,none⟩=some (.string x.s):=
  (World.cell?_setCell_other _ _ _ _ (by intro e;injection e with e;omega)).trans ((World.cell?_setCell_other _ _ _ _ (by intro e;injection e with e;omega)).trans g2)
 have k3:((w0.setCell ⟨w.heap.size,0,none⟩ (.string x.s)).setCell ⟨w.heap.size,1,none⟩ (.string x.t)).drew.cell? ⟨a.block,a.off+3,none⟩=some (.string x.t):=
  (World.cell?_setCell_other _ _ _ _ (by intro e;injection e with e;omega)).trans ((World.cell?_setCell_other _ _ _ _ (by intro e;injection e with e;omega)).trans g3)
 go_region_held3 (λw':World=>w'.cell? ⟨a.block,a.off+2,none⟩=some (.string x.s)/\w'.cell? ⟨a.block,a.off+3,none⟩=some (.string x.t)) (first|exact⟨g2,g3⟩|exact⟨k2,k3⟩) (fail);have u1:((w0.setCell ⟨w.heap.size,0,none⟩ (.string x.s)).setCell ⟨w.heap.size,1,none⟩ (.string x.t)).drew.cell? ⟨w.heap.size,1,none⟩=some (.string x.t):=
  World.cell?_setCell_same _ _ _ ((World.cell?_setCell_other w0 ⟨w.heap.size,0,none⟩ ⟨w.heap.size,1,none⟩ _ (by intro e;injection e with _ e;cases e)).trans v1)
 have u0:((w0.setCell ⟨w.heap.size,0,none⟩ (.string x.s)).setCell ⟨w.heap.size,1,none⟩ (.string x.t)).drew.cell? ⟨w.heap.size,0,none⟩=some (.string x.s):=
  (World.cell?_setCell_other _ _ _ _ (by intro e;injection e with _ e;cases e)).trans (World.cell?_setCell_same w0 _ _ v0)
 have B1:Below w.heap.size w ((w0.setCell ⟨w.heap.size,0,none⟩ (.string x.s)).setCell ⟨w.heap.size,1,none⟩ (.string x.t)).drew:=((B0.setCell (p:=⟨w.heap.size,0,none⟩) (Nat.le_refl _) _).setCell (p:=⟨w.heap.size,1,none⟩) (Nat.le_refl _) _).drew;generalize ((w0.setCell ⟨w.heap.size,0,none⟩ (.string x.s)).setCell ⟨w.heap.size,1,none⟩ (.string x.t)).drew=w2 at *;go_wp2_with fail;exact⟨rfl,.agg #[.string x.s,.string x.t],by simp [results,Tryz.results142,go_sem,u0,u1],rfl,B1⟩
theorem sF(v:Value)(w:World):Calls Tryz.prog 48 #[.nilIface,v] w λe w'=>e = .returned (.bool false)/\w'=w:=by
 go_enter Tryz.func48,Tryz.ntmps48;go_wp2_with fail;go_ret;exact⟨rfl,rfl⟩
theorem lz(v:Value)(n:Int)(w:World)(hg:aD w):Calls Tryz.prog 100 #[v,.iface 41 (.int .i64 n)] w λe w'=>e = .panicked (bj n)/\Below w.heap.size w w':=by
 have h1:=hg.alloc (.cells #[.int .i64 0] 41);have c1:=sn n ⟨w.heap.size,0,none⟩ (.int .i64 0) (w.alloc (.cells #[.int .i64 0] 41)) h1 (by simp) (by simp);have C1:=O c1;clear c1 h1;go_enter Tryz.func100,Tryz.ntmps100;go_wp2_with (go_at_call 48;refine C1.o.mono ?_;rintro e w' ⟨rfl,rfl⟩);exact⟨rfl,rfl,(by(repeat' (first|exact Below.refl _ _|refine Below.alloc ?_ ?_ _|refine Below.setCell ?_ ?_ _|refine Below.drew ?_|refine Below.drewN ?_ _))<;>(try simp)<;> omega)⟩
theorem kR(v:Value)(w:World):Calls Tryz.prog 100 #[v,.nilIface] w λe w'=>e = .returned v/\Below w.heap.size w w':=by
 have C1:=O (λx w=>sF x w);go_enter Tryz.func100,Tryz.ntmps100;go_wp2_with (go_at_call 48;refine(C1.o _ _).mono ?_;rintro e w' ⟨rfl,rfl⟩);go_ret;exact⟨rfl,zb _ _⟩
theorem cO(v:Value)(n:Int)(w:World)(hg:aD w):Calls Tryz.prog 102 #[v,.iface 41 (.int .i64 n)] w λe w'=>e = .panicked (bj n)/\Below w.heap.size w w':=by
 have h1:=hg.alloc (.cells #[.int .i64 0] 41);have c1:=sn n ⟨w.heap.size,0,none⟩ (.int .i64 0) (w.alloc (.cells #[.int .i64 0] 41)) h1 (by simp) (by simp);have C1:=O c1;clear c1 h1;go_enter Tryz.func102,Tryz.ntmps102;go_wp2_with (go_at_call 48;refine C1.o.mono ?_;rintro e w' ⟨rfl,rfl⟩);exact⟨rfl,rfl,(by(repeat' (first|exact Below.refl _ _|refine Below.alloc ?_ ?_ _|refine Below.setCell ?_ ?_ _|refine Below.drew ?_|refine Below.drewN ?_ _))<;>(try simp)<;> omega)⟩
theorem bT(v:Value)(w:World):Calls Tryz.prog 102 #[v,.nilIface] w λe w'=>e = .returned v/\Below w.heap.size w w':=by
 have C1:=O (λx w=>sF x w);go_enter Tryz.func102,Tryz.ntmps102;go_wp2_with (go_at_call 48;refine(C1.o _ _).mono ?_;rintro e w' ⟨rfl,rfl⟩);go_ret;exact⟨rfl,zb _ _⟩
theorem fK(v:Value)(n:Int)(w:World)(hg:aD w):Calls Tryz.prog 106 #[v,.iface 41 (.int .i64 n)] w λe w'=>e = .panicked (bj n)/\Below w.heap.size w w':=by
 have h1:=hg.alloc (.cells #[.int .i64 0] 41);have c1:=sn n ⟨w.heap.size,0,none⟩ (.int .i64 0) (w.alloc (.cells #[.int .i64 0] 41)) h1 (by simp) (by simp);have C1:=O c1;clear c1 h1;go_enter Tryz.func106,Tryz.ntmps106;go_wp2_with (go_at_call 48;refine C1.o.mono ?_;rintro e w' ⟨rfl,rfl⟩);exact⟨rfl,rfl,(by(repeat' (first|exact Below.refl _ _|refine Below.alloc ?_ ?_ _|refine Below.setCell ?_ ?_ _|refine Below.drew ?_|refine Below.drewN ?_ _))<;>(try simp)<;> omega)⟩
theorem fp(v:Value)(w:World):Calls Tryz.prog 106 #[v,.nilIface] w λe w'=>e = .returned v/\Below w.heap.size w w':=by
 have C1:=O (λx w=>sF x w);go_enter Tryz.func106,Tryz.ntmps106;go_wp2_with (go_at_call 48;refine(C1.o _ _).mono ?_;rintro e w' ⟨rfl,rfl⟩);go_ret;exact⟨rfl,zb _ _⟩
theorem tm(v:Value)(w:World):Calls Tryz.prog 145 #[v,.nilIface] w λe w'=>e = .returned v/\Below w.heap.size w w':=by
 have C1:=O (λx w=>sF x w);go_enter Tryz.func145,Tryz.ntmps145;go_wp2_with (go_at_call 48;refine(C1.o _ _).mono ?_;rintro e w' ⟨rfl,rfl⟩);go_ret;exact⟨rfl,zb _ _⟩
theorem gJ(p q:Addr)(w:World):
 CallsD Tryz.prog 116 #[.pointer (some p),.pointer (some q)] .returning w λe u' w'=>e = .returned (.tuple #[])/\u' = .returning/\w'=w:=by
 refine callsD_of_wpS Tryz.func116 rfl λc₀ cs hu=>?_;apply wpS_seq;apply wpS_region;simp [wpOpsS,go_sem,recoverD,hu,Tryz.ntmps116,Exit.thenS];refine wpS_of_wp ?_;go_wp2_with fail;cases c₀;simp_all [bodyPostS,results,Tryz.results116]
theorem ej(E F:Nat)(x:Int)(v0 v1:Value)(older:List PanicEntry)(w:World)(hE:w.cell? ⟨E,0,none⟩=some v0)(zE:w.frozen? ⟨E,0,none⟩=false)(hF:w.cell? ⟨F,0,none⟩=some v1)(zF:w.frozen? ⟨F,0,none⟩=false)(hne:E≠F):
 CallsD Tryz.prog 116 #[.pointer (some ⟨E,0,none⟩),.pointer (some ⟨F,0,none⟩)] (.panicking ({ v := .iface 41 (.int .i64 x),recovered:=false } :: older)) w λe u' w' =>
  e = .returned (.tuple #[])/\u' = .panicking ({ v := .iface 41 (.int .i64 x),recovered:=true } :: older)/\w'=((w.setCell ⟨E,0,none⟩ (.slice none 0 0)).setCell ⟨F,0,none⟩ (.iface 41 (.int .i64 x))):=by
 have hl:E<w.heap.size:=block_lt_of_cell hE;have hl2:F<w.heap.size:=block_lt_of_cell hF;have IZ:F≠E:=hne.symm;have hta:∀w,(Instr.typeAssert (.iface 41 (.int .i64 x)) 20 41 true).run Tryz.prog w = .ok (.tuple #[.int .i64 x,.bool true]) w:=λ_=>by kernel_rfl
 refine callsD_of_wpS Tryz.func116 rfl λc₀ cs hu=>?_;apply wpS_seq;apply wpS_region;simp [wpOpsS,go_sem,recoverD,hu,Tryz.ntmps116];refine wpS_of_wp ?_;go_wp2_with fail;cases c₀;simp [bodyPostS,results,Tryz.results116]
theorem ja.node{W w:World}{R:Nat}{k:Cx}{p:Nat}(h:ja W w R k (p:Int)){n:Nd}{ps:Exs}{f:Bool}(hx:XAt k.P p f (.node n ps)):
 ∃a,k.A=some a/\p<k.n/\Nd4 w (a.add (p*4)) n/\er n:=by
 have hh:=hx.head;have hl:p<k.P.length:=(List.getElem?_eq_some_iff.1 hh).1;have he:k.P[p]=n:=(List.getElem?_eq_some_iff.1 hh).2;obtain⟨a,ha,D⟩:=h.cx.ns.at_.nd hl;rw [he] at D;have ho:=h.cx.ns.ok.at hl;rw [he] at ho;exact⟨a,ha,by rw [h.cx.ns.len];exact hl,D,ho⟩
theorem nZ{W w:World}{R:Nat}{k:Cx}{p:Int}(h:ja W w R k p)(q:Int):ja W (w.setCell ⟨R,9,none⟩ (.int .i64 q)) R k q/\w.grownBy (w.setCell ⟨R,9,none⟩ (.int .i64 q)) (some R):=⟨h.put q,zB w ⟨R,9,none⟩ _⟩
theorem ax{W w:World}{R:Nat}{k:Cx}{p:Int}(h:ja W w R k p)(o:Obj):ja W ((w.setCell ⟨R,9,none⟩ (.int .i64 (p+1))).alloc o).drew R k (p+1)/\w.grownBy ((w.setCell ⟨R,9,none⟩ (.int .i64 (p+1))).alloc o).drew (some R):=by
 obtain⟨h1,g1⟩:=nZ h (p+1);exact⟨(h1.keep (zb _ o)).keep (z6 _),zg (zg g1 (zj (zb _ o) _)) (zj (z6 _) _)⟩
theorem dQ{W w:World}{R:Nat}{k:Cx}{p:Nat}(h:ja W w R k (p:Int)){f:Bool}{x:Ex}(hx:XAt k.P p f x):
 Calls Tryz.prog 97 #[.pointer (some ⟨R,0,none⟩)] w λe w'=>e = .returned (.tuple #[])/\ja W w' R k ((p+x.flat.length:Nat):Int)/\w.grownBy w' (some R):=by
 have E0:=O (h.keep (z6 w));have K:=O (pA k.A k.n k.c k.P p f x w.drew (E0.o.cx.ns) hx);have S0:w.drew.cell? ⟨R,8,none⟩=some (.slice k.A k.n k.c)/\w.drew.cell? ⟨R,9,none⟩=some (.int .i64 p):=⟨h.c8,h.c9⟩
 generalize p+x.flat.length=q at *;clear h hx;go_enter Tryz.func97,Tryz.ntmps97;refine aE (λ(w':World)=>w'.cell? ⟨R,8,none⟩=some (.slice k.A k.n k.c)/\w'.cell? ⟨R,9,none⟩=some (.int .i64 p)) 12 (by kernel_rfl) S0 (λhHeld=>?_);refine zw 0 2 (.pointer (some ⟨R,0,none⟩)) rfl (λw' hSw=>?_) hHeld ?_
 ·obtain⟨a0,a1⟩:=hSw;go_simp
 simp only [Act.put,zA];refine zw 1 3 (.pointer (some ⟨R,0,none⟩)) rfl (λw' hSw=>?_) hHeld ?_
 ·obtain⟨a0,a1⟩:=hSw;go_simp
 simp only [Act.put,zA];refine zw 2 4 (.pointer (some ⟨R,0,none⟩)) rfl (λw' hSw=>?_) hHeld ?_
 ·obtain⟨a0,a1⟩:=hSw;go_simp
 simp only [Act.put,zA];refine zw 3 5 (.pointer (some ⟨R,8,none⟩)) rfl (λw' hSw=>?_) hHeld ?_
 ·obtain⟨a0,a1⟩:=hSw;go_simp
 simp only [Act.put,zA];refine zw 4 6 (.slice k.A k.n k.c) rfl (λw' hSw=>?_) hHeld ?_
 ·obtain⟨a0,a1⟩:=hSw;go_simp
 simp only [Act.put,zA];refine zw 5 7 (.pointer (some ⟨R,0,none⟩)) rfl (λw' hSw=>?_) hHeld ?_
 ·obtain⟨a0,a1⟩:=hSw;go_simp
 simp only [Act.put,zA];refine zw 6 8 (.pointer (some ⟨R,0,none⟩)) rfl (λw' hSw=>?_) hHeld ?_
 ·obtain⟨a0,a1⟩:=hSw;go_simp
 simp only [Act.put,zA];refine zw 7 9 (.pointer (some ⟨R,9,none⟩)) rfl (λw' hSw=>?_) hHeld ?_
 ·obtain⟨a0,a1⟩:=hSw;go_simp
 simp only [Act.put,zA];refine zw 8 10 (.int .i64 p) rfl (λw' hSw=>?_) hHeld ?_
 ·obtain⟨a0,a1⟩:=hSw;go_simp
 simp only [Act.put,zA];refine zR (i:=9) (o:=⟨some 11,_,_,_,_,_⟩) (by kernel_rfl) rfl (λK' hK'=>?_);go_simp;go_at_call 33;refine K.o.mono ?_;rintro e w1 ⟨rfl,b1⟩;have E1:=O (E0.o.keep b1);have G1:=O (zg (zj (z6 w) (some R)) (zj b1 (some R)));clear b1;go_wp2_with fail;refine hK'.out _ _ (λ_=>⟨E1.o.c8,E1.o.c9⟩) ?_;clear hK' K' hHeld
 try simp only [Act.put,zA]
 refine zR (i:=10) (o:=⟨some 12,_,_,_,_,_⟩) (by kernel_rfl) rfl (λK' hK'=>?_);go_simp;refine hK'.out _ _ (λ_=>⟨E1.o.c8,E1.o.c9⟩) ?_;clear hK' K'
 try simp only [Act.put,zA]
 refine zR (i:=11) (o:=⟨some 13,_,_,_,_,_⟩) (by kernel_rfl) rfl (λK' hK'=>?_);go_simp;refine hK'.out _ _ (λ_=>⟨E1.o.c8,E1.o.c9⟩) ?_;clear hK' K'
 try simp only [Act.put,zA]
 have j9:=E1.o.c9;have z9:=E1.o.z 9;have px:=E1.o.lt;refine zR (i:=12) (o:=⟨none,_,_,_,_,_⟩) (by kernel_rfl) rfl (λK' hK'=>?_);go_simp;refine hK'.out _ _ (λh=>absurd rfl h) ?_;refine aF (by kernel_rfl) ?_;clear hK' K';exact⟨rfl,.tuple #[],by simp [results,Tryz.results97,go_sem],rfl,(nZ E1.o q).1,zg G1.o (nZ E1.o q).2⟩
theorem Hw{W w:World}{R:Nat}{k:Cx}{p:Int}(h:ja W w R k p)(n:Nd)(ho:er n):zZ W w R k (p+1) (.ok [n]) (.returned (.slice (some ⟨w.heap.size+1,0,none⟩) 1 1))
 (((w.setCell ⟨R,9,none⟩ (.int .i64 (p+1))).alloc (.cells #[.int .i64 n.op,.int .i64 n.n,.string n.s,.string n.t] 28)).alloc (.cells #[.int .i64 n.op,.int .i64 n.n,.string n.s,.string n.t] 28)).drew:=by
 obtain⟨h1,g1⟩:=nZ h (p+1);have hz:(((w.setCell ⟨R,9,none⟩ (.int .i64 (p+1))).alloc (.cells #[.int .i64 n.op,.int .i64 n.n,.string n.s,.string n.t] 28))).heap.size=w.heap.size+1:=by simp [World.setCell]
 have b1:=zb (w.setCell ⟨R,9,none⟩ (.int .i64 (p+1))) (.cells #[.int .i64 n.op,.int .i64 n.n,.string n.s,.string n.t] 28);have b2:=zb ((w.setCell ⟨R,9,none⟩ (.int .i64 (p+1))).alloc (.cells #[.int .i64 n.op,.int .i64 n.n,.string n.s,.string n.t] 28)) (.cells #[.int .i64 n.op,.int .i64 n.n,.string n.s,.string n.t] 28);have hN:=ru ((w.setCell ⟨R,9,none⟩ (.int .i64 (p+1))).alloc (.cells #[.int .i64 n.op,.int .i64 n.n,.string n.s,.string n.t] 28)) n ho;rw [hz] at hN;exact⟨zg (zg (zg g1 (zj b1 _)) (zj b2 _)) (zj (z6 _) _),⟨_,_,_,rfl,hN.keep (z6 _),λa e=>by injection e with e;subst e;exact .inr (Nat.le_succ _)⟩,((h1.keep b1).keep b2).keep (z6 _)⟩
theorem Ax{W w:World}{R:Nat}{k:Cx}{p:Nat}(h:ja W w R k (p:Int))(n:Nd)(ps:Exs)(hx:XAt k.P p false (.node n ps))(h14:1<=n.op/\n.op<=4)(hp:zt n=0):
 Calls Tryz.prog 30 #[.pointer (some ⟨R,0,none⟩)] w (zZ W w R k ((p+(Ex.node n ps).flat.length:Nat):Int) (evX k.env (.node n ps))):=by
 have HR:=O (show evX k.env (.node n ps)= .ok [n] by rw [evX,if_pos h14]);rw [HR.o,(hx.none hp).2];have ways:n.op=1\/n.op=2\/n.op=3\/n.op=4:=by omega
 obtain⟨a,ha,Gi,D,ho⟩:=h.node hx;obtain⟨o,v,s,t⟩:=n;obtain⟨d0,d1,d2,d3⟩:=D;dsimp only at d0 d1 d2 d3 ways;have hm:=h.cx.ns.max;unfold maxLen at hm;have c8:w.cell? ⟨R,8,none⟩=some (.slice (some a) k.n k.c):=by rw [<-ha];exact h.c8
 have c9:=h.c9;have z9:=h.z 9;have px:=h.lt;have HO:=O ho;have E1:=O (ax h (.cells #[.int .i64 o,.int .i64 v,.string s,.string t] 28)).1;have G1:=O (ax h (.cells #[.int .i64 o,.int .i64 v,.string s,.string t] 28)).2;have nw8:=World.new_ne w ⟨R,8,none⟩ c8;have nw9:=World.new_ne w ⟨R,9,none⟩ c9;have nd0:=World.new_ne w _ d0;have nd1:=World.new_ne w _ d1;have nd2:=World.new_ne w _ d2;have nd3:=World.new_ne w _ d3;have IK:(0:Int)<=(p:Int):=by omega
 have ER:=O (Hw h ⟨o,v,s,t⟩ ho);generalize k.n=kn at *;have dK:(p:Int)<(kn:Int):=by omega
 clear ha ho hx h hp h14 HR;go_enter Tryz.func30,Tryz.ntmps30;go_wp2_with fail;go_region_held3 (λw':World=>w'.cell? ⟨R,8,none⟩=some (.slice (some a) kn k.c)/\w'.cell? ⟨R,9,none⟩=some (.int .i64 p)/\w'.cell? (a.add (p*4))=some (.int .i64 o)/\w'.cell? ⟨(a.add (p*4)).block,(a.add (p*4)).off+1,none⟩=some (.int .i64 v)/\w'.cell? ⟨(a.add (p*4)).block,(a.add (p*4)).off+2,none⟩=some (.string s)/\w'.cell? ⟨(a.add (p*4)).block,(a.add (p*4)).off+3,none⟩=some (.string t)) (go_keep) (fail);rcases ways with rfl|rfl|rfl|rfl
 all_goals
  go_wp2_with fail;go_ret;exact ER.o
theorem tM(A:Option Addr)(n c:Nat)(V:List Sl)(nv:Value)(w:World)(hn:n=V.length)(hm:n<=1000)(hV:aw w A V)(hd:aD w):
 Calls Tryz.prog 98 #[.int .i64 5,nv,.slice A n c] w (zU w (je (Wk.setE (V.map Sl.P)) (dH (V.map Sl.P)))):=by
 have K:=O (wE A n c V w hn (by omega) hV);unfold vr at K;generalize V.map Sl.P=L at *;have HD:=O hd;clear hn hm hV hd;by_cases z:Wk.setE L=0
 ·have HT:=O (show je (Wk.setE L) (dH L)= .ok (dH L) by unfold je;rw [if_pos z]);rw [HT.o];rw [z,zk] at K;clear z;go_enter Tryz.func98,Tryz.ntmps98;go_wp2_with fail;refine K.o.mono ?_;rintro e w1 ⟨A2,n2,c2,rfl,hN,hF,b1⟩;have B1:=O b1;have HN:=O hN;have HF:=O hF;clear b1 hN hF K;go_wp2_with fail;refine(fp (.slice A2 n2 c2) w1).mono ?_;rintro e w2 ⟨rfl,b2⟩;have B2:=bh B1 b2;have vX:=O (HN.o.keep b2);clear b2 B1 HN;go_wp2_with fail;go_ret;exact⟨B2.o,A2,n2,c2,rfl,vX.o,HF.o⟩
 ·have HT:=O (show je (Wk.setE L) (dH L)= .error (Wk.setE L) by unfold je;rw [if_neg z]);rw [HT.o];rw [zn z] at K;generalize Wk.setE L=u at *;clear z;go_enter Tryz.func98,Tryz.ntmps98;go_wp2_with fail;refine K.o.mono ?_;rintro e w1 ⟨A2,n2,c2,rfl,-,-,b1⟩;have B1:=O b1;clear b1 K;go_wp2_with fail;refine(fK (.slice A2 n2 c2) u w1 (HD.o.keep B1.o)).mono ?_;rintro e w2 ⟨rfl,b2⟩;have B2:=bh B1 b2;clear b2 B1;go_wp2_with fail;exact⟨rfl,jx B2.o⟩
theorem tj(A:Option Addr)(n c:Nat)(N:List ByteArray)(A':Option Addr)(m c':Nat)(V:List Sl)(w:World)(hn:n=N.length)(hn2:n<=1000)(hT:mx w A N)(hz:∀x∈N,x.size<=maxLen)(hm:m=V.length)(KH:m<=1000)(hV:aw w A' V)(hd:aD w):
 Calls Tryz.prog 98 #[.int .i64 6,.slice A n c,.slice A' m c'] w (zU w (je (aU N (V.map Sl.P)) (dJ N (V.map Sl.P)))):=by
 have K:=O (xY A n c N A' m c' V w hn (by omega) hT hz hm (by omega) hV);unfold nP at K;generalize V.map Sl.P=L at *;have HD:=O hd;clear hn hm hV hd hn2 KH hT hz;by_cases z:aU N L=0
 ·have HT:=O (show je (aU N L) (dJ N L)= .ok (dJ N L) by unfold je;rw [if_pos z]);rw [HT.o];rw [z,zk] at K;clear z;go_enter Tryz.func98,Tryz.ntmps98;go_wp2_with fail;refine K.o.mono ?_;rintro e w1 ⟨A2,n2,c2,rfl,hN,hF,b1⟩;have B1:=O b1;have HN:=O hN;have HF:=O hF;clear b1 hN hF K;go_wp2_with fail;refine(fp (.slice A2 n2 c2) w1).mono ?_;rintro e w2 ⟨rfl,b2⟩;have B2:=bh B1 b2;have vX:=O (HN.o.keep b2);clear b2 B1 HN;go_wp2_with fail;go_ret;exact⟨B2.o,A2,n2,c2,rfl,vX.o,HF.o⟩
 ·have HT:=O (show je (aU N L) (dJ N L)= .error (aU N L) by unfold je;rw [if_neg z]);rw [HT.o];rw [zn z] at K;generalize aU N L=u at *;clear z;go_enter Tryz.func98,Tryz.ntmps98;go_wp2_with fail;refine K.o.mono ?_;rintro e w1 ⟨A2,n2,c2,rfl,-,-,b1⟩;have B1:=O b1;clear b1 K;go_wp2_with fail;refine(fK (.slice A2 n2 c2) u w1 (HD.o.keep B1.o)).mono ?_;rintro e w2 ⟨rfl,b2⟩;have B2:=bh B1 b2;clear b2 B1;go_wp2_with fail;exact⟨rfl,jx B2.o⟩
theorem zO.past{w w':World}{B R:Nat}{v:Value}{V:List Sl}(h:zO w B v V)(hg:w.grownBy w' (some R))(hR:R<B)(ha:∀r∈V,aG r (some R)):zO w' B v V:=h.row hg (gP h.own hR) ha
theorem ja.apart{W w:World}{R:Nat}{k:Cx}{p:Int}(h:ja W w R k p){r:Sl}(hr:Ns w r.A r.n r.c r.P):aG r (some R):=λh0 a e q=>by
 injection q with q;exact h.fork hr h0 a e q.symm
theorem ja.far{W w w':World}{R:Nat}{k:Cx}{p:Int}{g:Option Nat}(h:ja W w R k p)(hg:w.grownBy w' g)(hne:∀x,g=some x->R<x):ja W w' R k p:=by
 obtain⟨t,e⟩:=h.row;exact⟨h.base.grown hg h.base.size (λx hx=>Nat.le_trans h.hi (Nat.le_of_lt (hne x hx))),h.hi,h.ok,t,(hg.block R h.lt (λq=>by have:=hne R q.symm;omega)).trans e⟩
theorem kE{w w1 w2:World}{r g:Option Nat}(h:w.grownBy w1 r)(k:w1.grownBy w2 g)(hg:∀x,g=some x->w.heap.size<=x):w.grownBy w2 r :=
 ⟨k.os.trans h.os,k.tape.trans h.tape,k.output.trans h.output,Nat.le_trans h.size k.size,λi hi hn=>(k.block i (Nat.lt_of_lt_of_le hi h.size) (λe=>by have:=hg i e.symm;omega)).trans (h.block i hi hn)⟩
theorem cP{W w w1 w2:World}{R:Nat}{k:Cx}{q:Int}{r:Res}{e:Ending}(h:zU w1 r e w2)(E:ja W w1 R k q)(G:w.grownBy w1 (some R)):zZ W w R k q r e w2:=by
 refine⟨zg G (zj h.1 _),?_⟩
 cases r with
 | error x=>exact h.2
 | ok V =>
  obtain⟨A,n,c,he,hN,hF⟩:=h.2
  exact⟨⟨A,n,c,he,hN,λa ha => .inr (Nat.le_trans G.size (hF a ha))⟩,E.keep h.1⟩
theorem gV{W w:World}{R B:Nat}{k:Cx}{p:Int}{v:Value}{n:Nat}{xs:List Value}{t:TypeId}{z:Nat}(h:ja W w R k p)(hR:R<B)(hv:w.ownsRow B t z v n xs)(r:Sl)(hF:∀a,r.A=some a->a.block<W.heap.size\/w.heap.size<=a.block):aG r v.ownBlock:=λ_ a e q=>by
 have h1:=bK hv a.block q;have h2:=jm hv a.block q;have h3:=h.hi;rcases hF a e with h4|h4 <;> omega
def BL:Except Int (List (List Nd))->Res
 | .error e => .error e
 | .ok L=>je (Wk.setE L) (dH L)
def Dc:Except Int (List (ByteArray × List Nd))->Res
 | .error e => .error e
 | .ok L=>je (aU (L.map Prod.fst) (L.map Prod.snd)) (dJ (L.map Prod.fst) (L.map Prod.snd))
theorem EI{x:Except Int (List (List Nd))}{e:Int}(h:x = .error e):BL x = .error e:=by rw [h];rfl
theorem GT{x:Except Int (List (List Nd))}{L:List (List Nd)}(h:x = .ok L):BL x=je (Wk.setE L) (dH L):=by rw [h];rfl
theorem Fh{x:Except Int (List (ByteArray × List Nd))}{e:Int}(h:x = .error e):Dc x = .error e:=by rw [h];rfl
theorem It{x:Except Int (List (ByteArray × List Nd))}{L:List (ByteArray × List Nd)}(h:x = .ok L):Dc x=je (aU (L.map Prod.fst) (L.map Prod.snd)) (dJ (L.map Prod.fst) (L.map Prod.snd)):=by rw [h];rfl
def iW(L:List (List Nd)):Except Int (List (List Nd))->Except Int (List (List Nd))
 | .error e => .error e
 | .ok M => .ok (L ++ M)
theorem tG(x:Except Int (List (List Nd))):iW [] x=x:=by cases x <;> rfl
theorem tV{σ:Env}{L:List (List Nd)}{a:Ex}{r:Exs}{e:Int}(h:evX σ a = .error e):iW L (evS σ (.cons a r))= .error e:=by rw [evS,h];rfl
theorem yU{σ:Env}{L:List (List Nd)}{a:Ex}{r:Exs}{U:List Nd}(h:evX σ a = .ok U):iW L (evS σ (.cons a r))=iW (L ++ [U]) (evS σ r):=by
 rw [evS,h];simp only;rcases evS σ r with e|M
 ·rfl
 ·simp [iW]
end Go.Proofs.YtokiogmfgpidmaaGreatDoor
