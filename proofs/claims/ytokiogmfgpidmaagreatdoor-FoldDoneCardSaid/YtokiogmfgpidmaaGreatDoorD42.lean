/-
  The reference's Parts; lists of lists alike. The document's Field: what a ..
-/
import Derived.Test.YtokiogmfgpidmaaGreatDoorD40
set_option maxRecDepth 100000
set_option maxHeartbeats 8000000
namespace Go.Wk
def PI(P:List Nd):List ByteArray:=if zf P=5 then(zg P).map (λ_=>⟨#[]⟩) else(zo P).map (·.1)
end Go.Wk
namespace Go.Proofs.YtokiogmfgpidmaaGreatDoor
open Go.RowKit Go.Wk Go.Sort
def Ke(w:World)(L:List (List Nd))(N:List ByteArray)(e:Ending)(w':World):Prop :=
 ∃(v v':Value) (V:List Sl),e = .returned (.tuple #[v,v'])/\jI w' w.heap.size v v' V N/\V.map Sl.P=L/\Below w.heap.size w w'
def WN(A:Option Addr)(r:Sl):Prop:=∀a',r.A=some a'->∃a0,A=some a0/\a'.block=a0.block
def OZ(A:Option Addr)(w:World)(L:List (List Nd))(N:List ByteArray)(e:Ending)(w':World):Prop :=
 ∃(v v':Value) (V:List Sl),e = .returned (.tuple #[v,v'])/\jI w' w.heap.size v v' V N/\V.map Sl.P=L/\Below w.heap.size w w'/\∀r∈V,WN A r
theorem Vp(a:Addr)(k:Nat):(a.add k).block=a.block:=by unfold Addr.add;split <;> rfl
theorem Kp{w w1:World}{B n:Nat}{e:TypeId}{size:Nat}{v:Value}{xs:List Value}(h:w1.ownsRow B e size v n xs){r:Sl}(hr:Ns w r.A r.n r.c r.P)(hB:w.heap.size<=B):td r v.ownBlock:=by
 intro h0 a ea q;have:=zR h a.block q;have:=hr.at_.lt h0 a ea;omega
theorem OO(A:Option Addr)(n c:Nat)(P:List Nd)(w:World)(h:Ns w A n c P)(hv:zc P=0)(h5:zf P=5):
 Calls Tryz.prog 123 #[.slice A n c] w (OZ A w (zg P) (PI P)):=by
 obtain⟨i0,hi,hz0,hz1,hz2⟩:=info_parts ML;obtain⟨j0,hj,jz0,jz1,jz2⟩:=info_parts OC;obtain⟨Ms,hV⟩:=zH.1 hv;have hpos:=hV.pos;obtain⟨a,rfl,D⟩:=h.at_.nd hpos;have hn:=h.len;obtain⟨hs0,_,hop,hx0,hN⟩:=za2 hV h5;have hE:zg P=kn P (zl P (P.length+1)) P[0].n.toNat 1:=by unfold zg;rw [hN]
 rw [hN] at hs0;obtain⟨-,-,-,hhi⟩:=h.ok.at hpos;have K:=O (λq w' (hb:Below w.heap.size w w')=>(Yw (some a) P n c hn h.cap h.max h.ok (P.length+1)).1 q w' (h.at_.keep hb) (by omega));have HPN:=O (show PI P=(zg P).map (λ_=>⟨#[]⟩) by unfold PI;rw [if_pos h5]);have HN:=O h;have HL:=O hn;have H0:=O hs0;have HE:=O hE;rw [show a.add (0*4)=a from rfl] at D;obtain⟨d0,d1,d2,d3⟩:=D;rw [hop] at d0;have zhh:=h.cap;generalize P[0]=x at *;have zfd:n<=200:=by omega
 have hn1:0<n:=by omega
 clear h hv h5 hV hn hs0 hE hN Ms hop d2 d3;go_enter Tryz.func123,Tryz.ntmps123;go_wp2_with fail;go_loopw [4,5,6,7,8,9] (λv v' at_ i _ _ wr=>∃(k q:Nat) (V:List Sl),i = .int .i64 k/\at_ = .int .i64 q/\(k:Int)<=x.n/\q<=n/\k+1<=q/\V.length=k/\Hid (zg P=V.map Sl.P ++ kn P (zl P (P.length+1)) (x.n.toNat-k) q)/\
  Hid (∃lo,zY P (zl P (P.length+1)) (x.n.toNat-k) lo q=some P.length)/\Hid (jI wr w.heap.size v v' V (V.map λ_=>⟨#[]⟩))/\Hid (Below w.heap.size w wr)/\Hid (∀r∈V,WN (some a) r)) (λ_ _ _ i _ _ _=>(x.n-intOf i).toNat)
 case atStart=>exact⟨0,1,[],rfl,rfl,hx0,hn1,by omega,rfl,HE.o,⟨none,H0.o⟩,⟨zX.nil _ _,World.ownsRow_nil _ _ _ 1,.inl rfl,(by intro r hr;cases hr)⟩,Below.refl _ _,(by intro r hr;cases hr)⟩
 case round =>
  obtain⟨k,q,V,rfl,rfl,hk,hq,hkq,hVl,hE,hS,hT,hB,zei⟩:=hrel;have e0:=za hB.o d0;have e1:=za hB.o d1;by_cases hlt:(k:Int)<x.n
  ·obtain⟨e,hf,hS',hsp⟩:=Sa (by omega) hS.o;have hle:=jN _ _ _ hf;rw [<-HL.o] at hle;have C:=O (K.o q wr hB.o);rw [hf] at C;simp only [Jn] at C;have Kq:=O (hE.o.trans (by rw [hsp]:_=V.map Sl.P ++(seg P q e :: kn P (zl P (P.length+1)) (x.n.toNat-(k+1)) e)));have HS2:=O hS';have Gy:=O (QU HN.o (show q<=e by omega) hle.2);clear hE hS hS' hsp hf;go_wp2_with fail;refine(C.o).mono ?_;rintro e w1 ⟨rfl,b1⟩;have B1:=bh hB b1;have T1:=O (hT.o.keep b1);have A1:=O (Kp (r:=⟨some (a.add (q*4)),e-q,c-q,seg P q e⟩) T1.o.a.own Gy.o (Nat.le_refl _));have A2:=O (Kp (r:=⟨some (a.add (q*4)),e-q,c-q,seg P q e⟩) T1.o.b Gy.o (Nat.le_refl _));have zmr:=B1.o.size;clear b1 hT hB e0 e1;go_wp2_with (at_builtin;refine wpList_append_own_at _ rfl _ _ 84 rfl w.heap.size 22 i0 _ 1 24 Tryz.underlying84 hi hz0 hz1 hz2 rfl (by decide) _ V.length (V.map Sl.v) rfl (T1.o.a.own.alloc _) ⟨_,0,none⟩ 1 1 [.slice (some (a.add (q*4))) (e-q) (c-q)] rfl rfl (cell_one_new _ _ _) (by intro u hu;simp only [List.mem_cons,List.not_mem_nil,or_false] at hu;subst hu;rfl) ?c1 ?c2 ?c3 ?_)
   case c1=>unfold maxLen;omega
   case c2=>omega
   case c3=>simp;omega
   intro v1 w2 hown hgrow _ hat;have T2:=O (T1.o.part (r:=⟨some (a.add (q*4)),e-q,c-q,seg P q e⟩) (Gy.o.keep B1.o) A1.o A2.o (by rw [hVl];exact hown) hgrow (by simpa using hat));have B2:=O ((B1.o.alloc B1.o.size _).grown hgrow (by simp;omega) (λg hg=>by have:=zR T1.o.a.own g hg;omega));have Zy:=B2.o.size;clear hown hgrow hat A1 A2 T1 B1;go_wp2_with (at_builtin;refine wpList_append_own_at _ rfl _ _ 85 rfl w.heap.size 9 j0 _ 1 16 Tryz.underlying85 hj jz0 jz1 jz2 rfl (by decide) _ (V.map λ_=>(⟨#[]⟩:ByteArray)).length ((V.map λ_=>(⟨#[]⟩:ByteArray)).map Value.string) rfl (T2.o.b.alloc _) ⟨_,0,none⟩ 1 1 [.string ⟨#[]⟩] rfl rfl (cell_one_new _ _ _) (by intro u hu;simp only [List.mem_cons,List.not_mem_nil,or_false] at hu;subst hu;rfl) ?d1 ?d2 ?d3 ?_)
   case d1=>simp;unfold maxLen;omega
   case d2=>simp;omega
   case d3=>simp;omega
   intro v2 w3 hown hgrow _ hat;have T3:=O (T2.o.name (s:=⟨#[]⟩) (by simpa [hVl] using hown) hgrow (by simpa using hat));have B3:=O ((B2.o.alloc B2.o.size _).grown hgrow (by simp;omega) (λg hg=>by have:=zR T2.o.b g hg;omega));have HE3:=O (Kq.o.trans (show _=(V ++ [(⟨some (a.add (q*4)),e-q,c-q,seg P q e⟩:Sl)]).map Sl.P ++ kn P (zl P (P.length+1)) (x.n.toNat-(k+1)) e by simp));have T4:=O (show jI w3 w.heap.size v1 v2 (V ++ [(⟨some (a.add (q*4)),e-q,c-q,seg P q e⟩:Sl)]) ((V ++ [(⟨some (a.add (q*4)),e-q,c-q,seg P q e⟩:Sl)]).map λ_=>⟨#[]⟩) by
    rw [List.map_append];exact T3.o)
   have hl4:(V ++ [(⟨some (a.add (q*4)),e-q,c-q,seg P q e⟩:Sl)]).length=k+1:=by simp [hVl]
   have HO4:=O (show∀r∈V ++ [(⟨some (a.add (q*4)),e-q,c-q,seg P q e⟩:Sl)],WN (some a) r from λr hr=>by
    rcases List.mem_append.1 hr with h1|h1
    ·exact zei.o r h1
    ·simp only [List.mem_cons,List.not_mem_nil,or_false] at h1
     subst h1
     intro a' ea
     injection ea with ea
     subst ea
     exact⟨a,rfl,Vp _ _⟩)
   clear hown hgrow hat Kq B2 T2 T3 zei;go_wp2_with fail;go_roundw
   case rel=>exact⟨k+1,e,_,by go_num,rfl,by omega,by omega,by omega,hl4,HE3,HS2,T4,B3,HO4⟩
   case measure=>simp [intOf];omega
  ·have HG:=O (hE.o.trans (show _=V.map Sl.P by rw [show x.n.toNat-k=0 by omega];simp [kn]));have HT:=O (show jI wr w.heap.size u4 u5 V (PI P) by
    rw [HPN.o,HG.o,List.map_map];exact hT.o)
   clear hE hS hT;go_wp2_with fail;go_ret2;exact⟨_,_,V,rfl,HT.o,HG.o.symm,hB.o,zei.o⟩
theorem QE(A:Option Addr)(n c:Nat)(P:List Nd)(w:World)(h:Ns w A n c P)(hv:zc P=0)(h5:zf P=5):
 Calls Tryz.prog 123 #[.slice A n c] w (Ke w (zg P) (PI P)):=
 (OO A n c P w h hv h5).mono λ_ _ ⟨v,v',V,q1,q2,q3,q4,_⟩=>⟨v,v',V,q1,q2,q3,q4⟩
theorem OU(A:Option Addr)(n c:Nat)(P:List Nd)(w:World)(h:Ns w A n c P)(hv:zc P=0)(h6:zf P=6):
 Calls Tryz.prog 123 #[.slice A n c] w (OZ A w ((zo P).map (·.2)) (PI P)):=by
 obtain⟨i0,hi,hz0,hz1,hz2⟩:=info_parts ML;obtain⟨j0,hj,jz0,jz1,jz2⟩:=info_parts OC;obtain⟨Ms,hV⟩:=zH.1 hv;have hpos:=hV.pos;obtain⟨a,rfl,D⟩:=h.at_.nd hpos;have hn:=h.len;obtain⟨hs0,_,hop,hx0,hN⟩:=zb5 hV h6;have hE:zo P=lS P (zl P (P.length+1)) P[0].n.toNat 1:=by unfold zo;rw [hN]
 rw [hN] at hs0;obtain⟨-,-,-,hhi⟩:=h.ok.at hpos;have K:=O (λq w' (hb:Below w.heap.size w w')=>(Yw (some a) P n c hn h.cap h.max h.ok (P.length+1)).1 q w' (h.at_.keep hb) (by omega));have HPN:=O (show PI P=(zo P).map (·.1) by unfold PI;rw [if_neg (by omega)]);have HN:=O h;have HL:=O hn;have H0:=O hs0;have HE:=O hE;rw [show a.add (0*4)=a from rfl] at D;obtain⟨d0,d1,d2,d3⟩:=D;rw [hop] at d0;have zhh:=h.cap;generalize P[0]=x at *;have zfd:n<=200:=by omega
 have hn1:0<n:=by omega
 clear h hv h6 hV hn hs0 hE hN Ms hop d2 d3;go_enter Tryz.func123,Tryz.ntmps123;go_wp2_with fail;go_loopw [4,5,6,7,8,9] (λv v' at_ i _ _ wr=>∃(k q:Nat) (V:List Sl) (X:List (ByteArray × List Nd)),i = .int .i64 k/\at_ = .int .i64 q/\(k:Int)<=x.n/\q<=n/\k+1<=q/\V.length=k/\X.length=k/\Hid (V.map Sl.P=X.map (·.2))/\Hid (zo P=X ++ lS P (zl P (P.length+1)) (x.n.toNat-k) q)/\
  Hid (∃lo,zV P (zl P (P.length+1)) (x.n.toNat-k) lo q=some P.length)/\Hid (jI wr w.heap.size v v' V (X.map (·.1)))/\Hid (Below w.heap.size w wr)/\Hid (∀r∈V,WN (some a) r)) (λ_ _ _ i _ _ _=>(x.n-intOf i).toNat)
 case atStart=>exact⟨0,1,[],[],rfl,rfl,hx0,hn1,by omega,rfl,rfl,rfl,HE.o,⟨_,H0.o⟩,⟨zX.nil _ _,World.ownsRow_nil _ _ _ 1,.inl rfl,(by intro r hr;cases hr)⟩,Below.refl _ _,(by intro r hr;cases hr)⟩
 case round =>
  obtain⟨k,q,V,X,rfl,rfl,hk,hq,hkq,hVl,hXl,hVX,hE,hS,hT,hB,zei⟩:=hrel;have e0:=za hB.o d0;have e1:=za hB.o d1;by_cases hlt:(k:Int)<x.n
  ·obtain⟨hq',e,hf,hS',hsp⟩:=Sq (by omega) hS.o;have hle:=jN _ _ _ hf;rw [<-HL.o] at hle;have hqn:q<n:=by omega
   obtain⟨a',ha',⟨-,-,q2,-⟩⟩:=(HN.o.at_.keep hB.o).nd hq';injection ha' with ha';subst ha';have C:Hid (Calls Tryz.prog 37 #[.slice (some a) n c,.int .i64 ((q:Int)+1),.bool false] wr λe' w'=>e' = .returned (.int .i64 e)/\Below wr.heap.size wr w'):=O (by
    have:=K.o (q+1) wr hB.o
    rw [hf] at this
    simpa [Jn] using this)
   have Kq:=O (hE.o.trans (by rw [hsp]:_=X ++((P[q].s,seg P (q+1) e):: lS P (zl P (P.length+1)) (x.n.toNat-(k+1)) e)));have HS2:=O hS';have Gy:=O (QU HN.o (show q+1<=e by omega) hle.2);generalize P[q].s=nm at *;clear hE hS hS' hsp hf;go_wp2_with fail;refine(C.o).mono ?_;rintro e w1 ⟨rfl,b1⟩;have B1:=bh hB b1;have T1:=O (hT.o.keep b1);have A1:=O (Kp (r:=⟨some (a.add ((q+1)*4)),e-(q+1),c-(q+1),seg P (q+1) e⟩) T1.o.a.own Gy.o (Nat.le_refl _));have A2:=O (Kp (r:=⟨some (a.add ((q+1)*4)),e-(q+1),c-(q+1),seg P (q+1) e⟩) T1.o.b Gy.o (Nat.le_refl _));have zmr:=B1.o.size;clear b1 hT hB e0 e1 q2;go_wp2_with (at_builtin;refine wpList_append_own_at _ rfl _ _ 84 rfl w.heap.size 22 i0 _ 1 24 Tryz.underlying84 hi hz0 hz1 hz2 rfl (by decide) _ V.length (V.map Sl.v) rfl (T1.o.a.own.alloc _) ⟨_,0,none⟩ 1 1 [.slice (some (a.add ((q+1)*4))) (e-(q+1)) (c-(q+1))] rfl rfl (cell_one_new _ _ _) (by intro u hu;simp only [List.mem_cons,List.not_mem_nil,or_false] at hu;subst hu;rfl) ?c1 ?c2 ?c3 ?_)
   case c1=>unfold maxLen;omega
   case c2=>omega
   case c3=>simp;omega
   intro v1 w2 hown hgrow _ hat;have T2:=O (T1.o.part (r:=⟨some (a.add ((q+1)*4)),e-(q+1),c-(q+1),seg P (q+1) e⟩) (Gy.o.keep B1.o) A1.o A2.o (by rw [hVl];exact hown) hgrow (by simpa using hat));have B2:=O ((B1.o.alloc B1.o.size _).grown hgrow (by simp;omega) (λg hg=>by have:=zR T1.o.a.own g hg;omega));have Zy:=B2.o.size;clear hown hgrow hat A1 A2 T1 B1;go_wp2_with (at_builtin;refine wpList_append_own_at _ rfl _ _ 85 rfl w.heap.size 9 j0 _ 1 16 Tryz.underlying85 hj jz0 jz1 jz2 rfl (by decide) _ (X.map (·.1)).length ((X.map (·.1)).map Value.string) rfl (T2.o.b.alloc _) ⟨_,0,none⟩ 1 1 [.string nm] rfl rfl (cell_one_new _ _ _) (by intro u hu;simp only [List.mem_cons,List.not_mem_nil,or_false] at hu;subst hu;rfl) ?d1 ?d2 ?d3 ?_)
   case d1=>simp;unfold maxLen;omega
   case d2=>simp;omega
   case d3=>simp;omega
   intro v2 w3 hown hgrow _ hat;have T3:=O (T2.o.name (s:=nm) (by simpa [hXl] using hown) hgrow (by simpa using hat));have B3:=O ((B2.o.alloc B2.o.size _).grown hgrow (by simp;omega) (λg hg=>by have:=zR T2.o.b g hg;omega));have HE3:=O (Kq.o.trans (show _=(X ++ [(nm,seg P (q+1) e)])++ lS P (zl P (P.length+1)) (x.n.toNat-(k+1)) e by simp));have T4:=O (show jI w3 w.heap.size v1 v2 (V ++ [(⟨some (a.add ((q+1)*4)),e-(q+1),c-(q+1),seg P (q+1) e⟩:Sl)]) ((X ++ [(nm,seg P (q+1) e)]).map (·.1)) by
    rw [List.map_append];exact T3.o)
   have hl4:(V ++ [(⟨some (a.add ((q+1)*4)),e-(q+1),c-(q+1),seg P (q+1) e⟩:Sl)]).length=k+1:=by simp [hVl]
   have hl6:(X ++ [(nm,seg P (q+1) e)]).length=k+1:=by simp [hXl]
   have HV5:=O (show(V ++ [(⟨some (a.add ((q+1)*4)),e-(q+1),c-(q+1),seg P (q+1) e⟩:Sl)]).map Sl.P=(X ++ [(nm,seg P (q+1) e)]).map (·.2) by
    rw [List.map_append,List.map_append,hVX.o];rfl)
   have HO4:=O (show∀r∈V ++ [(⟨some (a.add ((q+1)*4)),e-(q+1),c-(q+1),seg P (q+1) e⟩:Sl)],WN (some a) r from λr hr=>by
    rcases List.mem_append.1 hr with h1|h1
    ·exact zei.o r h1
    ·simp only [List.mem_cons,List.not_mem_nil,or_false] at h1
     subst h1
     intro a' ea
     injection ea with ea
     subst ea
     exact⟨a,rfl,Vp _ _⟩)
   clear hown hgrow hat Kq B2 T2 T3 zei;go_wp2_with fail;go_roundw
   case rel=>exact⟨k+1,e,_,_,by go_num,rfl,by omega,by omega,by omega,hl4,hl6,HV5,HE3,HS2,T4,B3,HO4⟩
   case measure=>simp [intOf];omega
  ·have HG:=O (hE.o.trans (show _=X by rw [show x.n.toNat-k=0 by omega];simp [lS]));have HT:=O (show jI wr w.heap.size u4 u5 V (PI P) by
    rw [HPN.o,HG.o];exact hT.o)
   clear hE hS hT;go_wp2_with fail;go_ret2;exact⟨_,_,V,rfl,HT.o,by rw [HG.o];exact hVX.o,hB.o,zei.o⟩
theorem YM(A:Option Addr)(n c:Nat)(P:List Nd)(w:World)(h:Ns w A n c P)(hv:zc P=0)(h6:zf P=6):
 Calls Tryz.prog 123 #[.slice A n c] w (Ke w ((zo P).map (·.2)) (PI P)):=
 (OU A n c P w h hv h6).mono λ_ _ ⟨v,v',V,q1,q2,q3,q4,_⟩=>⟨v,v',V,q1,q2,q3,q4⟩
theorem zfY(A:Option Addr)(n c:Nat)(P:List Nd)(w:World)(h:Ns w A n c P)(hE:F3 P=0):
 Calls Tryz.prog 123 #[.slice A n c] w (Ke w (Kj P) (PI P)):=by
 have hv:zc P=0:=by
  unfold F3 at hE;by_cases h0:zc P=0
  ·exact h0
  ·rw [if_neg h0] at hE;exact absurd hE h0
 by_cases h5:zf P=5
 ·have:Kj P=zg P:=by unfold Kj;rw [if_pos hE,if_pos h5]
  rw [this];exact QE A n c P w h hv h5
 ·have h6:zf P=6:=by
   unfold F3 at hE;rw [if_pos hv] at hE;by_cases h6:zf P=6
   ·exact h6
   ·rw [if_neg (by omega)] at hE;omega
  have:Kj P=(zo P).map (·.2):=by unfold Kj;rw [if_pos hE,if_neg h5]
  rw [this];exact YM A n c P w h hv h6
def S3(w:World)(A:Option Addr)(N:List ByteArray):Prop:=∀(k:Nat) (x:ByteArray),N[k]?=some x->∃a,A=some a/\w.cell? (a.add k)=some (.string x)
theorem S3.keep{w w':World}{A:Option Addr}{N:List ByteArray}(h:S3 w A N)(hb:Below w.heap.size w w'):S3 w' A N:=λk x hx=>by
 obtain⟨a,e,q⟩:=h k x hx;exact⟨a,e,za hb q⟩
theorem ZM{w:World}{B:Nat}{v:Value}{N:List ByteArray}(h:w.ownsRow B 9 1 v N.length (N.map Value.string)):∃A c,v = .slice A N.length c/\S3 w A N:=by
 rcases h.2 with ⟨rfl,h0⟩|⟨g,cap,cur,rfl,_⟩
 ·have:N = []:=List.eq_nil_of_length_eq_zero h0;subst this;exact⟨none,0,rfl,λk x hx=>by simp at hx⟩
 ·refine⟨some ⟨g,0,none⟩,cap,rfl,λk x hx=>⟨_,rfl,h.cells (g:=g) rfl _ _ ?_⟩⟩;rw [List.getElem?_map,hx];rfl
def Q9(S:Nat->Prop)(w:World)(P:List Nd)(s:ByteArray)(e:Ending)(w':World):Prop :=
 ∃(A':Option Addr) (n' c':Nat),e = .returned (.tuple #[.slice A' n' c',.bool (decide (dK P s=0))])/\(dK P s=0->Ns w' A' n' c' (IG P s)/\∀a,A'=some a->S a.block)/\Below w.heap.size w w'
theorem MA(S:Nat->Prop)(A:Option Addr)(n c:Nat)(P:List Nd)(s:ByteArray)(w:World)(h:Ns w A n c P)(hv:zc P=0)(h6:zf P=6)(hS:∀a,A=some a->S a.block):
 Calls Tryz.prog 82 #[.slice A n c,.string s] w (Q9 S w P s):=by
 have C:=O (OU A n c P w h hv h6);have HPN:=O (show PI P=(zo P).map (·.1) by unfold PI;rw [if_neg (by omega)]);have Ng:=O (show(zo P).length<=200 from QG hv h6);have HGE:=O (show dK P s=if(((zo P).find? λx=>decide (jh x.1 s=0)).map (·.2)).isSome then 0 else 3 by unfold dK Ug;rw [if_pos hv,if_pos h6]);have HGV:=O (show dK P s=0->IG P s=(((zo P).find? λx=>decide (jh x.1 s=0)).map (·.2)).getD [] from λq=>by unfold IG;rw [if_pos q];rfl);have HSS:=O hS;unfold Q9;clear h hv h6 hS;generalize zo P=R at *;generalize dK P s=ge at *;generalize IG P s=gv at *;go_enter Tryz.func82,Tryz.ntmps82;go_wp2_with fail;refine C.o.mono ?_;rintro e w1 ⟨v,v',V,rfl,hT,hV,b1,hO⟩;obtain⟨A1,c1,e1,-,hSl⟩:=hT.a.at
 obtain⟨A2,c2,e2,hN⟩:=ZM hT.b;subst e1;subst e2;have B1:=O b1;have HS:=O hSl;have HT:=O hN;have QL:=O hV;have HSB:=O (show∀r∈V,∀a,r.A=some a->S a.block from λr hr a e=>by
  obtain⟨a0,e0,eb⟩:=hO r hr a e
  rw [eb]
  exact HSS.o a0 e0)
 have hVl:V.length=R.length:=by have:=congrArg List.length hV;simpa using this
 have hPl:(PI P).length=R.length:=by rw [HPN.o];simp
 have HVL:=O hVl;rw [hVl,hPl];have hR200:=Ng.o;clear b1 hSl hN hV hT C hVl hPl hO;go_wp2_with fail;go_loopw [8] (λi wr=>∃k:Nat,i = .int .i64 k/\k<=R.length/\Hid (∀x∈R.take k,x.1≠s)/\Hid (Below w1.heap.size w1 wr)) (λi _=>R.length-(intOf i).toNat)
 case atStart=>exact⟨0,rfl,Nat.zero_le _,(by intro x hx;simp at hx),Below.refl _ _⟩
 case round =>
  obtain⟨k,rfl,hk,hno,hB⟩:=hrel;have BW:=O (B1.o.trans (hB.o.mono B1.o.size));by_cases hlt:k<R.length
  ·have hkv:k<V.length:=by rw [HVL.o];exact hlt
   obtain⟨a1,rfl,q1,n1⟩:=(HS.o.keep hB.o).at hkv;obtain⟨a2,rfl,q2⟩:=(HT.o.keep hB.o) k R[k].1 (by rw [HPN.o,List.getElem?_map,List.getElem?_eq_getElem hlt];rfl);by_cases hs:R[k].1=s
   ·have hf:(R.find? λx=>decide (jh x.1 s=0))=some R[k]:=zeO hlt (by rw [hs];exact decide_eq_true (jf.self s)) (λj hj=>by
     refine decide_eq_false λq=>hno.o (R[j]'(by omega)) ?_ ((jf.zero _ _).1 q)
     exact List.mem_take_iff_getElem.2 ⟨j,by omega,rfl⟩)
    rw [hf] at HGE HGV;have HE:=O (show ge=0 from HGE.o);have HX:=O (show Ns wr V[k].A V[k].n V[k].c gv from by
     have:=congrArg (λl=>l[k]?) QL.o
     simp only [List.getElem?_map,List.getElem?_eq_getElem hkv,List.getElem?_eq_getElem hlt,Option.map_some,Option.some.injEq] at this
     rw [HGV.o HE.o]
     show Ns wr _ _ _ R[k].2
     rw [<-this];exact n1)
    have HSR:=O (HSB.o V[k] (List.getElem_mem hkv));rw [hs] at q2;clear n1 hs hno hf HGE HGV;generalize V[k]=r at *;go_wp2_with fail;go_ret2;exact⟨_,_,_,by rw [HE.o];rfl,λ_=>⟨HX.o,HSR.o⟩,BW.o⟩
   ·have HNO:=O (show∀x∈R.take (k+1),x.1≠s from λx hx=>by
     rw [List.take_succ_eq_append_getElem hlt,List.mem_append] at hx
     rcases hx with hx|hx
     ·exact hno.o x hx
     ·simp only [List.mem_cons,List.not_mem_nil,or_false] at hx
      subst hx;exact hs)
    have f6:(R[k].1.toList==s.toList)=false:=beq_eq_false_iff_ne.2 (λq=>hs (toList_inj q));generalize R[k].1=y at *;clear hs hno n1 q1;go_wp2_with fail;go_roundw
    case rel=>exact⟨k+1,by go_num,hlt,HNO,hB⟩
    case measure=>simp [intOf];omega
  ·have HX:=O (show(R.find? λx=>decide (jh x.1 s=0))=none from by
    rw [List.find?_eq_none]
    intro x hx q
    exact hno.o x (by rw [List.take_of_length_le (by omega)];exact hx) ((jf.zero _ _).1 (of_decide_eq_true q)))
   rw [HX.o] at HGE;have HE:=O (show ge=3 from HGE.o);clear hno HX HGE HGV;go_wp2_with fail;go_ret2;exact⟨none,0,0,by rw [HE.o];rfl,λq=>(by rw [HE.o] at q;cases q),BW.o⟩
end Go.Proofs.YtokiogmfgpidmaaGreatDoor
namespace Go.Proofs.YtokiogmfgpidmaaGreatDoor
open Go.RowKit Go.Wk
def Gb(l:List UInt8)(k:Nat):Option UInt8 :=
 if l.getD k 0=42 then none else if l.getD k 0=92/\k+1<l.length/\l.getD (k+1) 0=42 then some 42 else some (l.getD k 0)
def Pos(l:List UInt8)(E:List Nat)(Q:List (Option UInt8)):Prop:=E.length=Q.length/\∀(t e:Nat) (x:Option UInt8),E[t]?=some e->Q[t]?=some x->e<l.length/\Gb l e=x
theorem Pos.nil(l:List UInt8):Pos l [] []:=⟨rfl,λt e x h=>by simp at h⟩
theorem Pos.snoc{l:List UInt8}{E:List Nat}{Q:List (Option UInt8)}(h:Pos l E Q){k:Nat}(hk:k<l.length):Pos l (E ++ [k]) (Q ++ [Gb l k]):=by
 refine⟨by simp [h.1],λt e x he hx=>?_⟩;by_cases ht:t<E.length
 ·rw [List.getElem?_append_left ht] at he;rw [List.getElem?_append_left (by rw [<-h.1];exact ht)] at hx;exact h.2 t e x he hx
 ·rw [List.getElem?_append_right (by omega)] at he;rw [List.getElem?_append_right (by rw [<-h.1];omega)] at hx;rw [h.1] at he;rcases Nat.eq_zero_or_pos (t-Q.length) with h0|h0
  ·rw [h0] at he hx;simp at he hx;subst he;subst hx;exact⟨hk,rfl⟩
  ·rw [List.getElem?_eq_none (by simp;omega)] at he;cases he
def wid(l:List UInt8)(e:Nat):Nat:=if Gb l e=some 42/\l.getD e 0=92 then e+2 else e+1
def Sx(l:List UInt8)(E:List Nat)(Q:List (Option UInt8))(k:Nat):Prop:=Pos l E Q/\∀t,(h:t<E.length)->(E ++ [k])[t+1]?=some (wid l E[t])
theorem Sx.nil(l:List UInt8):Sx l [] [] 0:=⟨Pos.nil l,λt h=>by simp at h⟩
theorem Sx.snoc{l:List UInt8}{E:List Nat}{Q:List (Option UInt8)}{k:Nat}(h:Sx l E Q k)(hk:k<l.length):Sx l (E ++ [k]) (Q ++ [Gb l k]) (if Gb l k=some 42/\l.getD k 0=92 then k+2 else k+1):=by
 refine⟨h.1.snoc hk,λt ht=>?_⟩;by_cases hlt:t<E.length
 ·rw [List.getElem?_append_left (by simp;omega)];have:=h.2 t hlt;rw [this,List.getElem_append_left hlt]
 ·have e:t=E.length:=by simp at ht;omega
  subst e;rw [List.getElem?_append_right (by simp)];simp [wid]
theorem ziA{l:List UInt8}{k:Nat}(h:k<l.length):jE (l.drop k)=Gb l k :: jE (l.drop (if Gb l k=some 42/\l.getD k 0=92 then k+2 else k+1)):=by
 have g:l.getD k 0=l[k]:=by simp [h]
 unfold Gb;rw [g];by_cases h1:l[k]=42
 ·rw [if_pos h1,if_neg (by simp),Vj h h1]
 ·rw [if_neg h1];by_cases h2:l[k]=92/\k+1<l.length/\l.getD (k+1) 0=42
  ·rw [if_pos h2,if_pos ⟨rfl,h2.1⟩,Xl h2.2.1 h2.1 (by have:=h2.2.2;simpa [h2.2.1] using this)]
  ·rw [if_neg h2,if_neg (λq=>by have:=q.1;simp at this;exact h1 this),Uc h h1 (λq=>h2 ⟨q.1,q.2.1,by obtain⟨_,q1,q2⟩:=q;simpa [q1] using q2⟩)]
def vX(s:ByteArray)(k:Nat):Bool:=decide (s.data.toList.getD k 0=92)&& decide (k+1<s.size)&& decide (s.data.toList.getD (k+1) 0=42)
theorem Li{s:ByteArray}{k:Nat}(h:k<s.size):s.data.toList.getD k 0=s[k]:=by
 have h':k<s.data.toList.length:=by simpa using h
 rw [List.getD_eq_getElem?_getD,List.getElem?_eq_getElem h'];rfl
theorem O7(s:ByteArray)(k:Nat):vX s k=true↔s.data.toList.getD k 0=92/\k+1<s.size/\s.data.toList.getD (k+1) 0=42:=by
 unfold vX;simp only [Bool.and_eq_true,decide_eq_true_eq,and_assoc]
theorem TZ{s:ByteArray}{k:Nat}(_h:k<s.data.toList.length):(if Gb s.data.toList k=some 42/\s.data.toList.getD k 0=92 then k+2 else k+1)=if vX s k=true then k+2 else k+1:=by
 have e:(Gb s.data.toList k=some 42/\s.data.toList.getD k 0=92)↔vX s k=true:=by
  rw [O7];unfold Gb;rw [show s.data.toList.length=s.size from Array.length_toList];constructor
  ·rintro ⟨h1,h2⟩;rw [h2,if_neg (by decide)] at h1;by_cases c:(92:UInt8)=92/\k+1<s.size/\s.data.toList.getD (k+1) 0=42
   ·exact⟨h2,c.2⟩
   ·rw [if_neg c] at h1;exact absurd h1 (by decide)
  ·rintro ⟨h1,h2⟩;rw [h1,if_neg (by decide),if_pos ⟨rfl,h2⟩];exact⟨rfl,rfl⟩
 simp only [e]
theorem zai(s:ByteArray)(k:Nat)(w:World)(hk:k<s.size)(hs:s.size<=60):
 Calls Tryz.prog 121 #[.string s,.int .i64 k] w λe w'=>e = .returned (.bool (vX s k))/\w=w':=by
 by_cases c1:(s[k].toNat:Int)=92
 ·have e1:s.data.toList.getD k 0=92:=(Li hk).trans (Ox (b:=92) hk c1);by_cases c2:k+1<s.size
  ·by_cases c3:(s[k+1].toNat:Int)=42
   ·have H:=O (show vX s k=true by unfold vX;rw [e1,(Li c2).trans (Ox (b:=42) c2 c3)];simp [c2]);clear e1;go_enter Tryz.func121,Tryz.ntmps121;go_wp2;go_ret;exact⟨by rw [H.o];rfl,rfl⟩
   ·have c3':((s[k+1].toNat:Int)==42)=false:=beq_eq_false_iff_ne.2 c3;have H:=O (show vX s k=false by unfold vX;rw [e1,Li c2];simp [c2];exact λq=>c3 (by rw [q];rfl));clear e1 c3;go_enter Tryz.func121,Tryz.ntmps121;go_wp2;go_ret;exact⟨by rw [H.o];rfl,rfl⟩
  ·have H:=O (show vX s k=false by unfold vX;simp [c2]);clear e1;go_enter Tryz.func121,Tryz.ntmps121;go_wp2;go_ret;exact⟨by rw [H.o];rfl,rfl⟩
 ·have c1':((s[k].toNat:Int)==92)=false:=beq_eq_false_iff_ne.2 c1;have H:=O (show vX s k=false by unfold vX;rw [Li hk];simp;intro q;exact absurd (by rw [q];rfl) c1);clear c1;go_enter Tryz.func121,Tryz.ntmps121;go_wp2;go_ret;exact⟨by rw [H.o];rfl,rfl⟩
def zc0(w:World)(A:Option Addr)(E:List Nat):Prop:=∀(k e:Nat),E[k]?=some e->∃a,A=some a/\w.cell? (a.add k)=some (.int .i64 (e:Int))
def IF(E:List Nat):List Value:=E.map λe:Nat=>Value.int .i64 (e:Int)
theorem zbs{w:World}{B:Nat}{v:Value}{E:List Nat}(h:w.ownsRow B 3 1 v E.length (IF E)):∃A c,v = .slice A E.length c/\zc0 w A E:=by
 rcases h.2 with ⟨rfl,h0⟩|⟨g,cap,cur,rfl,_⟩
 ·have:E = []:=List.eq_nil_of_length_eq_zero h0;subst this;exact⟨none,0,rfl,λk x hx=>by simp at hx⟩
 ·refine⟨some ⟨g,0,none⟩,cap,rfl,λk x hx=>⟨_,rfl,h.cells (g:=g) rfl _ _ ?_⟩⟩;unfold IF;rw [List.getElem?_map,hx];rfl
theorem zk8:(Tryz.prog.info? 3).map (λi=>(i.zero,i.size,i.bytes))=some (some (.int .i64 0),1,8):=by kernel_rfl
theorem zkK{w1:World}{B:Nat}{v':Value}{E:List Nat}{x:Nat}(h:w1.ownsRow B 3 1 v' (E.length+1) (IF E ++ [.int .i64 (x:Int)])):
 w1.ownsRow B 3 1 v' (E ++ [x]).length (IF (E ++ [x])):=by
 rw [show IF (E ++ [x])=IF E ++ [.int .i64 (x:Int)] by simp [IF],List.length_append];exact h
theorem Yj(n:Int):∀u∈ [Value.int .i64 n],u.oneCell'=true:=by
 intro u hu;simp only [List.mem_cons,List.not_mem_nil,or_false] at hu;subst hu;rfl
theorem zcb(s:ByteArray)(w:World)(hs:s.size<=60):
 Calls Tryz.prog 120 #[.string s] w λe w'=>∃A c E,e = .returned (.slice A E.length c)/\Sx s.data.toList E (jE s.data.toList) s.size/\zc0 w' A E/\Below w.heap.size w w':=by
 have HS:=O (show s.data.toList.length=s.size from Array.length_toList);obtain⟨i0,hi,hz0,hz1,hz2⟩:=info_parts zk8;go_enter Tryz.func120,Tryz.ntmps120;go_wp2;go_loopw [3,4] (λv i wr=>∃(k:Nat) (E:List Nat),i = .int .i64 k/\k<=s.size/\E.length<=k/\Hid (∃Q,jE s.data.toList=Q ++ jE (s.data.toList.drop k)/\Sx s.data.toList E Q k)/\Hid (wr.ownsRow w.heap.size 3 1 v E.length (IF E))/\Hid (Below w.heap.size w wr)) (λ_ i _=>s.size-(intOf i).toNat)
 case atStart=>exact⟨0,[],rfl,Nat.zero_le _,Nat.le_refl _,⟨[],rfl,Sx.nil _⟩,⟨rfl,.inl ⟨rfl,rfl⟩⟩,Below.refl _ _⟩
 case round =>
  obtain⟨k,E,rfl,hk,hq,hE,hown,hb⟩:=hrel;by_cases hlt:k<s.size
  ·have ve:k<s.data.toList.length:=by rw [HS.o];exact hlt
   have HE:=O (show∃Q,jE s.data.toList=Q ++ jE (s.data.toList.drop (if vX s k=true then k+2 else k+1))/\Sx s.data.toList (E ++ [k]) Q (if vX s k=true then k+2 else k+1) by
    obtain⟨Q,h1,h2⟩:=hE.o
    refine⟨Q ++ [Gb s.data.toList k],?_,by rw [<-TZ ve];exact h2.snoc ve⟩
    rw [h1,List.append_assoc]
    congr 1
    rw [ziA ve,List.singleton_append]
    rw [TZ hlt])
   have C:=O (λw=>zai s k w hlt hs);have hst:vX s k=true->k+2<=s.size:=λq=>by
    unfold vX at q;simp only [Bool.and_eq_true,decide_eq_true_eq] at q;omega
   have Hst:=O hst;clear hst hE;generalize vX s k=b at *;go_wp2_with (at_builtin;refine wpList_append_own _ rfl _ _ 56 rfl w.heap.size 3 i0 _ 1 8 Tryz.underlying56 hi hz0 hz1 hz2 rfl (by decide) _ E.length (IF E) rfl (hown.o.alloc _) ⟨_,0,none⟩ 1 1 [.int .i64 (k:Int)] rfl rfl (jP _ _ _) (Yj _) (by unfold maxLen;omega) (by omega) ?c5 ?_)
   case c5=>have:=hb.o.size;simp;omega
   intro v1 w1 hown1 hgrow1 _;have B1:=O (D7 hb.o (Nat.le_refl _) hown.o _ hgrow1);have O1:=O (zkK hown1);clear hown hb hown1 hgrow1;cases b
   ·have HE':=O (show∃Q,jE s.data.toList=Q ++ jE (s.data.toList.drop (k+1))/\Sx s.data.toList (E ++ [k]) Q (k+1) by simpa using HE.o);clear HE Hst;go_wp2_with (go_at_call 121;refine(C.o _).mono ?_;rintro e w2 ⟨rfl,rfl⟩);go_roundw
    case rel=>exact⟨k+1,E ++ [k],by go_num,by omega,by simp;omega,HE',O1,B1⟩
    case measure=>simp [intOf];omega
   ·have HE':=O (show∃Q,jE s.data.toList=Q ++ jE (s.data.toList.drop (k+2))/\Sx s.data.toList (E ++ [k]) Q (k+2) by simpa using HE.o);have h2:=Hst.o rfl;clear HE Hst;go_wp2_with (go_at_call 121;refine(C.o _).mono ?_;rintro e w2 ⟨rfl,rfl⟩);go_roundw
    case rel=>exact⟨k+2,E ++ [k],by go_num,by omega,by simp;omega,HE',O1,B1⟩
    case measure=>simp [intOf];omega
  ·obtain⟨Q,h1,h2⟩:=hE.o;rw [WT (by rw [HS.o];omega),List.append_nil] at h1;have HE:=O (show Sx s.data.toList E (jE s.data.toList) s.size by
    rw [h1]
    have e:k=s.size:=by omega
    rw [<-e];exact h2)
   obtain⟨A,c,hv,hsg⟩:=zbs hown.o;subst hv;have HV:=O hsg;clear hE hown hsg h1 h2;go_wp2;go_ret;exact⟨A,c,E,rfl,HE.o,HV.o,hb.o⟩
theorem zdI(s:ByteArray)(w:World)(hs:s.size<=60):
 Calls Tryz.prog 120 #[.string s] w λe w'=>∃A c E,e = .returned (.slice A E.length c)/\Pos s.data.toList E (jE s.data.toList)/\zc0 w' A E/\Below w.heap.size w w' :=
 (zcb s w hs).mono λ_ _ ⟨A,c,E,q1,q2,q3,q4⟩=>⟨A,c,E,q1,q2.1,q3,q4⟩
def vO(w:World)(g n:Nat)(f:Nat->Bool):Prop:=∃cs:Array Value,w.heap[g]?=some (.cells cs 4 (0,0))/\cs.size=n/\∀k,k<n->cs[k]?=some (.bool (f k))
theorem vO.cell{w:World}{g n:Nat}{f:Nat->Bool}(h:vO w g n f){k:Nat}(hk:k<n):w.cell? ⟨g,k,none⟩=some (.bool (f k)):=by
 obtain⟨cs,h1,h2,h3⟩:=h;unfold World.cell?;rw [h1];simpa using h3 k hk
theorem vO.frozen{w:World}{g n:Nat}{f:Nat->Bool}(h:vO w g n f)(k:Nat):w.frozen? ⟨g,k,none⟩=false:=by
 obtain⟨cs,h1,_⟩:=h;unfold World.frozen?;rw [h1];simp
theorem vO.lt{w:World}{g n:Nat}{f:Nat->Bool}(h:vO w g n f):g<w.heap.size:=by
 obtain⟨cs,h1,_⟩:=h;exact(Array.getElem?_eq_some_iff.1 h1).1
theorem vO.keep{w w':World}{g n:Nat}{f:Nat->Bool}{B:Nat}(h:vO w g n f)(hb:Below B w w')(hg:g<B):vO w' g n f:=by
 obtain⟨cs,h1,h2⟩:=h;exact⟨cs,(hb.block g hg).trans h1,h2⟩
theorem vO.alloc{w:World}{g n:Nat}{f:Nat->Bool}(h:vO w g n f)(o:Obj):vO (w.alloc o) g n f:=h.keep ((Below.refl _ _).alloc (Nat.le_refl _) o) h.lt
theorem vO.other{w:World}{g n:Nat}{f:Nat->Bool}(h:vO w g n f){a:Addr}(ha:a.block≠g)(v:Value):vO (w.setCell a v) g n f:=by
 obtain⟨cs,h1,h2⟩:=h;exact⟨cs,(Below.heap_setCell w a v g (Ne.symm ha)).trans h1,h2⟩
theorem vO.set{w:World}{g n:Nat}{f f':Nat->Bool}(h:vO w g n f)(m:Nat)(b:Bool)(hf:∀k,k<n->f' k=if k=m then b else f k):vO (w.setCell ⟨g,m,none⟩ (.bool b)) g n f':=by
 obtain⟨cs,h1,h2,h3⟩:=h;refine⟨cs.setIfInBounds m (.bool b),?_,by simpa using h2,λk hk=>?_⟩
 ·simp only [World.setCell,Array.getElem?_modify,if_true,h1];simp
 ·rw [hf k hk,Array.getElem?_setIfInBounds];by_cases e:k=m
  ·subst e;rw [if_pos rfl,if_pos rfl,if_pos (by omega)]
  ·rw [if_neg (λq=>e q.symm),if_neg e];exact h3 k hk
theorem vO.made(w:World)(n:Nat):vO (w.alloc (.cells (madeCells #[.bool false] n) 4)) w.heap.size n (λ_=>false):=by
 refine⟨_,heap_alloc_new w _,size_madeCells _ _,λk hk=>?_⟩;rw [<-Array.getElem?_toList,toList_madeCells_one,List.getElem?_replicate,if_pos hk]
theorem zim:(Tryz.prog.info? 4).map (λi=>(i.zero,i.size,i.bytes))=some (some (.bool false),1,1):=by kernel_rfl
theorem zgl(n:Nat)(hn:n<=100)(w:World):(Instr.makeSlice 174 (.int .i64 (n:Int)) (.int .i64 (n:Int))).run Tryz.prog w = .ok (.slice (some ⟨w.heap.size,0,none⟩) n n) (w.alloc (.cells (madeCells #[.bool false] n) 4)):=by
 obtain⟨i,hi,hz,h1,h2⟩:=info_parts zim;have:=run_make (P:=Tryz.prog) w 174 4 i _ Tryz.underlying174 hi hz .i64 .i64 (n:Int) (n:Int) (by omega) (by omega) (by rw [h2];omega) (by omega);rw [h1] at this;simpa [Value.cells] using this
theorem zdm(n:Nat)(hn:n<=100)(w:World):∃w0,(Instr.makeSlice 174 (.int .i64 (n:Int)) (.int .i64 (n:Int))).run Tryz.prog w = .ok (.slice (some ⟨w.heap.size,0,none⟩) n n) w0/\vO w0 w.heap.size n (λ_=>false)/\
 Below w.heap.size w w0/\w0.heap.size=w.heap.size+1 :=
 ⟨_,zgl n hn w,vO.made w n,(Below.refl w.heap.size w).alloc (Nat.le_refl _) _,by simp⟩
theorem zb9{P:List (Option UInt8)}{S:List UInt8}{t m:Nat}(ht:t<P.length)(hP:P[t]=none)(hm:m<=S.length):
 zU (P.drop t) (S.drop m)=(zU (P.drop (t+1)) (S.drop m)||(decide (m<S.length)&& zU (P.drop t) (S.drop (m+1)))):=by
 rw [List.drop_eq_getElem_cons ht,hP];by_cases h:m<S.length
 ·rw [List.drop_eq_getElem_cons h,Jl];simp [h]
 ·have hm':S.drop m = []:=List.drop_of_length_le (by omega);rw [hm',KH];simp [h]
theorem zja{P:List (Option UInt8)}{S:List UInt8}{t m:Nat}{b:UInt8}(ht:t<P.length)(hP:P[t]=some b)(h:m<S.length):
 zU (P.drop t) (S.drop m)=((S[m]==b)&& zU (P.drop (t+1)) (S.drop (m+1))):=by
 rw [List.drop_eq_getElem_cons ht,hP,List.drop_eq_getElem_cons h,Gf];congr 1;rw [Bool.eq_iff_iff,beq_iff_eq,beq_iff_eq];exact⟨Eq.symm,Eq.symm⟩
theorem zi9{P:List (Option UInt8)}{S:List UInt8}{t m:Nat}{b:UInt8}(ht:t<P.length)(hP:P[t]=some b)(h:S.length<=m):zU (P.drop t) (S.drop m)=false:=by
 rw [List.drop_eq_getElem_cons ht,hP,List.drop_of_length_le h,Ky]
theorem zgq{P:List (Option UInt8)}{S:List UInt8}{m n:Nat}(h:n=P.length)(hm:m<=S.length):zU (P.drop n) (S.drop m)=decide (m=S.length):=by
 rw [List.drop_of_length_le (by omega),Rw];by_cases e:m=S.length
 ·rw [List.drop_of_length_le (by omega)];simp [e]
 ·rw [List.drop_eq_getElem_cons (show m<S.length by omega)];simp only [e,decide_false,List.isEmpty_cons]
theorem RP{s:ByteArray}{k:Nat}(h:k<s.size):Gb s.data.toList k=none↔(s[k].toNat:Int)=42:=by
 unfold Gb;rw [Li h];constructor
 ·intro q;by_cases c:s[k]=42
  ·rw [c];rfl
  ·rw [if_neg c] at q;split at q <;> cases q
 ·intro q;rw [if_pos];exact UInt8.toNat_inj.1 (show s[k].toNat=(42:UInt8).toNat by have:((42:UInt8).toNat:Int)=42:=rfl;omega)
theorem zcf{s:ByteArray}{k:Nat}(h:k<s.size){b:UInt8}(hb:Gb s.data.toList k=some b):(b.toNat:Int)=if vX s k=true then 42 else(s[k].toNat:Int):=by
 unfold Gb at hb;rw [Li h,show s.data.toList.length=s.size from Array.length_toList] at hb;by_cases c:s[k]=42
 ·rw [if_pos c] at hb;cases hb
 ·rw [if_neg c] at hb;by_cases c2:s[k]=92/\k+1<s.size/\s.data.toList.getD (k+1) 0=42
  ·rw [if_pos c2] at hb;rw [if_pos ((O7 s k).2 (by rw [Li h];exact c2))];injection hb with hb;subst hb;rfl
  ·rw [if_neg c2] at hb;rw [if_neg (λq=>c2 (by have:=(O7 s k).1 q;rw [Li h] at this;exact this))];injection hb with hb;rw [hb]
def Row(P:List (Option UInt8))(S:List UInt8)(t u:Nat)(m:Nat):Bool:=decide (u<=m)&& zU (P.drop t) (S.drop m)
theorem MN{P:List (Option UInt8)}{S:List UInt8}{t u:Nat}{b:Bool}(hb:zU (P.drop t) (S.drop u)=b)(k:Nat):Row P S t u k=if k=u then b else Row P S t (u+1) k:=by
 unfold Row;by_cases e:k=u
 ·subst e;rw [if_pos rfl,hb];simp
 ·rw [if_neg e];congr 1;by_cases h:u<=k
  ·simp [h];omega
  ·simp [h];omega
theorem zh9(P:List (Option UInt8))(S:List UInt8)(t m:Nat):Row P S t 0 m=zU (P.drop t) (S.drop m):=by unfold Row;simp
theorem zbz(P:List (Option UInt8))(S:List UInt8)(t n m:Nat)(h:m<n):Row P S t n m=false:=by unfold Row;simp;omega
theorem ziG(p s:ByteArray)(w:World)(hp:p.size<=60)(hs:s.size<=60):
 Calls Tryz.prog 80 #[.string p,.int .i64 0,.string s,.int .i64 0] w λe w'=>e = .returned (.bool (zU (jE p.data.toList) s.data.toList))/\Below w.heap.size w w':=by
 have HS:=O (show s.data.toList.length=s.size from Array.length_toList);have MK:=O (zdm (s.size+1) (by omega));have ec:((s.size+1:Nat):Int)=(s.size:Int)+1:=by omega
 rw [ec] at MK;clear ec;have C1:=O (λw=>zdI p w hp);have C2:=O (λk w hk=>zai p k w hk hp);have SL:=O (Qf p.data.toList);have PL:=O (show p.data.toList.length=p.size from Array.length_toList);generalize jE p.data.toList=P at *;obtain⟨w0,hrun,M0,b0,z0⟩:=MK.o w;have q1:=M0.cell (k:=s.size) (by omega);have q2:=M0.frozen s.size;have M1:=O (M0.set (f':=λm=>decide (m=s.size)) s.size true (λk hk=>by by_cases e:k=s.size <;> simp [e]));have B0:=O (b0.setCell (p:=⟨w.heap.size,s.size,none⟩) (Nat.le_refl _) (.bool true));have Z0:=O z0;clear M0 b0 z0;go_enter Tryz.func80,Tryz.ntmps80;go_wp2_with fail;refine(C1.o _).mono ?_;rintro e w1 ⟨A,c,E,rfl,hpos,hints,hb1⟩;have hg:w.heap.size<w1.heap.size:=by have:=hb1.size;have:=Z0.o;simp at *;omega
 have M2:=O (M1.o.keep hb1 (by have:=Z0.o;simp;omega));have B1:=O (B0.o.trans (hb1.mono (by have:=Z0.o;simp;omega)));have Pos1:=O hpos;have Ints1:=O hints;have EL:=O (hpos.1);have el:E.length<=60:=by have:=EL.o;have:=SL.o;have:=PL.o;omega
 clear hrun q1 q2 M1 B0 Z0 hpos hints hb1;go_wp2;go_loopw [9,11] (λv k wr=>∃(t gc:Nat),k = .int .i64 ((t:Int)-1)/\t<=E.length/\v = .slice (some ⟨gc,0,none⟩) (s.size+1) (s.size+1)/\Hid (vO wr gc (s.size+1) (λm=>zU (P.drop t) (s.data.toList.drop m)))/\Hid (Below w1.heap.size w1 wr)) (λ_ k _=>(intOf k+1).toNat)
 case atStart =>
  refine⟨E.length,w.heap.size,rfl,Nat.le_refl _,rfl,?_,Below.refl _ _⟩;obtain⟨cs,e1,e2,e3⟩:=M2.o;exact⟨cs,e1,e2,λk hk=>by rw [e3 k hk];show some (Value.bool (decide (k=s.size)))=some (Value.bool (zU (P.drop E.length) (s.data.toList.drop k)));rw [zgq EL.o (by rw [HS.o];omega),HS.o]⟩
 case round =>
  obtain⟨t,gc,rfl,ht,rfl,K,B⟩:=hrel
  cases t with
  | zero =>
   have KC:=K.o.cell (k:=0) (by omega)
   simp only [List.drop_zero] at KC
   clear M2 MK
   go_wp2
   go_ret
   exact⟨rfl,B1.o.trans (B.o.mono B1.o.size)⟩
  | succ t =>
   rw [show(((t+1:Nat):Int)-1)=(t:Int) by omega]
   obtain⟨wo,rfl⟩:∃wo:World,wo=wr:=⟨_,rfl⟩
   have hte:t<E.length:=by omega
   have htp:t<P.length:=by rw [<-EL.o];exact hte
   obtain⟨ad,rfl,hc⟩:=Ints1.o t E[t] (List.getElem?_eq_getElem hte)
   obtain⟨Zz,hsx⟩:=Pos1.o.2 t E[t] P[t] (List.getElem?_eq_getElem hte) (List.getElem?_eq_getElem htp)
   rw [PL.o] at Zz
   have hcw:=B.o.cell (block_lt_of_cell hc)
   rw [hc] at hcw
   have hgc:=K.o.lt
   obtain⟨w2,hrun,N0,b2,z2⟩:=MK.o wo
   have K1:=O (K.o.keep b2 hgc)
   have N1:=O (show vO w2 wo.heap.size (s.size+1) (Row P s.data.toList t (s.size+1)) by
    obtain⟨cs,e1,e2,e3⟩:=N0
    exact⟨cs,e1,e2,λk hk=>by rw [e3 k hk,zbz _ _ _ _ _ hk]⟩)
   have hB:=B.o.size
   have B2:=O (B.o.trans (b2.mono hB))
   have Z2:=O z2
   have C2e:=O (λw=>C2.o E[t] w Zz)
   have HX:=O hsx
   clear M2 MK C2 hc K N0 b2 z2 hsx
   generalize E[t]=e at *
   go_wp2
   clear hrun hcw
   go_loopw [14] (λm wr2=>∃u:Nat,m = .int .i64 ((u:Int)-1)/\u<=s.size+1/\Hid (vO wr2 wo.heap.size (s.size+1) (Row P s.data.toList t u))/\Hid (vO wr2 gc (s.size+1) (λm=>zU (P.drop (t+1)) (s.data.toList.drop m)))/\Hid (Below w1.heap.size w1 wr2)) (λm _=>(intOf m+1).toNat)
   case atStart=>exact⟨s.size+1,by go_num,Nat.le_refl _,N1,K1,B2⟩
   case round =>
    obtain⟨u,rfl,hu,N,K,B⟩:=hrel
    cases u with
    | zero =>
     have N2:=O (show vO wr wo.heap.size (s.size+1) (λm=>zU (P.drop t) (s.data.toList.drop m)) by
      obtain⟨cs,e1,e2,e3⟩:=N.o
      exact⟨cs,e1,e2,λk hk=>by rw [e3 k hk,zh9]⟩)
     clear N K
     go_wp2
     go_roundw
     case rel=>exact⟨t,wo.heap.size,rfl,by omega,rfl,N2,B⟩
     case measure=>(simp [intOf] <;> omega)
    | succ u =>
     rw [show(((u+1:Nat):Int)-1)=(u:Int) by omega]
     have c1:=K.o.cell (k:=u) (by omega)
     have c2:=N.o.cell (k:=u) (by omega)
     have f2:=N.o.frozen u
     rcases hx:P[t] with _|b
     ·have h42:=(RP Zz).1 (HX.o.trans hx)
      by_cases ZG:u<s.size
      ·have c3:=N.o.cell (k:=u+1) (by omega);have hval:zU (P.drop t) (s.data.toList.drop u)=(zU (P.drop (t+1)) (s.data.toList.drop u)|| zU (P.drop t) (s.data.toList.drop (u+1))):=by
        rw [zb9 htp hx (by rw [HS.o];omega)];simp [HS.o,ZG]
       have hr:Row P s.data.toList t (u+1) (u+1)=zU (P.drop t) (s.data.toList.drop (u+1)):=by unfold Row;simp
       rw [hr] at c3;clear hx hr;generalize hv1:zU (P.drop (t+1)) (s.data.toList.drop u)=v1 at *;generalize hv2:zU (P.drop t) (s.data.toList.drop (u+1))=v2 at *;clear hv1 hv2;generalize Row P s.data.toList t (u+1) u=v0 at *;have N2:=O (N.o.set (f':=Row P s.data.toList t u) u (v1 || v2) (λk _=>MN hval k));have K2:=O (K.o.other (a:=⟨wo.heap.size,u,none⟩) (by simp;omega) (.bool (v1 || v2)));have B3:=O (B.o.setCell (p:=⟨wo.heap.size,u,none⟩) hB (.bool (v1 || v2)));clear N K B hval;cases v1 <;> cases v2
       all_goals
        go_wp2;go_roundw
        case rel=>exact⟨u,rfl,by omega,N2,K2,B3⟩
        case measure=>(simp [intOf] <;> omega)
      ·obtain rfl:u=s.size:=by omega
       have hval:zU (P.drop t) (s.data.toList.drop s.size)=zU (P.drop (t+1)) (s.data.toList.drop s.size):=by
        rw [zb9 htp hx (by rw [HS.o];omega)];simp [HS.o]
       clear hx;generalize hv1:zU (P.drop (t+1)) (s.data.toList.drop s.size)=v1 at *;clear hv1;generalize Row P s.data.toList t (s.size+1) s.size=v0 at *;have N2:=O (N.o.set (f':=Row P s.data.toList t s.size) s.size (v1) (λk _=>MN hval k));have K2:=O (K.o.other (a:=⟨wo.heap.size,s.size,none⟩) (by simp;omega) (.bool (v1)));have B3:=O (B.o.setCell (p:=⟨wo.heap.size,s.size,none⟩) hB (.bool (v1)));clear N K B hval;cases v1
       all_goals
        go_wp2;go_roundw
        case rel=>exact⟨s.size,rfl,by omega,N2,K2,B3⟩
        case measure=>(simp [intOf] <;> omega)
     ·have h42:((p[e].toNat:Int)==42)=false:=beq_eq_false_iff_ne.2 (λq=>by
       have:=(RP Zz).2 q
       rw [HX.o,hx] at this;cases this)
      by_cases ZG:u<s.size
      ·have c3:=K.o.cell (k:=u+1) (by omega);have hun':u<s.data.toList.length:=by rw [HS.o];exact ZG
       have hval:zU (P.drop t) (s.data.toList.drop u)=(((s[u].toNat:Int)==(b.toNat:Int))&& zU (P.drop (t+1)) (s.data.toList.drop (u+1))):=by
        rw [zja htp hx hun'];congr 1;have e0:s.data.toList[u]=s[u]:=rfl;rw [e0,Bool.eq_iff_iff,beq_iff_eq,beq_iff_eq];exact⟨λq=>by rw [q],λq=>UInt8.toNat_inj.1 (by omega)⟩
       have hbv:=zcf Zz (HX.o.trans hx);rw [hbv] at hval;clear hx hbv;generalize hv2:zU (P.drop (t+1)) (s.data.toList.drop (u+1))=v2 at *;clear hv2;generalize Row P s.data.toList t (u+1) u=v0 at *;generalize zU (P.drop (t+1)) (s.data.toList.drop u)=v3 at *;rcases hst:vX p e with _|_
       ·rw [hst] at C2e hval;rw [if_neg (by decide)] at hval;clear hst;by_cases heq:(s[u].toNat:Int)=(p[e].toNat:Int)
        ·rw [beq_iff_eq.2 heq,Bool.true_and] at hval;have zok:=beq_iff_eq.2 heq;clear heq;have N2:=O (N.o.set (f':=Row P s.data.toList t u) u (v2) (λk _=>MN hval k));have K2:=O (K.o.other (a:=⟨wo.heap.size,u,none⟩) (by simp;omega) (.bool (v2)));have B3:=O (B.o.setCell (p:=⟨wo.heap.size,u,none⟩) hB (.bool (v2)));clear N K B hval;go_wp2_with (go_at_call 121;refine(C2e.o _).mono ?_;rintro e' w' ⟨rfl,rfl⟩);go_roundw
         case rel=>exact⟨u,rfl,by omega,N2,K2,B3⟩
         case measure=>(simp [intOf] <;> omega)
        ·rw [beq_eq_false_iff_ne.2 heq,Bool.false_and] at hval;have zok:=beq_eq_false_iff_ne.2 heq;clear heq;have N2:=O (N.o.set (f':=Row P s.data.toList t u) u (false) (λk _=>MN hval k));have K2:=O (K.o.other (a:=⟨wo.heap.size,u,none⟩) (by simp;omega) (.bool (false)));have B3:=O (B.o.setCell (p:=⟨wo.heap.size,u,none⟩) hB (.bool (false)));clear N K B hval;go_wp2_with (go_at_call 121;refine(C2e.o _).mono ?_;rintro e' w' ⟨rfl,rfl⟩);go_roundw
         case rel=>exact⟨u,rfl,by omega,N2,K2,B3⟩
         case measure=>(simp [intOf] <;> omega)
       ·rw [hst] at C2e hval;rw [if_pos rfl] at hval;clear hst;by_cases heq:(s[u].toNat:Int)=42
        ·rw [beq_iff_eq.2 heq,Bool.true_and] at hval;have zok:=beq_iff_eq.2 heq;clear heq;have N2:=O (N.o.set (f':=Row P s.data.toList t u) u (v2) (λk _=>MN hval k));have K2:=O (K.o.other (a:=⟨wo.heap.size,u,none⟩) (by simp;omega) (.bool (v2)));have B3:=O (B.o.setCell (p:=⟨wo.heap.size,u,none⟩) hB (.bool (v2)));clear N K B hval;go_wp2_with (go_at_call 121;refine(C2e.o _).mono ?_;rintro e' w' ⟨rfl,rfl⟩);go_roundw
         case rel=>exact⟨u,rfl,by omega,N2,K2,B3⟩
         case measure=>(simp [intOf] <;> omega)
        ·rw [beq_eq_false_iff_ne.2 heq,Bool.false_and] at hval;have zok:=beq_eq_false_iff_ne.2 heq;clear heq;have N2:=O (N.o.set (f':=Row P s.data.toList t u) u (false) (λk _=>MN hval k));have K2:=O (K.o.other (a:=⟨wo.heap.size,u,none⟩) (by simp;omega) (.bool (false)));have B3:=O (B.o.setCell (p:=⟨wo.heap.size,u,none⟩) hB (.bool (false)));clear N K B hval;go_wp2_with (go_at_call 121;refine(C2e.o _).mono ?_;rintro e' w' ⟨rfl,rfl⟩);go_roundw
         case rel=>exact⟨u,rfl,by omega,N2,K2,B3⟩
         case measure=>(simp [intOf] <;> omega)
      ·obtain rfl:u=s.size:=by omega
       have hval:zU (P.drop t) (s.data.toList.drop s.size)=false:=zi9 htp hx (by rw [HS.o];omega);have N2:=O (show vO wr wo.heap.size (s.size+1) (Row P s.data.toList t s.size) by
        obtain⟨cs,e1,e2,e3⟩:=N.o
        refine⟨cs,e1,e2,λk hk=>?_⟩
        rw [e3 k hk,MN hval k]
        by_cases ek:k=s.size
        ·rw [if_pos ek,zbz _ _ _ _ _ hk]
        ·rw [if_neg ek])
       clear hx hval N;go_wp2;go_roundw
       case rel=>exact⟨s.size,rfl,by omega,N2,K,B⟩
       case measure=>(simp [intOf] <;> omega)
end Go.Proofs.YtokiogmfgpidmaaGreatDoor
