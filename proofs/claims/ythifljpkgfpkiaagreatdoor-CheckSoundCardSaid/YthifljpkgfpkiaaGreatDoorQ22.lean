/-
  val.split at a record: the values and their names, each in a row of its own. ..
-/
import Derived.Test.YthifljpkgfpkiaaGreatDoorQ2
import Derived.Test.YthifljpkgfpkiaaGreatDoorQ21
set_option maxRecDepth 100000
set_option maxHeartbeats 8000000
namespace Go.Wk
theorem Ce{v:List Nd}{f:Nat->Option Nat}{N k:Nat}{q n:Nat}(hk:k<N)(h:∃lo,ja v f (N-k) lo q=some n):
 ∃(hq:q<v.length) (e:Nat),f (q+1)=some e/\(∃lo,ja v f (N-(k+1)) lo e=some n)/\bJ v f (N-k) q=(v[q].s,seg v (q+1) e):: bJ v f (N-(k+1)) e:=by
 obtain⟨lo,h⟩:=h;obtain⟨j,hj⟩:∃j,N-k=j+1:=⟨N-k-1,by omega⟩
 rw [hj] at h;rw [hj,show N-(k+1)=j by omega];simp only [ja] at h;by_cases hq:q<v.length
 ·refine⟨hq,?_⟩;split at h
  ·cases h
  ·rename_i s hs;rcases hf:f (q+1) with _|e
   ·rw [hf] at h;cases h
   ·rw [hf] at h;exact⟨e,rfl,⟨_,h⟩,by simp only [bJ,hf];unfold Kv;rw [List.getElem?_eq_getElem hq]⟩
 ·rw [rB (by omega)] at h;cases h
end Go.Wk
namespace Go.Proofs.YthifljpkgfpkiaaGreatDoor
open Go.RowKit Go.Wk Go.Sort
structure aj(w:World)(B:Nat)(v v':Value)(V:List Sl)(N:List ByteArray):Prop where
 a:zU w B v V
 b:w.ownsRow B 9 1 v' N.length (N.map Value.string)
 ab:v.ownBlock=none\/v.ownBlock≠v'.ownBlock
 ap:∀r∈V,bj r v'.ownBlock
theorem aj.keep{w w':World}{B:Nat}{v v':Value}{V:List Sl}{N:List ByteArray}(h:aj w B v v' V N)(hb:Below w.heap.size w w'):aj w' B v v' V N :=
 ⟨h.a.keep hb,dO h.b hb,h.ab,h.ap⟩
theorem aj.other{w w':World}{B R:Nat}{v v':Value}{V:List Sl}{N:List ByteArray}(h:aj w B v v' V N)(hg:w.grownBy w' (some R))(hR:R<B)(hL:qZ R V):aj w' B v v' V N :=
 ⟨h.a.row hg (lY h.a.own hR) hL.apart,h.b.kept hg (lY h.b hR),h.ab,h.ap⟩
theorem sn:(Tryz.prog.info? 9).map (λi=>(i.zero,i.size,i.bytes))=some (some (.string ⟨#[]⟩),1,16):=by kernel_rfl
theorem aj.name{w w':World}{B:Nat}{v v' v1:Value}{V:List Sl}{N:List ByteArray}{s:ByteArray}{o:Obj}(h:aj w B v v' V N)
 (hown:w'.ownsRow B 9 1 v1 (N.length+1) (N.map Value.string ++ [.string s])) (hg:(w.alloc o).grownBy w' v'.ownBlock) (hat:v1.ownBlock=v'.ownBlock\/v1.ownBlock=some (w.alloc o).heap.size):aj w' B v v1 V (N ++ [s]):=by
 have hba:Below w.heap.size w (w.alloc o):=za w o;refine⟨(h.a.keep hba).row hg h.ab h.ap,by simpa using hown,?_,λr hr h0 a e=>?_⟩
 ·rcases hv:v.ownBlock with _|g
  ·exact .inl rfl
  ·have hlt:=ej h.a.own g hv;refine .inr ?_;rcases hat with q|q
   ·rw [q,<-hv];rcases h.ab with z|z
    ·rw [hv] at z;cases z
    ·exact z
   ·rw [q];intro z;injection z with z;simp at z;omega
 ·rcases hat with q|q
  ·rw [q];exact h.ap r hr h0 a e
  ·rw [q];have:=(h.a.each r hr).at_.lt h0 a e;intro z;injection z with z;simp at z;omega
theorem aj.part{w w':World}{B:Nat}{v v' v1:Value}{V:List Sl}{N:List ByteArray}{r:Sl}{o:Obj}(h:aj w B v v' V N)(hr:Ns w r.A r.n r.c r.P)(ha:bj r v.ownBlock)(ha':bj r v'.ownBlock)
 (hown:w'.ownsRow B 29 1 v1 (V.length+1) (V.map Sl.v ++ [r.v])) (hg:(w.alloc o).grownBy w' v.ownBlock) (hat:v1.ownBlock=v.ownBlock\/v1.ownBlock=some (w.alloc o).heap.size):aj w' B v1 v' (V ++ [r]) N:=by
 have hba:Below w.heap.size w (w.alloc o):=za w o;refine⟨h.a.snoc hr ha hown hg hat,(dO h.b hba).kept hg ?_,?_,?_⟩
 ·rcases h.ab with z|z
  ·rw [z];cases v'.ownBlock <;> simp
  ·exact .inr (λq=>z q.symm)
 ·rcases hv:v1.ownBlock with _|g
  ·exact .inl rfl
  ·refine .inr ?_;rcases hat with q|q
   ·rcases h.ab with z|z
    ·rw [hv,z] at q;cases q
    ·rw [<-hv,q];exact z
   ·intro z;have:=ej h.b g z.symm;rw [hv] at q;injection q with q;simp at q;omega
 ·intro x hx;rcases List.mem_append.1 hx with h1|h1
  ·exact h.ap x h1
  ·simp only [List.mem_cons,List.not_mem_nil,or_false] at h1;subst h1;exact ha'
theorem yl(A:Option Addr)(n c:Nat)(P:List Nd)(w:World)(h:Ns w A n c P)(hv:zh P=0)(h6:zg P=6):
 Calls Tryz.prog 117 #[.slice A n c] w (xG w ((zo P).map (·.2)) ((zo P).map (·.1))):=by
 obtain⟨i0,hi,hz0,hz1,hz2⟩:=info_parts nL;obtain⟨j0,hj,jz0,jz1,jz2⟩:=info_parts sn;obtain⟨ci,hV⟩:=zy.1 hv;have cg:=hV.pos;obtain⟨a,rfl,D⟩:=h.at_.nd cg;have hn:=h.len;obtain⟨hs0,_,hop,hx0,hN⟩:=NV hV h6;have hE:zo P=bJ P (zq P (P.length+1)) P[0].n.toNat 1:=by unfold zo;rw [hN]
 rw [hN] at hs0;obtain⟨-,-,-,XS⟩:=h.ok.at cg;have K:=O (λq w' (hb:Below w.heap.size w w') rd hq=>pD (some a) P n c w.heap.size hn h.cap h.max h.ok (λh0 a' e=>by have:=h.at_.lt h0 a' e;omega) (P.length+1) q w' rd (h.at_.keep hb) (by omega:n-q<P.length+1));have HN:=O h;have HL:=O hn;have H0:=O hs0;have HE:=O hE;rw [show a.add (0*4)=a from rfl] at D;obtain⟨d0,d1,d2,d3⟩:=D;have r0:dB (w.alloc (.cells #[.slice (some a) n c,.int .i64 1] 140)) w.heap.size (.slice (some a) n c) 1:=⟨by simp,by simp,by simp⟩
 rw [hop] at d0;have d1':=λo:Obj=>zb (za w o) d1;generalize P[0]=x at *;have hn200:n<=200:=by omega
 have hn1:0<n:=by omega
 clear h hv h6 hV hn hs0 hE hN ci hop;go_enter Tryz.func117,Tryz.ntmps117;go_wp2_with fail;clear d1';go_loopw [2,3,12] (λv v' i wr=>∃(k q:Nat) (V:List Sl) (X:List (ByteArray × List Nd)),i = .int .i64 k/\(k:Int)<=x.n/\q<=n/\k+1<=q/\V.length=k/\X.length=k/\Hid (V.map Sl.P=X.map (·.2))/\Hid (zo P=X ++ bJ P (zq P (P.length+1)) (x.n.toNat-k) q)/\
  Hid (∃lo,ja P (zq P (P.length+1)) (x.n.toNat-k) lo q=some P.length)/\Hid (aj wr (w.heap.size+1) v v' V (X.map (·.1)))/\Hid (qZ w.heap.size V)/\Hid (dB wr w.heap.size (.slice (some a) n c) q)/\Hid (Below w.heap.size w wr)) (λ_ _ i _=>(x.n-intOf i).toNat)
 case atStart=>exact⟨0,1,[],[],rfl,hx0,hn1,by omega,rfl,rfl,rfl,HE.o,⟨_,H0.o⟩,⟨zU.nil _ _,World.ownsRow_nil _ _ _ 1,.inl rfl,(by intro r hr;cases hr)⟩,(by intro r hr;cases hr),r0,za _ _⟩
 case round =>
  obtain⟨k,q,V,X,rfl,hk,hq,hkq,BV,Xl,WC,hE,hS,hT,Rx,hrd,hB⟩:=hrel;have e0:=zb hB.o d0;by_cases hlt:(k:Int)<x.n
  ·obtain⟨hq',e,hf,Yg,hsp⟩:=Ce (by omega) hS.o;have hle:=aC _ _ _ hf;rw [<-HL.o] at hle;have XT:q<n:=by omega
   obtain⟨a',ha',⟨-,-,q2,-⟩⟩:=(HN.o.at_.keep hB.o).nd hq';injection ha' with ha';subst ha';have ay:=O (hE.o.trans (by rw [hsp]:_=X ++((P[q].s,seg P (q+1) e):: bJ P (zq P (P.length+1)) (x.n.toNat-(k+1)) e)));have wb:=O Yg;have HF:=O hf;have XW:(seg P (q+1) e).length=e-(q+1):=jV (by rw [<-HL.o];omega);have HSG:=O XW;generalize P[q].s=nm at *;obtain⟨c0,c1,f1⟩:=hrd.o;have hsz1:=hB.o.size;have xf:=hrd.o.lt;clear hE hS Yg hsp hf XW;go_wp2_with (at_builtin;refine wpList_append_own_at _ rfl _ _ 45 rfl (w.heap.size+1) 9 j0 _ 1 16 Tryz.underlying45 hj jz0 jz1 jz2 rfl (by decide) _ (X.map (·.1)).length ((X.map (·.1)).map Value.string) rfl (hT.o.b.alloc _) ⟨_,0,none⟩ 1 1 [.string nm] rfl rfl (cell_one_new _ _ _) (by intro u hu;simp only [List.mem_cons,List.not_mem_nil,or_false] at hu;subst hu;rfl) ?c1 ?c2 ?c3 ?_)
   case c1=>simp;unfold maxLen;omega
   case c2=>simp;omega
   case c3=>simp;omega
   intro v1 w1 hown hgrow _ hat;have T1:=O (hT.o.name (s:=nm) (by simpa [Xl] using hown) hgrow (by simpa using hat));have B1:=O ((hB.o.alloc hB.o.size _).grown hgrow (by simp;omega) (λg hg=>by have:=jk hT.o.b g hg;omega));have R1:=O ((hrd.o.keep (za wr _)).row hgrow (sk hT.o.b (by omega)));have R2:=O (R1.o.put (q+1));have T2:=O (T1.o.other (R:=w.heap.size) (zl w1 ⟨w.heap.size,1,none⟩ (.int .i64 (q+1:Nat))) (by omega) Rx.o);have B2:=O (B1.o.setCell (p:=⟨w.heap.size,1,none⟩) (Nat.le_refl _) (.int .i64 (q+1:Nat)));have hRl1:=R1.o.lt;obtain⟨c0',c1',f1'⟩:=R1.o;have C:=O (K.o (q+1) _ B2.o R2.o (by rw [<-HL.o];omega));rw [HF.o] at C;clear hown hgrow hat hT hB hrd c0 c1 f1 q2 T1 B1 R1;go_wp2_with fail;refine C.o.mono ?_;rintro e' w3 zX;obtain⟨rfl,r3,g3⟩:=zX;have B3:=O (B2.o.trans (jE g3 (Nat.le_refl _) B2.o.size));have T3:=O (T2.o.other g3 (by omega) Rx.o);have CL:=O (rm (a.add ((q+1)*4)) (e-(q+1)) (c-(q+1)) (seg P (q+1) e) w3 (tJ (HN.o.keep B3.o) (by omega) hle.2) (by rw [HSG.o];omega));have R3:=O r3;have hsz2:=B3.o.size;have hsz3:w.heap.size<w3.heap.size:=R3.o.lt;clear r3 g3 T2 B2 R2 c0' c1' f1';go_wp2_with fail;refine CL.o.mono ?_;rintro e' w4 zX;obtain⟨A3,c3,rfl,n3,l3,b4⟩:=zX;have B4:=bh B3 b4;have T4:=O (T3.o.keep b4);have R4:=O (R3.o.keep b4);have N4:=O (show Ns w4 (⟨A3,(seg P (q+1) e).length,c3,seg P (q+1) e⟩:Sl).A _ _ _ from n3);have L4:=O (Rx.o.snoc (r:=⟨A3,(seg P (q+1) e).length,c3,seg P (q+1) e⟩) (λa' h'=>by have:=l3 a' h';omega));have A4:Hid (bj ⟨A3,(seg P (q+1) e).length,c3,seg P (q+1) e⟩ u2.ownBlock):=by
    intro h0 a' e' q';have h1:=ej T3.o.a.own a'.block q';have h2:=l3 a' e';omega
   have A5:Hid (bj ⟨A3,(seg P (q+1) e).length,c3,seg P (q+1) e⟩ v1.ownBlock):=by
    intro h0 a' e' q';have h1:=ej T3.o.b a'.block q';have h2:=l3 a' e';omega
   have hsz4:=B4.o.size;have Wy:=b4.size;clear b4 n3 l3 T3 R3 B3 Rx;go_wp2_with (at_builtin;refine wpList_append_own_at _ rfl _ _ 110 rfl (w.heap.size+1) 29 i0 _ 1 24 Tryz.underlying110 hi hz0 hz1 hz2 rfl (by decide) _ V.length (V.map Sl.v) rfl (T4.o.a.own.alloc _) ⟨_,0,none⟩ 1 1 [.slice A3 (seg P (q+1) e).length c3] rfl rfl (cell_one_new _ _ _) (by intro u hu;simp only [List.mem_cons,List.not_mem_nil,or_false] at hu;subst hu;rfl) ?d1 ?d2 ?d3 ?_)
   case d1=>unfold maxLen;omega
   case d2=>omega
   case d3=>simp;omega
   intro v2 w5 hown hgrow _ hat;have B5:=O ((B4.o.alloc B4.o.size _).grown hgrow (by simp;omega) (λg hg=>by have:=jk T4.o.a.own g hg;omega));have R5:=O ((R4.o.keep (za w4 _)).row hgrow (sk T4.o.a.own (by omega)));have T5:=O (T4.o.part (r:=⟨A3,(seg P (q+1) e).length,c3,seg P (q+1) e⟩) N4.o A4.o A5.o (by rw [BV];exact hown) hgrow (by simpa using hat));have Z8:=O (ay.o.trans (show _=(X ++ [(nm,seg P (q+1) e)])++ bJ P (zq P (P.length+1)) (x.n.toNat-(k+1)) e by simp));have Rj:(V ++ [(⟨A3,(seg P (q+1) e).length,c3,seg P (q+1) e⟩:Sl)]).length=k+1:=by simp [BV]
   have Yf:(X ++ [(nm,seg P (q+1) e)]).length=k+1:=by simp [Xl]
   have HV5:=O (show(V ++ [(⟨A3,(seg P (q+1) e).length,c3,seg P (q+1) e⟩:Sl)]).map Sl.P=(X ++ [(nm,seg P (q+1) e)]).map (·.2) by
    rw [List.map_append,List.map_append,WC.o];rfl)
   have T6:=O (show aj w5 (w.heap.size+1) v2 v1 (V ++ [(⟨A3,(seg P (q+1) e).length,c3,seg P (q+1) e⟩:Sl)]) ((X ++ [(nm,seg P (q+1) e)]).map (·.1)) by
    rw [List.map_append];exact T5.o)
   clear hown hgrow hat R4 N4 A4 A5 ay B4 T5;go_wp2_with fail;go_roundw
   case rel=>exact⟨k+1,e,_,_,by go_num,by omega,by omega,by omega,Rj,Yf,HV5,Z8,wb,T6,L4,R5,B5⟩
   case measure=>simp [intOf];omega
  ·have HG:=O (hE.o.trans (show _=X by rw [show x.n.toNat-k=0 by omega];simp [bJ]));clear hE hS hrd;go_wp2_with fail;go_ret2;exact⟨_,_,V,rfl,hT.o.a.mono (by omega),by rw [HG.o];exact WC.o,by rw [HG.o];exact E6 hT.o.b (by omega),Rx.o,hB.o⟩
end Go.Proofs.YthifljpkgfpkiaaGreatDoor
namespace Go.Wk
def cC(P:List Nd):Int:=if zh P=0 then(if zg P=5\/zg P=6 then 0 else 2) else zh P
def ic(P:List Nd):List (List Nd):=if cC P=0 then(if zg P=5 then zn P else(zo P).map (·.2)) else []
def wX(P:List Nd)(s:ByteArray):Option (List Nd):=((zo P).find? λx=>decide (js x.1 s=0)).map (·.2)
def cY(P:List Nd)(s:ByteArray):Int:=if zh P=0 then(if zg P=6 then(if(wX P s).isSome then 0 else 3) else 2) else zh P
def l9(P:List Nd)(s:ByteArray):List Nd:=if cY P s=0 then(wX P s).getD [] else []
theorem j8{P:List Nd}(h:0<P.length):zg P=P[0].op:=by
 rcases P with _|⟨x,r⟩
 ·simp at h
 ·rfl
theorem Sp{α:Type}{l:List α}{p:α->Bool}{k:Nat}(h:k<l.length)(hp:p l[k]=true)(hn:∀j,(hj:j<k)->p (l[j]'(by omega))=false):l.find? p=some l[k]:=by
 rw [List.find?_eq_some_iff_getElem];exact⟨hp,k,h,rfl,λj hj=>by rw [hn j hj];rfl⟩
theorem PG(N:List ByteArray)(s:ByteArray):(∃(k:Nat) (h:k<N.length),Lib.idxOfS N s=k/\N[k]=s/\∀j,(hj:j<k)->(N[j]'(by omega))≠s)\/(Lib.idxOfS N s = -1/\∀j,(hj:j<N.length)->N[j]≠s):=by
 unfold Lib.idxOfS;have key:∀(N:List ByteArray) (i:Nat),(∃(k:Nat) (h:k<N.length),Lib.idxFromS N s i=((i+k:Nat):Int)/\N[k]=s/\∀j,(hj:j<k)->(N[j]'(by omega))≠s)\/(Lib.idxFromS N s i = -1/\∀j,(hj:j<N.length)->N[j]≠s):=by
  intro N
  induction N with
  | nil=>intro i;exact .inr ⟨rfl,λj hj=>by simp at hj⟩
  | cons x N ih =>
   intro i
   by_cases hx:x=s
   ·exact .inl ⟨0,by simp,by simp [Lib.idxFromS,hx],hx,λj hj=>by omega⟩
   ·rcases ih (i+1) with ⟨k,hk,h1,h2,h3⟩|⟨h1,h2⟩
    ·refine .inl ⟨k+1,by simp;omega,?_,h2,λj hj=>?_⟩
     ·simp only [Lib.idxFromS,hx];rw [if_neg (by simp),h1];congr 1;omega
     ·rcases j with _|j
      ·exact hx
      ·exact h3 j (by omega)
    ·refine .inr ⟨?_,λj hj=>?_⟩
     ·simp only [Lib.idxFromS,hx];rw [if_neg (by simp)];exact h1
     ·rcases j with _|j
      ·exact hx
      ·exact h2 j (by simpa using hj)
 have:=key N 0;simpa using this
end Go.Wk
namespace Go.Proofs.YthifljpkgfpkiaaGreatDoor
open Go.RowKit Go.Wk Go.Sort
theorem zP{A:Option Addr}{n c:Nat}{P:List Nd}{w:World}(h:Ns w A n c P):Calls Tryz.prog 29 #[.slice A n c] w λe w'=>e = .returned (je (zh P))/\Below w.heap.size w w' :=
 Ku A n c P w h.len h.cap h.max h.at_ h.ok
def dx(w:World)(P:List Nd)(e:Ending)(w':World):Prop :=
 ∃(v:Value) (V:List Sl),e = .returned (.tuple #[v,je (cC P)])/\zU w' w.heap.size v V/\V.map Sl.P=ic P/\(∀r∈V,∀a,r.A=some a->w.heap.size<=a.block)/\Below w.heap.size w w'
theorem aB(A:Option Addr)(n c:Nat)(P:List Nd)(w:World)(h:Ns w A n c P):
 Calls Tryz.prog 71 #[.slice A n c] w (dx w P):=by
 have K:=O (zP h);have H:=O h;by_cases h0:zh P=0
 ·have hV:=(zy.1 h0).2;have cg:=hV.pos;obtain⟨a,rfl,D⟩:=h.at_.nd cg;rw [show a.add (0*4)=a from rfl] at D;have hn1:0<n:=by rw [h.len];exact cg
  have d0:=D.c0;rw [<-j8 cg] at d0;rw [h0,zj] at K;by_cases h5:zg P=5
  ·have S:=O (λw' hb=>Mq (some a) n c P w' (h.keep hb) h0 h5);have hE:cC P=0:=by unfold cC;rw [if_pos h0,if_pos (.inl h5)]
   have HL:=O (show ic P=zn P by unfold ic;rw [if_pos hE,if_pos h5]);have HE:=O hE;rw [h5] at d0;clear h h0 hV D h5 hE;go_enter Tryz.func71,Tryz.ntmps71;go_wp2_with fail;refine(K.o).mono ?_;rintro e w1 ⟨rfl,b1⟩;replace d0:=zb b1 d0;have B1:=O b1;clear b1;go_wp2_with fail;refine(S.o _ B1.o).mono ?_;rintro e w2 ⟨v,v',V,rfl,hO,BI,-,hF,b2⟩;have HF:=O (λr hr a h=>Nat.le_trans B1.o.size (Nat.le_of_lt (hF r hr a h)));have HO:=O (hO.mono B1.o.size);have HV:=O (BI.trans HL.o.symm);have B2:=bh B1 b2;clear hO BI hF b2;go_wp2_with fail;go_ret2;exact⟨v,V,by rw [HE.o];rfl,HO.o,HV.o,HF.o,B2.o⟩
  ·by_cases h6:zg P=6
   ·have S:=O (λw' hb=>yl (some a) n c P w' (h.keep hb) h0 h6);have hE:cC P=0:=by unfold cC;rw [if_pos h0,if_pos (.inr h6)]
    have HL:=O (show ic P=(zo P).map (·.2) by unfold ic;rw [if_pos hE,if_neg h5]);have HE:=O hE;rw [h6] at d0;clear h h0 hV D h5 h6 hE;go_enter Tryz.func71,Tryz.ntmps71;go_wp2_with fail;refine(K.o).mono ?_;rintro e w1 ⟨rfl,b1⟩;replace d0:=zb b1 d0;have B1:=O b1;clear b1;go_wp2_with fail;refine(S.o _ B1.o).mono ?_;rintro e w2 ⟨v,v',V,rfl,hO,BI,-,hF,b2⟩;have HF:=O (λr hr a h=>Nat.le_trans B1.o.size (Nat.le_of_lt (hF r hr a h)));have HO:=O (hO.mono B1.o.size);have HV:=O (BI.trans HL.o.symm);have B2:=bh B1 b2;clear hO BI hF b2;go_wp2_with fail;go_ret2;exact⟨v,V,by rw [HE.o];rfl,HO.o,HV.o,HF.o,B2.o⟩
   ·have hE:cC P=2:=by unfold cC;rw [if_pos h0,if_neg (by omega)]
    have HL:=O (show ic P = [] by unfold ic;rw [if_neg (by omega)]);have HE:=O hE;have g5:(zg P != 5)=true:=by rw [bne_iff_ne];exact h5
    have g6:(zg P != 6)=true:=by rw [bne_iff_ne];exact h6
    clear h h0 hV D h5 h6 hE;go_enter Tryz.func71,Tryz.ntmps71;go_wp2_with fail;refine(K.o).mono ?_;rintro e w1 ⟨rfl,b1⟩;replace d0:=zb b1 d0;have B1:=O b1;clear b1;go_wp2_with fail;go_ret2;exact⟨_,[],by rw [HE.o];rfl,zU.nil _ _,HL.o.symm,(by intro r hr;cases hr),B1.o⟩
 ·have hE:cC P=zh P:=by unfold cC;rw [if_neg h0]
  have HL:=O (show ic P = [] by unfold ic;rw [if_neg (by rw [hE];exact h0)]);have HE:=O hE;rw [zm h0] at K;have HX:=O (zm h0);clear h h0 hE;go_enter Tryz.func71,Tryz.ntmps71;go_wp2_with fail;refine(K.o).mono ?_;rintro e w1 ⟨rfl,b1⟩;go_wp2_with fail;go_ret2;exact⟨_,[],by rw [HE.o,HX.o];rfl,zU.nil _ _,HL.o.symm,(by intro r hr;cases hr),b1⟩
theorem GH{w:World}{B:Nat}{v:Value}{N:List ByteArray}(s:ByteArray)(h:w.ownsRow B 9 1 v N.length (N.map Value.string))(hN:N.length<=100000):
 Calls Tryz.prog 44 #[v,.string s] w λe w'=>e = .returned (.int .i64 (Lib.idxOfS N s))/\w'=w:=by
 -- for 98
 rcases h.2 with ⟨rfl,h0⟩|⟨g,cap,cur,rfl,-,-,hc,-⟩
 ·have:N = []:=List.eq_nil_of_length_eq_zero h0;subst this;exact Tryz.slices_Index_string_empty none 0 s w
 ·have:=Tryz.slices_Index_string g 0 N.length cap N s w (Nat.le_refl _) (by omega) (λj hj=>by
   have e:=h.cells (g:=g) rfl j (.string N[j]) (by rw [List.getElem?_map,List.getElem?_eq_getElem hj];rfl)
   rw [iL] at e
   rw [e]
   simp [hj])
  rw [List.take_length] at this;exact this
def pj(w:World)(P:List Nd)(s:ByteArray)(e:Ending)(w':World):Prop :=
 ∃(A:Option Addr) (n c:Nat),e = .returned (.tuple #[.slice A n c,je (cY P s)])/\Ns w' A n c (l9 P s)/\(∀a,A=some a->w.heap.size<=a.block)/\Below w.heap.size w w'
theorem yZ{P:List Nd}(h:zh P=0)(h6:zg P=6):(zo P).length<=200:=by
 obtain⟨h1,h2⟩:=zy.1 h;obtain⟨e,-,h3,-⟩:=dD h2 h6;have:(zo P).length<=(zV (zo P)).length:=by
  generalize zo P=l
  induction l with
  | nil=>simp
  | cons x l ih=>simp only [zV,List.length_cons,List.length_append];omega
 have hl:=congrArg List.length e;simp only [List.length_cons] at hl;omega
theorem sK(A:Option Addr)(n c:Nat)(P:List Nd)(s:ByteArray)(w:World)(h:Ns w A n c P):
 Calls Tryz.prog 98 #[.slice A n c,.string s] w (pj w P s):=by
 have K:=O (zP h);by_cases h0:zh P=0
 ·have hV:=(zy.1 h0).2;have cg:=hV.pos;obtain⟨a,rfl,D⟩:=h.at_.nd cg;rw [show a.add (0*4)=a from rfl] at D;have hn1:0<n:=by rw [h.len];exact cg
  have d0:=D.c0;rw [<-j8 cg] at d0;rw [h0,zj] at K;by_cases h6:zg P=6
  ·have S:=O (λw' hb=>yl (some a) n c P w' (h.keep hb) h0 h6);have HG:=O (show cY P s=if(wX P s).isSome then 0 else 3 by unfold cY;rw [if_pos h0,if_pos h6]);have HLn:=O (yZ h0 h6);rw [h6] at d0;clear h h0 hV D h6;go_enter Tryz.func98,Tryz.ntmps98;go_wp2_with fail;refine(K.o).mono ?_;rintro e w1 ⟨rfl,b1⟩;replace d0:=zb b1 d0;have B1:=O b1;clear b1;go_wp2_with fail;refine(S.o _ B1.o).mono ?_;rintro e w2 ⟨v,v',V,rfl,hO,BI,hN,hfr,b2⟩;have HFr:=O (show∀r∈V,∀a,r.A=some a->w.heap.size<=a.block from λr hr a e=>Nat.le_trans B1.o.size (Nat.le_of_lt (hfr r hr a e)));clear hfr;have B2:=bh B1 b2;have I:=O (GH s hN (by simp;have:=HLn.o;omega));have HV:=O BI;have BV:=congrArg List.length BI;simp only [List.length_map] at BV;obtain⟨A2,c2,rfl,hc2,UY⟩:=hO.at
   have HS:=O UY;clear hO BI hN b2 UY;rcases PG ((zo P).map (·.1)) s with ⟨k,hk,hi,hkk,hlt⟩|⟨hi,hno⟩
   ·have FA:k<(zo P).length:=by simpa using hk
    have Rr:k<V.length:=by omega
    have hR:wX P s=some (zo P)[k].2:=by
     unfold wX;rw [Sp FA (decide_eq_true ((zw.zero _ _).2 (by simpa using hkk))) (λj hj=>decide_eq_false (λq=>hlt j hj (by simpa using(zw.zero _ _).1 q)))];rfl
    obtain⟨a2,rfl,q2,n2⟩:=HS.o.at Rr;have hP:V[k].P=(zo P)[k].2:=by
     have:=congrArg (λl=>l[k]?) HV.o;simp only [List.getElem?_map,List.getElem?_eq_getElem Rr,List.getElem?_eq_getElem FA,Option.map_some,Option.some.injEq] at this;exact this
    have ay:=O (show cY P s=0 by rw [HG.o,hR];rfl);have WI:=O (show l9 P s=V[k].P by unfold l9;rw [if_pos ay.o,hR,hP];rfl);have se:=O n2;have HFR:=O (HFr.o V[k] (List.getElem_mem Rr));rw [hi] at I;generalize V[k]=r at *;clear hk hi hkk hlt hR hP n2 BV FA;go_wp2_with fail;refine I.o.mono ?_;rintro e w3 ⟨rfl,rfl⟩;go_wp2_with fail;go_ret2;exact⟨r.A,r.n,r.c,by rw [ay.o];rfl,by rw [WI.o];exact se.o,HFR.o,B2.o⟩
   ·have hR:wX P s=none:=by
     unfold wX;rw [List.find?_eq_none.2 (λx hx=>by
      obtain⟨j,hj,rfl⟩:=List.getElem_of_mem hx
      have:=hno j (by simpa using hj)
      simp only [decide_eq_true_eq]
      intro q
      exact this (by simpa using(zw.zero _ _).1 q))]
     rfl
    have ay:=O (show cY P s=3 by rw [HG.o,hR];rfl);have WI:=O (show l9 P s = [] by unfold l9;rw [ay.o];rfl);rw [hi] at I;clear hi hno hR BV;go_wp2_with fail;refine I.o.mono ?_;rintro e w3 ⟨rfl,rfl⟩;go_wp2_with fail;go_ret2;exact⟨none,0,0,by rw [ay.o];rfl,by rw [WI.o];exact⟨rfl,Nat.le_refl _,by unfold maxLen;omega,λk x hx=>by simp at hx,λx hx=>by cases hx⟩,(λ_ e=>nomatch e),B2.o⟩
  ·have hE:cY P s=2:=by unfold cY;rw [if_pos h0,if_neg h6]
   have WI:=O (show l9 P s = [] by unfold l9;rw [hE];rfl);have HE:=O hE;have g6:(zg P != 6)=true:=by rw [bne_iff_ne];exact h6
   clear h h0 hV D h6 hE;go_enter Tryz.func98,Tryz.ntmps98;go_wp2_with fail;refine(K.o).mono ?_;rintro e w1 ⟨rfl,b1⟩;replace d0:=zb b1 d0;have B1:=O b1;clear b1;go_wp2_with fail;go_ret2;exact⟨none,0,0,by rw [HE.o];rfl,by rw [WI.o];exact⟨rfl,Nat.le_refl _,by unfold maxLen;omega,λk x hx=>by simp at hx,λx hx=>by cases hx⟩,(λ_ e=>nomatch e),B1.o⟩
 ·have hE:cY P s=zh P:=by unfold cY;rw [if_neg h0]
  have WI:=O (show l9 P s = [] by unfold l9;rw [if_neg (by rw [hE];exact h0)]);have HE:=O hE;rw [zm h0] at K;have HX:=O (zm h0);clear h h0 hE;go_enter Tryz.func98,Tryz.ntmps98;go_wp2_with fail;refine(K.o).mono ?_;rintro e w1 ⟨rfl,b1⟩;go_wp2_with fail;go_ret2;exact⟨none,0,0,by rw [HE.o,HX.o];rfl,by rw [WI.o];exact⟨rfl,Nat.le_refl _,by unfold maxLen;omega,λk x hx=>by simp at hx,λx hx=>by cases hx⟩,(λ_ e=>nomatch e),b1⟩
end Go.Proofs.YthifljpkgfpkiaaGreatDoor
namespace Go.Proofs.YthifljpkgfpkiaaGreatDoor
open Go.RowKit Go.Wk
def ul(w:World)(A:Option Addr)(P:List Ud):Prop :=
 ∀(k:Nat) (x:Ud),P[k]?=some x->∃a,A=some a/\w.cell? (a.add (k*2))=some (.string x.1)/\w.cell? ⟨(a.add (k*2)).block,(a.add (k*2)).off+1,none⟩=some (.string x.2)
theorem ul.keep{w w':World}{A:Option Addr}{P:List Ud}(h:ul w A P)(hb:Below w.heap.size w w'):ul w' A P :=
 λk x hx=>let ⟨a,h1,h2,h3⟩:=h k x hx;⟨a,h1,zb hb h2,zb hb h3⟩
theorem ul.but{w w':World}{A:Option Addr}{P:List Ud}{g:Option Nat}(h:ul w A P)(hg:w.grownBy w' g)(hR:∀a,A=some a->g≠some a.block):ul w' A P:=by
 intro k x hx;obtain⟨a,h1,h2,h3⟩:=h k x hx;have hn:some a.block≠g:=λe=>hR a h1 e.symm;have hb:=ax a (k*2);exact⟨a,h1,hg.cell h2 (by rw [hb];exact hn),hg.cell h3 (by rw [hb];exact hn)⟩
structure Us(w:World)(A:Option Addr)(n c:Nat)(P:List Ud):Prop where
 len:n=P.length
 cap:n<=c
 max:n<=maxLen
 at_:ul w A P
 ok:∀x∈P,x.1.size<=maxLen/\x.2.size<=maxLen
theorem Us.keep{w w':World}{A:Option Addr}{n c:Nat}{P:List Ud}(h:Us w A n c P)(hb:Below w.heap.size w w'):Us w' A n c P:=⟨h.len,h.cap,h.max,h.at_.keep hb,h.ok⟩
theorem Us.but{w w':World}{A:Option Addr}{n c:Nat}{P:List Ud}{g:Option Nat}(h:Us w A n c P)(hg:w.grownBy w' g)(hR:∀a,A=some a->g≠some a.block):Us w' A n c P:=⟨h.len,h.cap,h.max,h.at_.but hg hR,h.ok⟩
theorem Us.take{w:World}{A:Option Addr}{n c k:Nat}{P:List Ud}(h:Us w A n c P)(hk:k<=n):Us w A k c (P.take k):=
 {len:=by rw [List.length_take,<-h.len];omega
  cap:=Nat.le_trans hk h.cap
  max:=Nat.le_trans hk h.max
  at_:=λj x hx=>by
   rw [List.getElem?_take] at hx
   split at hx
   ·exact h.at_ j x hx
   ·cases hx
  ok:=λx hx=>h.ok x (List.mem_of_mem_take hx)}
structure En where
 u:Ud
 UA:Option Addr
 un:Nat
 uc:Nat
 ups:List Ud
 NA:Option Addr
 nn:Nat
 nc:Nat
 P:List Nd
def En.v(e:En):Value := .agg #[.string e.u.1,.string e.u.2,.slice e.UA e.un e.uc,.slice e.NA e.nn e.nc]
structure Bw(w:World)(e:En):Prop where
 t:e.u.1.size<=maxLen
 i:e.u.2.size<=maxLen
 us:Us w e.UA e.un e.uc e.ups
 ns:Ns w e.NA e.nn e.nc e.P
theorem Bw.keep{w w':World}{e:En}(h:Bw w e)(hb:Below w.heap.size w w'):Bw w' e:=⟨h.t,h.i,h.us.keep hb,h.ns.keep hb⟩
def iy(e:En):Int:=if 6<e.ups.length then 4 else if cV [] e.ups=0 then(if zh e.P=0 then(if zg e.P=6 then 0 else 2) else zh e.P) else cV [] e.ups
theorem Kl{P:List Ud}{k:Nat}(h:k<P.length)(x:Ud):cM (P.take (k+1)) x=(cM (P.take k) x || decide (P[k]=x)):=by
 unfold cM;rw [List.take_succ_eq_append_getElem h,List.any_append];simp
theorem Ih{x y:Ud}(h:x≠y):(x.1.toList==y.1.toList)=false\/((x.1.toList==y.1.toList)=true/\(x.2.toList==y.2.toList)=false):=by
 by_cases h1:x.1=y.1
 ·refine .inr ⟨by rw [h1];simp,beq_eq_false_iff_ne.2 λe=>h ?_⟩;have h2:=toList_inj e;cases x;cases y;simp only at h1 h2;rw [h1,h2]
 ·exact .inl (beq_eq_false_iff_ne.2 λe=>h1 (toList_inj e))
theorem GZ(A:Option Addr)(n c:Nat)(P:List Ud)(x:Ud)(w:World)(h:Us w A n c P):
 Calls Tryz.prog 122 #[.slice A n c,.agg #[.string x.1,.string x.2]] w λe w'=>(∃k:Int,e = .returned (.int .i64 k)/\(0<=k↔cM P x=true))/\Below w.heap.size w w':=by
 have V0:=O (kM w (.string x.1) (.string x.2) 28);have B0:=O (za w (.cells #[.string x.1,.string x.2] 28));have HL:=O h.len;have HM:=h.max;unfold maxLen at HM;have HA:=O (h.at_);clear h;go_enter Tryz.func122,Tryz.ntmps122;go_wp2_with fail;obtain⟨w0,hw0⟩:∃w0,w.alloc (.cells #[.string x.1,.string x.2] 28)=w0:=⟨_,rfl⟩
 rw [hw0] at V0 B0 ⊢;clear hw0;go_loopw [5,8] (λ_ i wr=>∃k:Nat,k<=n/\i = .int .i64 k/\Hid (cM (P.take k) x=false)/\Hid (Below w.heap.size w wr)/\Hid (Vr2 wr w.heap.size (.string x.1) (.string x.2))) (λ_ i _=>n-(intOf i).toNat)
 case atStart=>exact⟨0,Nat.zero_le _,rfl,rfl,B0,V0⟩
 case round =>
  clear B0 V0;obtain⟨k,hk,rfl,hN,hB,hV⟩:=hrel;by_cases hlt:k<n
  ·have db:k<P.length:=by rw [<-HL.o];exact hlt
   have HT:=O (Kl db x);obtain⟨a,rfl,q0,q1⟩:=(HA.o.keep hB.o) k _ (List.getElem?_eq_getElem db);have v0:=cell_regrown hV.o.c0;have v1:=cell_regrown hV.o.c1;by_cases he:P[k]=x
   ·have HY:=O (show cM P x=true from bE.2 (he ▸ List.getElem_mem db));rw [he] at q0 q1;have k0:=cell_regrown q0;have k1:=cell_regrown q1;clear he q0 q1 HT;go_wp2_with fail;refine wp_region_quiet_below (by kernel_rfl) (by kernel_rfl) ?_
    repeat (first|go_big_quiet_step (fail)|quiet_step (fail))
    refine wpQuiet_nil ?_;intro w1 hw';have B1:=O (show Below wr.heap.size wr w1 by obtain⟨⟨d,os⟩,rfl⟩:=hw';exact below_regrown _ _ _);clear hw';have BX:=Hg hB B1 (Nat.le_refl _);clear k0 k1 v0 v1 hB B1;go_wp2_with fail;go_ret;exact⟨⟨k,rfl,by rw [HY.o];simp⟩,BX.o⟩
   ·rw [decide_eq_false he,Bool.or_false,hN.o] at HT;have k0:=cell_regrown q0;have k1:=cell_regrown q1;have hne:(x.1.toList==P[k].1.toList)=false\/((x.1.toList==P[k].1.toList)=true/\(x.2.toList==P[k].2.toList)=false):=Ih (λe=>he e.symm);clear he q0 q1;generalize P[k]=y at *;rcases hne with h1|⟨h1,h2⟩
    ·go_wp2_with fail;refine wp_region_quiet_below (by kernel_rfl) (by kernel_rfl) ?_
     repeat (first|go_big_quiet_step (fail)|quiet_step (fail))
     refine wpQuiet_nil ?_;intro w1 hw';have B1:=O (show Below wr.heap.size wr w1 by obtain⟨⟨d,os⟩,rfl⟩:=hw';exact below_regrown _ _ _);clear hw';have BX:=Hg hB B1 (Nat.le_refl _);have VX:=O (hV.o.keep B1.o);clear k0 k1 v0 v1 hB B1 hV;go_wp2_with fail;go_roundw
     case rel=>exact⟨k+1,by omega,by go_num,HT,BX,VX⟩
     case measure=>simp [intOf];omega
    ·go_wp2_with fail;refine wp_region_quiet_below (by kernel_rfl) (by kernel_rfl) ?_
     repeat (first|go_big_quiet_step (fail)|quiet_step (fail))
     refine wpQuiet_nil ?_;intro w1 hw';have B1:=O (show Below wr.heap.size wr w1 by obtain⟨⟨d,os⟩,rfl⟩:=hw';exact below_regrown _ _ _);clear hw';have BX:=Hg hB B1 (Nat.le_refl _);have VX:=O (hV.o.keep B1.o);clear k0 k1 v0 v1 hB B1 hV;go_wp2_with fail;go_roundw
     case rel=>exact⟨k+1,by omega,by go_num,HT,BX,VX⟩
     case measure=>simp [intOf];omega
  ·have HN:=O (show cM P x=false by rw [<-hN.o,List.take_of_length_le (by rw [<-HL.o];omega)]);go_wp2_with fail;go_ret;exact⟨⟨-1,rfl,by rw [HN.o];simp⟩,hB.o⟩
theorem wB(A:Option Addr)(n c:Nat)(P:List Ud)(x:Ud)(w:World)(h:Us w A n c P):
 Calls Tryz.prog 80 #[.slice A n c,.agg #[.string x.1,.string x.2]] w λe w'=>e = .returned (.bool (cM P x))/\Below w.heap.size w w':=by
 have B0:=O (za w (.cells #[.string x.1,.string x.2] 28));have K:=O (λw' hb=>GZ A n c P x w' (h.keep hb));clear h;go_enter Tryz.func80,Tryz.ntmps80;go_wp2_with fail;refine(K.o _ B0.o).mono ?_;rintro e w1 ⟨⟨k,rfl,hk⟩,b1⟩;have B1:=bh B0 b1;have HK:=O (show decide (0<=k)=cM P x by
  rcases hu:cM P x with _|_
  ·exact decide_eq_false (λh=>by have:=hk.1 h;rw [hu] at this;cases this)
  ·exact decide_eq_true (hk.2 hu))
 clear hk b1 B0;go_wp2_with fail;go_ret;exact⟨by rw [<-HK.o];rfl,B1.o⟩
structure Vr4(w:World)(b:Nat)(x:En):Prop where
 c0:w.cell? ⟨b,0,none⟩=some (.string x.u.1)
 c1:w.cell? ⟨b,1,none⟩=some (.string x.u.2)
 c2:w.cell? ⟨b,2,none⟩=some (.slice x.UA x.un x.uc)
 c3:w.cell? ⟨b,3,none⟩=some (.slice x.NA x.nn x.nc)
theorem Vr4.keep{w w':World}{b:Nat}{x:En}(h:Vr4 w b x)(hb:Below w.heap.size w w'):Vr4 w' b x:=⟨zb hb h.c0,zb hb h.c1,zb hb h.c2,zb hb h.c3⟩
theorem sF(w:World)(x:En)(t:TypeId):Vr4 (w.alloc (.cells #[.string x.u.1,.string x.u.2,.slice x.UA x.un x.uc,.slice x.NA x.nn x.nc] t)) w.heap.size x :=
 ⟨zt (heap_alloc_last w _) rfl,zt (heap_alloc_last w _) rfl,zt (heap_alloc_last w _) rfl,zt (heap_alloc_last w _) rfl⟩
theorem Nm{L:List Ud}{k:Nat}(h:k<L.length):cV (L.take k) (L.drop k)=if zN L[k]=0 then(if cM (L.take k) L[k]=true then 6 else cV (L.take (k+1)) (L.drop (k+1))) else zN L[k]:=by
 rw [List.drop_eq_getElem_cons h,List.take_succ_eq_append_getElem h];rfl
theorem RY(x:En)(w:World)(h:Bw w x):
 Calls Tryz.prog 39 #[x.v] w λe w'=>e = .returned (je (iy x))/\Below w.heap.size w w':=by
 have V0:=O (sF w x 56);obtain⟨u,UA,un,uc,ups,NA,nn,nc,P⟩:=x;obtain⟨-,-,RE,df⟩:=h;have KW:=O (λ(u:Ud) (hu:u.1.size<=maxLen/\u.2.size<=maxLen) w=>fU u.1 u.2 w hu.1 hu.2);have KC:=O (λ(k:Nat) (hk:k<=un) (u:Ud) w' hb=>wB UA k uc (ups.take k) u w' ((RE.keep (w':=w') hb).take hk));have KV:=O (λw' hb=>zP (df.keep (w':=w') hb));have HU:=O RE;have HN:=O df;have B0:=O (za w (.cells #[.string u.1,.string u.2,.slice UA un uc,.slice NA nn nc] 56));have hlen:=RE.len;have Rc:=RE.cap;dsimp only at hlen Rc V0 KC KV HU HN;clear RE df;unfold En.v;dsimp only;by_cases h6:6<un
 ·have HE:=O (show iy ⟨u,UA,un,uc,ups,NA,nn,nc,P⟩=4 by unfold iy;rw [if_pos (by dsimp only;omega)]);rw [HE.o];clear hlen;go_enter Tryz.func39,Tryz.ntmps39;go_wp2_with fail;go_ret;exact⟨rfl,B0.o⟩
 ·have HE:=O (show iy ⟨u,UA,un,uc,ups,NA,nn,nc,P⟩=if cV [] ups=0 then(if zh P=0 then(if zg P=6 then 0 else 2) else zh P) else cV [] ups by unfold iy;rw [if_neg (by dsimp only;omega)]);generalize iy ⟨u,UA,un,uc,ups,NA,nn,nc,P⟩=EF at *;have HL:=O hlen;have hd:decide ((6:Int)<(un:Int))=false:=decide_eq_false (by omega);clear hlen;go_enter Tryz.func39,Tryz.ntmps39;go_wp2_with fail;obtain⟨w0,hw0⟩:∃w0,w.alloc (.cells #[.string u.1,.string u.2,.slice UA un uc,.slice NA nn nc] 56)=w0:=⟨_,rfl⟩
  rw [hw0] at V0 B0 ⊢;clear hw0;go_loopw [3,4,5,6,16] (λ_ _ _ _ i wr=>∃k:Nat,k<=un/\i = .int .i64 k/\Hid (cV [] ups=cV (ups.take k) (ups.drop k))/\Hid (Below w.heap.size w wr)/\Hid (Vr4 wr w.heap.size ⟨u,UA,un,uc,ups,NA,nn,nc,P⟩)) (λ_ _ _ _ i _=>un-(intOf i).toNat)
  case atStart=>exact⟨0,Nat.zero_le _,rfl,rfl,B0,V0⟩
  case round =>
   clear B0 V0;obtain⟨k,hk,rfl,hF,hB,hV⟩:=hrel;obtain⟨c0,c1,c2,c3⟩:=hV.o;dsimp only at c0 c1 c2 c3;by_cases hlt:k<un
   ·have db:k<ups.length:=by rw [<-HL.o];exact hlt
    have HS:=O (Nm db);obtain⟨a,rfl,q0,q1⟩:=(HU.o.at_.keep hB.o) k _ (List.getElem?_eq_getElem db);have de:=HU.o.ok _ (List.getElem_mem db);have K1:=O (KW.o ups[k] de);have K2:=O (KC.o k hk ups[k]);generalize ups[k]=p at *;go_wp2_with fail;have B1:=bh hB (za wr (.cells #[.string p.1,.string p.2] 28));have V1:=O (hV.o.keep (za wr (.cells #[.string p.1,.string p.2] 28)));have P1:=O (kM wr (.string p.1) (.string p.2) 28);obtain⟨w1,si⟩:∃w1,wr.alloc (.cells #[.string p.1,.string p.2] 28)=w1:=⟨_,rfl⟩
    rw [si] at V1 B1 P1 ⊢;clear si hB hV c0 c1 c2 c3 q0 q1;refine(K1.o w1).mono ?_;rintro e w2 ⟨rfl,b2⟩;have B2:=bh B1 b2;have V2:=O (V1.o.keep b2);have P2:=O (P1.o.keep b2);clear K1 b2 B1 V1 P1;by_cases hu:zN (p.1,p.2)=0
    ·have MG:zN p=0:=hu;rw [hu,zj];rw [if_pos MG] at HS;clear hu MG;have k2:=cell_regrown V2.o.c2;have v0:=cell_regrown P2.o.c0;have v1:=cell_regrown P2.o.c1;have KK:=rq (w:=w2) (λw' hb=>K2.o w' (B2.o.trans (hb.mono B2.o.size)));dsimp only at k2;go_wp2_with fail;refine wp_region_quiet_below (by kernel_rfl) (by kernel_rfl) ?_
     repeat (first|go_big_quiet_step (exact KK _ _)|quiet_step (exact KK _ _))
     refine wpQuiet_nil ?_;intro w3 hw';have b3:=O (show Below w2.heap.size w2 w3 by obtain⟨⟨d,os⟩,rfl⟩:=hw';exact below_regrown _ _ _);clear hw';have B3:=bh B2 b3.o;have V3:=O (V2.o.keep b3.o);clear k2 v0 v1 KK b3 B2 V2 P2 K2;rcases hh:cM (ups.take k) p with _|_
     ·rw [hh,if_neg (by decide)] at HS;have HF:=O (hF.o.trans HS.o);clear hh HS hF;go_wp2_with fail;go_roundw
      case rel=>exact⟨k+1,by omega,by go_num,HF,B3,V3⟩
      case measure=>simp [intOf];omega
     ·rw [hh,if_pos rfl] at HS;have HF:=O (hF.o.trans HS.o);have ay:=O (show EF=6 by rw [HE.o,HF.o];rfl);clear hh HS hF;go_wp2_with fail;go_ret;exact⟨by rw [ay.o];rfl,B3.o⟩
    ·have MG:zN p≠0:=hu;rw [if_neg MG] at HS;have ay:=O (show EF=zN (p.1,p.2) by rw [HE.o,hF.o,HS.o,if_neg MG]);rw [zm hu];have BS:=O hu;clear hu MG HS hF;generalize zN (p.1,p.2)=f at *;go_wp2_with fail;go_ret;exact⟨by rw [ay.o,zm BS.o];rfl,B2.o⟩
   ·have HF:=O (show cV [] ups=0 by rw [hF.o,List.drop_of_length_le (by rw [<-HL.o];omega)];rfl);have ay:=O (show EF=if zh P=0 then(if zg P=6 then 0 else 2) else zh P by rw [HE.o,if_pos HF.o]);have K3:=O (λw' hb=>KV.o w' hb);clear hF;go_wp2_with fail;refine(K3.o wr hB.o).mono ?_;rintro e w2 ⟨rfl,b2⟩;have B2:=bh hB b2;have V2:=O (hV.o.keep b2);clear hB hV c0 c1 c2 c3 b2;by_cases hv:zh P=0
    ·have cg:=(zy.1 hv).2.pos;obtain⟨a,rfl,D⟩:=(HN.o.at_.keep B2.o).nd cg;rw [show a.add (0*4)=a from rfl] at D;have hop:zg P=P[0].op:=j8 cg;have hn0:0<nn:=by rw [HN.o.len];exact cg
     rw [hv,zj];rw [if_pos hv,hop] at ay;obtain⟨d0,-,-,-⟩:=D;obtain⟨op,ho⟩:∃op,op=P[0].op:=⟨_,rfl⟩
     rw [<-ho] at d0 ay;have e3:=V2.o.c3;dsimp only at e3;clear hv hop ho;by_cases h6o:op=6
     ·rw [if_pos h6o] at ay;subst h6o;go_wp2_with fail;go_ret;exact⟨by rw [ay.o];rfl,B2.o⟩
     ·rw [if_neg h6o] at ay;have h6i:(op != 6)=true:=by simp;exact h6o
      clear h6o;go_wp2_with fail;go_ret;exact⟨by rw [ay.o];rfl,B2.o⟩
    ·rw [if_neg hv] at ay;rw [zm hv];have hvn:=O hv;clear hv;generalize zh P=f at *;go_wp2_with fail;go_ret;exact⟨by rw [ay.o,zm hvn.o];rfl,B2.o⟩
end Go.Proofs.YthifljpkgfpkiaaGreatDoor
namespace Go.Proofs.YthifljpkgfpkiaaGreatDoor
open Go.RowKit Go.Wk Go.Maps
def udV(u:Ud):Value := .agg #[.string u.1,.string u.2]
def UOk(u:Ud):Prop:=u.1.size<=maxLen/\u.2.size<=maxLen
def fA(u:Ud):Lit := .string (keyBytes [.string u.1.data.toList,.string u.2.data.toList])
theorem bc:Keyed Tryz.prog 28 :=
 Keyed.of_law (deep_law_laid I1 (m:=4) (by decide) (of_decide_eq_true (by kernel_rfl)) (by kernel_rfl) (by kernel_rfl))
theorem Gh(D:Nat)(u:Ud)(h:UOk u):Tryz.prog.keyLits (D+2) 28 (udV u).cells.toList=some [.string u.1.data.toList,.string u.2.data.toList]:=by
 obtain⟨h1,h2⟩:=h;simp [udV,Value.cells,Program.keyLits,Tryz.underlying28,Tryz.underlying9,dy,bf,h1,h2]
theorem JX:0<Tryz.prog.types.size:=of_decide_eq_true (by kernel_rfl)
theorem dN(u:Ud)(h:UOk u):keyOf Tryz.prog 28 (udV u)=some (fA u):=by
 have hk:Tryz.prog.keyType 28=true:=by kernel_rfl
 have hf:(udV u).formed Tryz.prog 28=true:=by
  unfold udV Value.formed;rw [Tryz.underlying28,dy];rfl
 obtain⟨D,hD⟩:∃D,Tryz.prog.types.size+1=D+2:=⟨Tryz.prog.types.size-1,by have:=JX;omega⟩
 unfold keyOf;rw [Tryz.underlying28,hk,hf,hD,Gh D u h];rfl
theorem C0{u v:Ud}(hu:UOk u)(hv:UOk v)(h:fA u=fA v):u=v:=by
 have:=bc.inj (dN u hu) (h ▸ dN v hv);unfold udV at this;injection this with this;have h1:=congrArg (λa:Array Value=>a.toList) this;simp only [List.cons.injEq,Value.string.injEq,and_true] at h1;exact Prod.ext h1.1 h1.2
theorem DK(u:Ud):WideAt.IsKeyLit (fA u):=trivial
def ew(L:List (Ud × Value)):DataW Value:=L.foldl (λD p=>D.put (fA p.1) (.held p.2)) (.map [])
theorem iU(L:List (Ud × Value))(p:Ud × Value):ew (L ++ [p])=(ew L).put (fA p.1) (.held p.2):=by simp [ew]
theorem vN(L:List (Ud × Value)):IsMap (ew L):=by
 refine im (C:=λL=>IsMap (ew L)) isMap_empty (λL p ih=>?_) L;rw [iU];exact ih.put _ _
def gw:List (Ud × Value)->Ud->Option Value
 | [],_=>none
 | x :: r,p=>match gw r p with
  | some v=>some v
  | none=>if x.1=p then some x.2 else none
theorem Gg(L:List (Ud × Value))(x:Ud × Value)(p:Ud):gw (L ++ [x]) p=if x.1=p then some x.2 else gw L p:=by
 induction L with
 | nil=>rfl
 | cons y r ih =>
  simp only [List.cons_append,gw,ih]
  by_cases h:x.1=p
  ·rw [if_pos h,if_pos h]
  ·rw [if_neg h,if_neg h]
theorem oW(L:List (Ud × Value))(p:Ud)(hp:UOk p)(z:Value)(hL:∀x∈L,UOk x.1):(ew L).atKey (fA p) (.held z)= .held ((gw L p).getD z):=by
 revert hL;refine im (C:=λL=>(∀x∈L,UOk x.1)->(ew L).atKey (fA p) (.held z)= .held ((gw L p).getD z)) (λ_=>rfl) (λL x ih hL=>?_) L;rw [iU,Gg];by_cases h:x.1=p
 ·subst h;rw [if_pos rfl,atKey_put_same (vN L) (DK _)];rfl
 ·rw [if_neg h,atKey_put_other (λe=>h (C0 (hL x (by simp)) hp e.symm))];exact ih (λy hy=>hL y (by simp [hy]))
theorem u6{L:List (Ud × Value)}{p:Ud}(h:∀x∈L,x.1≠p):gw L p=none:=by
 induction L with
 | nil=>rfl
 | cons y r ih=>simp only [gw];rw [ih (λx hx=>h x (by simp [hx]))];exact if_neg (h y (by simp))
theorem Gc{L:List (Ud × Value)}(hn:(L.map (·.1)).Nodup){x:Ud × Value}(hx:x∈L):gw L x.1=some x.2:=by
 induction L with
 | nil=>cases hx
 | cons y r ih =>
  rw [List.map_cons,List.nodup_cons] at hn
  simp only [gw]
  rcases List.mem_cons.1 hx with rfl|hx
  ·rw [u6 (λz hz e=>hn.1 (List.mem_map.2 ⟨z,hz,e⟩))];exact if_pos rfl
  ·rw [ih hn.2 hx]
theorem wA{H:Type}{P:Program}{k:TypeId}{R:Value->Option (DataW H × List MemPlace)}{w w':World}{b n:Nat}{D:DataW H}(h:w.ownsMap P k R b n D)(hb:w'.heap[b]?=w.heap[b]?):w'.ownsMap P k R b n D :=
 let ⟨es,clock,h1,r⟩:=h
 ⟨es,clock,hb.trans h1,r⟩
theorem am{P:Program}(w:World){ops:Array Oper}{rest:List Oper}{o:Oper}{a:Act}{Q:Exit->Act->World->Prop}
 (hg:o.guard=none) (m x:Operand) (t:TypeId) (hop:o.op=Op.lookup t m x false)
 (k e:TypeId) (K:Keyed P k) (ht:P.underlying t=some (.map k e)) {z:Value} (hz:(zeroValue e).run P w = .ok z w) (b n:Nat) (D:DataW Value)
 (hm:a.eval m = .map (some b)) (hown:w.ownsMap P k aT b n D) (key:Value) (kl:Lit) (hx:a.eval x=key) (hkey:keyOf P k key=some kl) (u:Value) (hu:D.atKey kl (.held z)= .held u)
 (hK:wpList P ops Q rest (a.put o.dst u) w):
 wpList P ops Q (o :: rest) a w:=by
 refine wpList_plain hg λK' hK'=>?_;obtain⟨v,ps,hrun,hv⟩:=hown.lookup K ht hz (zd := .held z) (zp := []) rfl hkey;have:v=u:=by
  unfold aT at hv;rw [hu] at hv;simp at hv;exact hv.1
 subst this;unfold Oper.wp;simp [execOp,hop,hm,hx,hrun,Result.andThen];exact hK' _ _ hK
def JC(w:World)(A:Option Addr)(E:List En):Prop:=∀(k:Nat) (x:En),E[k]?=some x->∃a,A=some a/\
 w.cell? (a.add (k*4))=some (.string x.u.1)/\w.cell? ⟨(a.add (k*4)).block,(a.add (k*4)).off+1,none⟩=some (.string x.u.2)/\
 w.cell? ⟨(a.add (k*4)).block,(a.add (k*4)).off+2,none⟩=some (.slice x.UA x.un x.uc)/\w.cell? ⟨(a.add (k*4)).block,(a.add (k*4)).off+3,none⟩=some (.slice x.NA x.nn x.nc)/\Bw w x
theorem JC.keep{w w':World}{A:Option Addr}{E:List En}(h:JC w A E)(hb:Below w.heap.size w w'):JC w' A E :=
 λk x hx=>let ⟨a,h1,h2,h3,h4,h5,h6⟩:=h k x hx;⟨a,h1,zb hb h2,zb hb h3,zb hb h4,zb hb h5,h6.keep hb⟩
structure Es(w:World)(A:Option Addr)(n c:Nat)(E:List En):Prop where
 len:n=E.length
 cap:n<=c
 max:n<=maxLen
 at_:JC w A E
theorem Es.keep{w w':World}{A:Option Addr}{n c:Nat}{E:List En}(h:Es w A n c E)(hb:Below w.heap.size w w'):Es w' A n c E:=⟨h.len,h.cap,h.max,h.at_.keep hb⟩
theorem Es.uok{w:World}{A:Option Addr}{n c:Nat}{E:List En}(h:Es w A n c E):∀x∈E,UOk x.u:=λx hx=>by
 obtain⟨k,hk,rfl⟩:=List.getElem_of_mem hx;obtain⟨_,_,_,_,_,_,h6⟩:=h.at_ k _ (List.getElem?_eq_getElem hk);exact⟨h6.t,h6.i⟩
def cd(E:List En):List (Ud × Value):=E.map λx=>(x.u,x.v)
theorem EB{E:List En}(h:∀x∈E,UOk x.u):∀y∈cd E,UOk y.1:=λy hy=>by
 obtain⟨x,hx,rfl⟩:=List.mem_map.1 hy;exact h x hx
def Uy:Value := .agg #[.string ⟨#[]⟩,.string ⟨#[]⟩,.slice none 0 0,.slice none 0 0]
theorem Qe(w:World):(zeroValue 56).run Tryz.prog w = .ok Uy w:=by kernel_rfl
theorem Hm{E:List En}{k:Nat}(h:k<E.length):cd (E.take (k+1))=cd (E.take k)++ [(E[k].u,E[k].v)]:=by
 unfold cd;rw [List.take_succ_eq_append_getElem h,List.map_append];rfl
theorem uG(A:Option Addr)(n c:Nat)(E:List En)(w:World)(h:Es w A n c E)(hn:n<=1000000):
 Calls Tryz.prog 40 #[.slice A n c] w λe w'=>∃b,e = .returned (.map (some b))/\w.heap.size<=b/\w'.ownsMap Tryz.prog 28 aT b n (ew (cd E))/\Below w.heap.size w w':=by
 have UN:=@run_makeMap Tryz.prog;have HE:=O h.at_;have HL:=O h.len;have Ra:=O h.uok;clear h;go_enter Tryz.func40,Tryz.ntmps40;go_wp2_with fail;go_loopw [5,9] (λ_ i wr=>∃k:Nat,k<=n/\i = .int .i64 k/\Hid (wr.ownsMap Tryz.prog 28 aT w.heap.size k (ew (cd (E.take k))))/\Hid (Below w.heap.size w wr)) (λ_ i _=>n-(intOf i).toNat)
 case atStart=>exact⟨0,Nat.zero_le _,rfl,O (World.ownsMap_made _ _ _ _),O ((Below.refl _ _).alloc (Nat.le_refl _) _)⟩
 case round =>
  obtain⟨k,hk,rfl,hO,hB⟩:=hrel;by_cases hlt:k<n
  ·have db:k<E.length:=by rw [<-HL.o];exact hlt
   obtain⟨a,rfl,q0,q1,q2,q3,-⟩:=(HE.o.keep hB.o) k _ (List.getElem?_eq_getElem db);have HK:=O (dN E[k].u (Ra.o _ (List.getElem_mem db)));have HP:=O (Hm db);generalize E[k]=x at *;have O1:=O (jA hO.o (za wr (.cells #[.string x.u.1,.string x.u.2,.slice x.UA x.un x.uc,.slice x.NA x.nn x.nc] 56)));have B1:=bh hB (za wr (.cells #[.string x.u.1,.string x.u.2,.slice x.UA x.un x.uc,.slice x.NA x.nn x.nc] 56));go_wp2_with (at_mapUpdate;refine wpList_mapUpdate_own _ rfl _ _ _ 98 rfl 28 56 bc Tryz.underlying98 aT w.heap.size k _ rfl O1.o (by unfold maxLen;omega) _ _ _ rfl rfl HK.o _ [] rfl ?_);intro w4 hown hgrow;have O4:=O (show w4.ownsMap Tryz.prog 28 aT w.heap.size (k+1) (ew (cd (E.take (k+1)))) by
    rw [HP.o,iU];exact hown)
   have B4:=O (B1.o.grown hgrow B1.o.size (λg hg=>by cases hg;exact Nat.le_refl _));clear hown hgrow O1 B1 hO hB q0 q1 q2 q3;go_wp2_with fail;go_roundw
   case rel=>exact⟨k+1,by omega,by go_num,O4,B4⟩
   case measure=>simp [intOf];omega
  ·have HP:=O (show cd E=cd (E.take k) by rw [List.take_of_length_le (by rw [<-HL.o];omega)]);have Rb:k=n:=by omega
   subst Rb;go_wp2_with fail;go_ret;exact⟨w.heap.size,rfl,Nat.le_refl _,by rw [HP.o];exact hO.o,hB.o⟩
end Go.Proofs.YthifljpkgfpkiaaGreatDoor
namespace Go.Proofs.YthifljpkgfpkiaaGreatDoor
open Go.Wk Go.ChangeShapes Go.WideShapes Go.RowKit
theorem xz:Tryz.prog.cellsOf 56=4:=by kernel_rfl
theorem LK:Tryz.prog.cellsOf 54=1:=by kernel_rfl
theorem fw:Tryz.prog.cellsOf 29=1:=by kernel_rfl
theorem VH{w:World}{cs:List Value}(h:Rd Tryz.prog w 54 cs):∃(A:Option Addr) (n c:Nat) (P:List Ud),cs = [.slice A n c]/\Us w A n c P:=by
 obtain⟨A,n,c,rfl,h1,h2,h3⟩:=il Tryz.underlying54 h;rw [dy] at h3;obtain⟨P,hl,hr⟩:=mF n (λk (x:Ud)=>(∃a,A=some a/\w.cell? (a.add (k*2))=some (.string x.1)/\w.cell? (a.add (k*2+1))=some (.string x.2))/\x.1.size<=maxLen/\x.2.size<=maxLen) (λi hi=>by
  obtain⟨a,rfl,cs',hl,hc,hr⟩:=h3 i hi
  obtain⟨s,t,rfl,q1,q2⟩:=ub hr
  exact⟨(s,t),⟨a,rfl,hc 0 (by omega),hc 1 (by omega)⟩,q1,q2⟩)
 refine⟨A,n,c,P,rfl,hl.symm,h1,by omega,λk x hx=>?_,λx hx=>?_⟩
 ·obtain⟨⟨a,e,q1,q2⟩,-⟩:=hr k x hx;refine⟨a,e,q1,?_⟩;rw [<-add_add] at q2;unfold Addr.add at q2 ⊢;simpa using q2
 ·obtain⟨k,hk,rfl⟩:=List.getElem_of_mem hx;exact(hr k _ (List.getElem?_eq_getElem hk)).2
theorem Vi{w:World}{cs:List Value}(h:Rd Tryz.prog w 56 cs):∃x:En,cs = [.string x.u.1,.string x.u.2,.slice x.UA x.un x.uc,.slice x.NA x.nn x.nc]/\Bw w x:=by
 have hl:=(dt Tryz.underlying56 h).1;rw [xz] at hl
 match cs,hl with
 | [c0,c1,c2,c3],_ =>
  have h0:Rd Tryz.prog w 28 [c0,c1]:=jH Tryz.underlying56 h 0 28 0 2 rfl dy
  have h2:Rd Tryz.prog w 54 [c2]:=jH Tryz.underlying56 h 1 54 2 1 rfl LK
  have h3:Rd Tryz.prog w 29 [c3]:=jH Tryz.underlying56 h 2 29 3 1 rfl fw
  obtain⟨s,t,e0,s1,s2⟩:=ub h0
  obtain⟨UA,un,uc,ups,e2,hu⟩:=VH h2
  obtain⟨NA,nn,nc,P,e3,n1,n2,n3,n4,n5⟩:=lq h3
  simp only [List.cons.injEq,and_true] at e0 e2 e3
  exact⟨⟨(s,t),UA,un,uc,ups,NA,nn,nc,P⟩,by rw [e0.1,e0.2,e2,e3],s1,s2,hu,n1,n2,n3,n4,n5⟩
theorem Mw{H:Type}{enc:TypeId × Value->H}{w:World}{b b0:Nat}{sp:Nat->Bool}{hd:Bool}{v:Value}{d:DataW H}{ps:List MemPlace}{r:Reach}
 (hv:Value.okWide Tryz.prog w r b0 26 v) (h:DataW.Trod enc Tryz.prog w b sp hd 26 v d ps):
 ∃(A:Option Addr) (n c:Nat) (E:List En),v = .slice A n c/\Es w A n c E:=by
 obtain⟨A',n',c',rfl⟩:=okWide_slice Tryz.underlying26 hv;obtain⟨A,n,c,e,h1,h2,h3⟩:=il Tryz.underlying26 (kC h);rw [xz] at h3;have e':(Value.slice A' n' c')= .slice A n c:=by simpa [Value.cells] using e
 obtain⟨E,hl,hr⟩:=mF n (λk (x:En)=>(∃a,A=some a/\w.cell? (a.add (k*4))=some (.string x.u.1)/\w.cell? (a.add (k*4+1))=some (.string x.u.2)/\w.cell? (a.add (k*4+2))=some (.slice x.UA x.un x.uc)/\w.cell? (a.add (k*4+3))=some (.slice x.NA x.nn x.nc))/\Bw w x) (λi hi=>by
  obtain⟨a,rfl,cs',hl,hc,hr⟩:=h3 i hi
  obtain⟨x,rfl,hx⟩:=Vi hr
  exact⟨x,⟨a,rfl,hc 0 (by omega),hc 1 (by omega),hc 2 (by omega),hc 3 (by omega)⟩,hx⟩)
 refine⟨A,n,c,E,e',hl.symm,h1,by omega,λk x hx=>?_⟩;obtain⟨⟨a,e,q1,q2,q3,q4⟩,hx⟩:=hr k x hx;refine⟨a,e,q1,?_,?_,?_,hx⟩
 all_goals
  rw [<-add_add] at q2 q3 q4;unfold Addr.add at q2 q3 q4 ⊢
  first|(simpa using q2)|(simpa using q3)|(simpa using q4)
end Go.Proofs.YthifljpkgfpkiaaGreatDoor
namespace Go.Wk
open Go.ChangeShapes Go.WideShapes Go.RowKit Go.Deep
section
variable {P:Program} {w:World} {t e:TypeId}
end
end Go.Wk
namespace Go.Proofs.YthifljpkgfpkiaaGreatDoor
open Go.Wk Go.ChangeShapes Go.WideShapes Go.RowKit
def rK(w:World)(A:Option Addr)(N:List ByteArray):Prop:=∀(k:Nat) (x:ByteArray),N[k]?=some x->∃a,A=some a/\w.cell? (a.add k)=some (.string x)
theorem rK.keep{w w':World}{A:Option Addr}{N:List ByteArray}(h:rK w A N)(hb:Below w.heap.size w w'):rK w' A N :=
 λk x hk=>let ⟨a,h1,h2⟩:=h k x hk;⟨a,h1,zb hb h2⟩
end Go.Proofs.YthifljpkgfpkiaaGreatDoor
