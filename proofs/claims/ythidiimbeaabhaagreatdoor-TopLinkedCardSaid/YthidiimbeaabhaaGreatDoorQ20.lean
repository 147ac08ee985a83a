/-
  ent.one: what is wrong with an entity. Maps by uids, made by the call: what ..
-/
import Derived.Test.YthidiimbeaabhaaGreatDoorQ2
import Derived.Test.YthidiimbeaabhaaGreatDoorQ7
import Derived.Test.YthidiimbeaabhaaGreatDoorQ19
set_option maxRecDepth 100000
set_option maxHeartbeats 4000000
namespace Go.Proofs.YthidiimbeaabhaaGreatDoor
open Go.RowKit Go.Wk
structure Vr4(w:World)(b:Nat)(x:En):Prop where
 c0:w.cell? ⟨b,0,none⟩=some (.string x.u.1)
 c1:w.cell? ⟨b,1,none⟩=some (.string x.u.2)
 c2:w.cell? ⟨b,2,none⟩=some (.slice x.UA x.un x.uc)
 c3:w.cell? ⟨b,3,none⟩=some (.slice x.NA x.nn x.nc)
theorem Vr4.keep{w w':World}{b:Nat}{x:En}(h:Vr4 w b x)(hb:Below w.heap.size w w'):Vr4 w' b x:=⟨zb hb h.c0,zb hb h.c1,zb hb h.c2,zb hb h.c3⟩
theorem qI(w:World)(x:En)(t:TypeId):Vr4 (w.alloc (.cells #[.string x.u.1,.string x.u.2,.slice x.UA x.un x.uc,.slice x.NA x.nn x.nc] t)) w.heap.size x :=
 ⟨zr (heap_alloc_last w _) rfl,zr (heap_alloc_last w _) rfl,zr (heap_alloc_last w _) rfl,zr (heap_alloc_last w _) rfl⟩
theorem CB{L:List Ud}{k:Nat}(h:k<L.length):bH (L.take k) (L.drop k)=if zq L[k]=0 then(if bC (L.take k) L[k]=true then 6 else bH (L.take (k+1)) (L.drop (k+1))) else zq L[k]:=by
 rw [List.drop_eq_getElem_cons h,List.take_succ_eq_append_getElem h];rfl
theorem FH(x:En)(w:World)(h:tI w x):
 Calls Tryz.prog 53 #[x.v] w λe w'=>e = .returned (zM (eA x))/\Below w.heap.size w w':=by
 have V0:=O (qI w x 113);obtain⟨u,UA,un,uc,ups,NA,nn,nc,P⟩:=x;obtain⟨-,-,Et,AN⟩:=h;have KW:=O (λ(u:Ud) (hu:u.1.size<=maxLen/\u.2.size<=maxLen) w=>jP u.1 u.2 w hu.1 hu.2);have KC:=O (λ(k:Nat) (hk:k<=un) (u:Ud) w' hb=>o9 UA k uc (ups.take k) u w' ((Et.keep (w':=w') hb).take hk));have KV:=O (λw' hb=>zI (AN.keep (w':=w') hb));have HU:=O Et;have HN:=O AN;have B0:=O (za w (.cells #[.string u.1,.string u.2,.slice UA un uc,.slice NA nn nc] 113));have hlen:=Et.len;have IX:=Et.cap;dsimp only at hlen IX V0 KC KV HU HN;clear Et AN;unfold En.v;dsimp only;by_cases h6:6<un
 ·have HE:=O (show eA ⟨u,UA,un,uc,ups,NA,nn,nc,P⟩=4 by unfold eA;rw [if_pos (by dsimp only;omega)]);rw [HE.o];clear hlen;go_enter Tryz.func53,Tryz.ntmps53;go_wp2_with fail;go_ret;exact⟨rfl,B0.o⟩
 ·have HE:=O (show eA ⟨u,UA,un,uc,ups,NA,nn,nc,P⟩=if bH [] ups=0 then(if zc P=0 then(if zg P=6 then 0 else 2) else zc P) else bH [] ups by unfold eA;rw [if_neg (by dsimp only;omega)]);generalize eA ⟨u,UA,un,uc,ups,NA,nn,nc,P⟩=EF at *;have HL:=O hlen;have hd:decide ((6:Int)<(un:Int))=false:=decide_eq_false (by omega);clear hlen;go_enter Tryz.func53,Tryz.ntmps53;go_wp2_with fail;obtain⟨w0,hw0⟩:∃w0,w.alloc (.cells #[.string u.1,.string u.2,.slice UA un uc,.slice NA nn nc] 113)=w0:=⟨_,rfl⟩
  rw [hw0] at V0 B0 ⊢;clear hw0;go_loopw [3,4,5,6,16] (λ_ _ _ _ i wr=>∃k:Nat,k<=un/\i = .int .i64 k/\Hid (bH [] ups=bH (ups.take k) (ups.drop k))/\Hid (Below w.heap.size w wr)/\Hid (Vr4 wr w.heap.size ⟨u,UA,un,uc,ups,NA,nn,nc,P⟩)) (λ_ _ _ _ i _=>un-(intOf i).toNat)
  case atStart=>exact⟨0,Nat.zero_le _,rfl,rfl,B0,V0⟩
  case round =>
   clear B0 V0;obtain⟨k,hk,rfl,hF,hB,hV⟩:=hrel;obtain⟨c0,c1,c2,c3⟩:=hV.o;dsimp only at c0 c1 c2 c3;by_cases hlt:k<un
   ·have aV:k<ups.length:=by rw [<-HL.o];exact hlt
    have HS:=O (CB aV);obtain⟨a,rfl,q0,q1⟩:=(HU.o.at_.keep hB.o) k _ (List.getElem?_eq_getElem aV);have dY:=HU.o.ok _ (List.getElem_mem aV);have K1:=O (KW.o ups[k] dY);have K2:=O (KC.o k hk ups[k]);generalize ups[k]=p at *;go_wp2_with fail;have B1:=bh hB (za wr (.cells #[.string p.1,.string p.2] 24));have V1:=O (hV.o.keep (za wr (.cells #[.string p.1,.string p.2] 24)));have P1:=O (dN wr (.string p.1) (.string p.2) 24);obtain⟨w1,rR⟩:∃w1,wr.alloc (.cells #[.string p.1,.string p.2] 24)=w1:=⟨_,rfl⟩
    rw [rR] at V1 B1 P1 ⊢;clear rR hB hV c0 c1 c2 c3 q0 q1;refine(K1.o w1).mono ?_;rintro e w2 ⟨rfl,b2⟩;have B2:=bh B1 b2;have V2:=O (V1.o.keep b2);have P2:=O (P1.o.keep b2);clear K1 b2 B1 V1 P1;by_cases hu:zq (p.1,p.2)=0
    ·have AH:zq p=0:=hu;rw [hu,zf];rw [if_pos AH] at HS;clear hu AH;have k2:=cell_regrown V2.o.c2;have v0:=cell_regrown P2.o.c0;have v1:=cell_regrown P2.o.c1;have KK:=rq (w:=w2) (λw' hb=>K2.o w' (B2.o.trans (hb.mono B2.o.size)));dsimp only at k2;go_wp2_with fail;refine wp_region_quiet_below (by kernel_rfl) (by kernel_rfl) ?_
     repeat (first|go_big_quiet_step (exact KK _ _)|quiet_step (exact KK _ _))
     refine wpQuiet_nil ?_;intro w3 hw';have b3:=O (show Below w2.heap.size w2 w3 by obtain⟨⟨d,os⟩,rfl⟩:=hw';exact below_regrown _ _ _);clear hw';have B3:=bh B2 b3.o;have V3:=O (V2.o.keep b3.o);clear k2 v0 v1 KK b3 B2 V2 P2 K2;rcases hh:bC (ups.take k) p with _|_
     ·rw [hh,if_neg (by decide)] at HS;have HF:=O (hF.o.trans HS.o);clear hh HS hF;go_wp2_with fail;go_roundw
      case rel=>exact⟨k+1,by omega,by go_num,HF,B3,V3⟩
      case measure=>simp [intOf];omega
     ·rw [hh,if_pos rfl] at HS;have HF:=O (hF.o.trans HS.o);have aE:=O (show EF=6 by rw [HE.o,HF.o];rfl);clear hh HS hF;go_wp2_with fail;go_ret;exact⟨by rw [aE.o];rfl,B3.o⟩
    ·have AH:zq p≠0:=hu;rw [if_neg AH] at HS;have aE:=O (show EF=zq (p.1,p.2) by rw [HE.o,hF.o,HS.o,if_neg AH]);rw [zl hu];have od:=O hu;clear hu AH HS hF;generalize zq (p.1,p.2)=f at *;go_wp2_with fail;go_ret;exact⟨by rw [aE.o,zl od.o];rfl,B2.o⟩
   ·have HF:=O (show bH [] ups=0 by rw [hF.o,List.drop_of_length_le (by rw [<-HL.o];omega)];rfl);have aE:=O (show EF=if zc P=0 then(if zg P=6 then 0 else 2) else zc P by rw [HE.o,if_pos HF.o]);have K3:=O (λw' hb=>KV.o w' hb);clear hF;go_wp2_with fail;refine(K3.o wr hB.o).mono ?_;rintro e w2 ⟨rfl,b2⟩;have B2:=bh hB b2;have V2:=O (hV.o.keep b2);clear hB hV c0 c1 c2 c3 b2;by_cases hv:zc P=0
    ·have cd:=(zL.1 hv).2.pos;obtain⟨a,rfl,D⟩:=(HN.o.at_.keep B2.o).nd cd;rw [show a.add (0*4)=a from rfl] at D;have hop:zg P=P[0].op:=jx cd;have hn0:0<nn:=by rw [HN.o.len];exact cd
     rw [hv,zf];rw [if_pos hv,hop] at aE;obtain⟨d0,-,-,-⟩:=D;obtain⟨op,ho⟩:∃op,op=P[0].op:=⟨_,rfl⟩
     rw [<-ho] at d0 aE;have e3:=V2.o.c3;dsimp only at e3;clear hv hop ho;by_cases h6o:op=6
     ·rw [if_pos h6o] at aE;subst h6o;go_wp2_with fail;go_ret;exact⟨by rw [aE.o];rfl,B2.o⟩
     ·rw [if_neg h6o] at aE;have h6i:(op != 6)=true:=by simp;exact h6o
      clear h6o;go_wp2_with fail;go_ret;exact⟨by rw [aE.o];rfl,B2.o⟩
    ·rw [if_neg hv] at aE;rw [zl hv];have hvn:=O hv;clear hv;generalize zc P=f at *;go_wp2_with fail;go_ret;exact⟨by rw [aE.o,zl hvn.o];rfl,B2.o⟩
end Go.Proofs.YthidiimbeaabhaaGreatDoor
namespace Go.Proofs.YthidiimbeaabhaaGreatDoor
open Go.RowKit Go.Wk Go.Maps
def udV(u:Ud):Value := .agg #[.string u.1,.string u.2]
def UOk(u:Ud):Prop:=u.1.size<=maxLen/\u.2.size<=maxLen
def dh(u:Ud):Lit := .string (keyBytes [.string u.1.data.toList,.string u.2.data.toList])
theorem ah:Keyed Tryz.prog 24 :=
 Keyed.of_law (deep_law_laid xh (m:=4) (by decide) (of_decide_eq_true (by kernel_rfl)) (by kernel_rfl) (by kernel_rfl))
theorem wE(D:Nat)(u:Ud)(h:UOk u):Tryz.prog.keyLits (D+2) 24 (udV u).cells.toList=some [.string u.1.data.toList,.string u.2.data.toList]:=by
 obtain⟨h1,h2⟩:=h;simp [udV,Value.cells,Program.keyLits,Tryz.underlying24,Tryz.underlying9,bo,aK,h1,h2]
theorem Ao:0<Tryz.prog.types.size:=of_decide_eq_true (by kernel_rfl)
theorem cj(u:Ud)(h:UOk u):keyOf Tryz.prog 24 (udV u)=some (dh u):=by
 have hk:Tryz.prog.keyType 24=true:=by kernel_rfl
 have hf:(udV u).formed Tryz.prog 24=true:=by
  unfold udV Value.formed;rw [Tryz.underlying24,bo];rfl
 obtain⟨D,hD⟩:∃D,Tryz.prog.types.size+1=D+2:=⟨Tryz.prog.types.size-1,by have:=Ao;omega⟩
 unfold keyOf;rw [Tryz.underlying24,hk,hf,hD,wE D u h];rfl
theorem sK{u v:Ud}(hu:UOk u)(hv:UOk v)(h:dh u=dh v):u=v:=by
 have:=ah.inj (cj u hu) (h ▸ cj v hv);unfold udV at this;injection this with this;have h1:=congrArg (λa:Array Value=>a.toList) this;simp only [List.cons.injEq,Value.string.injEq,and_true] at h1;exact Prod.ext h1.1 h1.2
theorem sH(u:Ud):WideAt.IsKeyLit (dh u):=trivial
def cK(L:List (Ud × Value)):DataW Value:=L.foldl (λD p=>D.put (dh p.1) (.held p.2)) (.map [])
theorem eE(L:List (Ud × Value))(p:Ud × Value):cK (L ++ [p])=(cK L).put (dh p.1) (.held p.2):=by simp [cK]
theorem na(L:List (Ud × Value)):IsMap (cK L):=by
 refine em (C:=λL=>IsMap (cK L)) isMap_empty (λL p ih=>?_) L;rw [eE];exact ih.put _ _
def dO:List (Ud × Value)->Ud->Option Value
 | [],_=>none
 | x :: r,p=>match dO r p with
  | some v=>some v
  | none=>if x.1=p then some x.2 else none
theorem vi(L:List (Ud × Value))(x:Ud × Value)(p:Ud):dO (L ++ [x]) p=if x.1=p then some x.2 else dO L p:=by
 induction L with
 | nil=>rfl
 | cons y r ih =>
  simp only [List.cons_append,dO,ih]
  by_cases h:x.1=p
  ·rw [if_pos h,if_pos h]
  ·rw [if_neg h,if_neg h]
theorem kt(L:List (Ud × Value))(p:Ud)(hp:UOk p)(z:Value)(hL:∀x∈L,UOk x.1):(cK L).atKey (dh p) (.held z)= .held ((dO L p).getD z):=by
 revert hL;refine em (C:=λL=>(∀x∈L,UOk x.1)->(cK L).atKey (dh p) (.held z)= .held ((dO L p).getD z)) (λ_=>rfl) (λL x ih hL=>?_) L;rw [eE,vi];by_cases h:x.1=p
 ·subst h;rw [if_pos rfl,atKey_put_same (na L) (sH _)];rfl
 ·rw [if_neg h,atKey_put_other (λe=>h (sK (hL x (by simp)) hp e.symm))];exact ih (λy hy=>hL y (by simp [hy]))
theorem mG{L:List (Ud × Value)}{p:Ud}(h:∀x∈L,x.1≠p):dO L p=none:=by
 induction L with
 | nil=>rfl
 | cons y r ih=>simp only [dO];rw [ih (λx hx=>h x (by simp [hx]))];exact if_neg (h y (by simp))
theorem wx{L:List (Ud × Value)}(hn:(L.map (·.1)).Nodup){x:Ud × Value}(hx:x∈L):dO L x.1=some x.2:=by
 induction L with
 | nil=>cases hx
 | cons y r ih =>
  rw [List.map_cons,List.nodup_cons] at hn
  simp only [dO]
  rcases List.mem_cons.1 hx with rfl|hx
  ·rw [mG (λz hz e=>hn.1 (List.mem_map.2 ⟨z,hz,e⟩))];exact if_pos rfl
  ·rw [ih hn.2 hx]
theorem pg{H:Type}{P:Program}{k:TypeId}{R:Value->Option (DataW H × List MemPlace)}{w w':World}{b n:Nat}{D:DataW H}(h:w.ownsMap P k R b n D)(hb:w'.heap[b]?=w.heap[b]?):w'.ownsMap P k R b n D :=
 let ⟨es,clock,h1,r⟩:=h
 ⟨es,clock,hb.trans h1,r⟩
theorem jA{P:Program}(w:World){ops:Array Oper}{rest:List Oper}{o:Oper}{a:Act}{Q:Exit->Act->World->Prop}
 (hg:o.guard=none) (m x:Operand) (t:TypeId) (hop:o.op=Op.lookup t m x false)
 (k e:TypeId) (K:Keyed P k) (ht:P.underlying t=some (.map k e)) {z:Value} (hz:(zeroValue e).run P w = .ok z w) (b n:Nat) (D:DataW Value)
 (hm:a.eval m = .map (some b)) (hown:w.ownsMap P k aD b n D) (key:Value) (kl:Lit) (hx:a.eval x=key) (hkey:keyOf P k key=some kl) (u:Value) (hu:D.atKey kl (.held z)= .held u)
 (hK:wpList P ops Q rest (a.put o.dst u) w):
 wpList P ops Q (o :: rest) a w:=by
 refine wpList_plain hg λK' hK'=>?_;obtain⟨v,ps,hrun,hv⟩:=hown.lookup K ht hz (zd := .held z) (zp := []) rfl hkey;have:v=u:=by
  unfold aD at hv;rw [hu] at hv;simp at hv;exact hv.1
 subst this;unfold Oper.wp;simp [execOp,hop,hm,hx,hrun,Result.andThen];exact hK' _ _ hK
def xu(w:World)(A:Option Addr)(E:List En):Prop:=∀(k:Nat) (x:En),E[k]?=some x->∃a,A=some a/\
 w.cell? (a.add (k*4))=some (.string x.u.1)/\w.cell? ⟨(a.add (k*4)).block,(a.add (k*4)).off+1,none⟩=some (.string x.u.2)/\
 w.cell? ⟨(a.add (k*4)).block,(a.add (k*4)).off+2,none⟩=some (.slice x.UA x.un x.uc)/\w.cell? ⟨(a.add (k*4)).block,(a.add (k*4)).off+3,none⟩=some (.slice x.NA x.nn x.nc)/\tI w x
theorem xu.keep{w w':World}{A:Option Addr}{E:List En}(h:xu w A E)(hb:Below w.heap.size w w'):xu w' A E :=
 λk x hx=>let ⟨a,h1,h2,h3,h4,h5,h6⟩:=h k x hx;⟨a,h1,zb hb h2,zb hb h3,zb hb h4,zb hb h5,h6.keep hb⟩
structure Es(w:World)(A:Option Addr)(n c:Nat)(E:List En):Prop where
 len:n=E.length
 cap:n<=c
 max:n<=maxLen
 at_:xu w A E
theorem Es.keep{w w':World}{A:Option Addr}{n c:Nat}{E:List En}(h:Es w A n c E)(hb:Below w.heap.size w w'):Es w' A n c E:=⟨h.len,h.cap,h.max,h.at_.keep hb⟩
theorem Es.uok{w:World}{A:Option Addr}{n c:Nat}{E:List En}(h:Es w A n c E):∀x∈E,UOk x.u:=λx hx=>by
 obtain⟨k,hk,rfl⟩:=List.getElem_of_mem hx;obtain⟨_,_,_,_,_,_,h6⟩:=h.at_ k _ (List.getElem?_eq_getElem hk);exact⟨h6.t,h6.i⟩
def aR(E:List En):List (Ud × Value):=E.map λx=>(x.u,x.v)
theorem te{E:List En}(h:∀x∈E,UOk x.u):∀y∈aR E,UOk y.1:=λy hy=>by
 obtain⟨x,hx,rfl⟩:=List.mem_map.1 hy;exact h x hx
def GY:Value := .agg #[.string ⟨#[]⟩,.string ⟨#[]⟩,.slice none 0 0,.slice none 0 0]
theorem BK(w:World):(zeroValue 113).run Tryz.prog w = .ok GY w:=by kernel_rfl
theorem wK{E:List En}{k:Nat}(h:k<E.length):aR (E.take (k+1))=aR (E.take k)++ [(E[k].u,E[k].v)]:=by
 unfold aR;rw [List.take_succ_eq_append_getElem h,List.map_append];rfl
theorem nI(A:Option Addr)(n c:Nat)(E:List En)(w:World)(h:Es w A n c E)(hn:n<=1000000):
 Calls Tryz.prog 54 #[.slice A n c] w λe w'=>∃b,e = .returned (.map (some b))/\w.heap.size<=b/\w'.ownsMap Tryz.prog 24 aD b n (cK (aR E))/\Below w.heap.size w w':=by
 have Hf:=@run_makeMap Tryz.prog;have HE:=O h.at_;have HL:=O h.len;have Ef:=O h.uok;clear h;go_enter Tryz.func54,Tryz.ntmps54;go_wp2_with fail;go_loopw [5,9] (λ_ i wr=>∃k:Nat,k<=n/\i = .int .i64 k/\Hid (wr.ownsMap Tryz.prog 24 aD w.heap.size k (cK (aR (E.take k))))/\Hid (Below w.heap.size w wr)) (λ_ i _=>n-(intOf i).toNat)
 case atStart=>exact⟨0,Nat.zero_le _,rfl,O (World.ownsMap_made _ _ _ _),O ((Below.refl _ _).alloc (Nat.le_refl _) _)⟩
 case round =>
  obtain⟨k,hk,rfl,hO,hB⟩:=hrel;by_cases hlt:k<n
  ·have aV:k<E.length:=by rw [<-HL.o];exact hlt
   obtain⟨a,rfl,q0,q1,q2,q3,-⟩:=(HE.o.keep hB.o) k _ (List.getElem?_eq_getElem aV);have HK:=O (cj E[k].u (Ef.o _ (List.getElem_mem aV)));have HP:=O (wK aV);generalize E[k]=x at *;have O1:=O (jr hO.o (za wr (.cells #[.string x.u.1,.string x.u.2,.slice x.UA x.un x.uc,.slice x.NA x.nn x.nc] 113)));have B1:=bh hB (za wr (.cells #[.string x.u.1,.string x.u.2,.slice x.UA x.un x.uc,.slice x.NA x.nn x.nc] 113));go_wp2_with (at_mapUpdate;refine wpList_mapUpdate_own _ rfl _ _ _ 118 rfl 24 113 ah Tryz.underlying118 aD w.heap.size k _ rfl O1.o (by unfold maxLen;omega) _ _ _ rfl rfl HK.o _ [] rfl ?_);intro w4 hown hgrow;have O4:=O (show w4.ownsMap Tryz.prog 24 aD w.heap.size (k+1) (cK (aR (E.take (k+1)))) by
    rw [HP.o,eE];exact hown)
   have B4:=O (B1.o.grown hgrow B1.o.size (λg hg=>by cases hg;exact Nat.le_refl _));clear hown hgrow O1 B1 hO hB q0 q1 q2 q3;go_wp2_with fail;go_roundw
   case rel=>exact⟨k+1,by omega,by go_num,O4,B4⟩
   case measure=>simp [intOf];omega
  ·have HP:=O (show aR E=aR (E.take k) by rw [List.take_of_length_le (by rw [<-HL.o];omega)]);have Mt:k=n:=by omega
   subst Mt;go_wp2_with fail;go_ret;exact⟨w.heap.size,rfl,Nat.le_refl _,by rw [HP.o];exact hO.o,hB.o⟩
end Go.Proofs.YthidiimbeaabhaaGreatDoor
namespace Go.Proofs.YthidiimbeaabhaaGreatDoor
open Go.Wk Go.ChangeShapes Go.WideShapes Go.RowKit
theorem pC:Tryz.prog.cellsOf 113=4:=by kernel_rfl
theorem yl:Tryz.prog.cellsOf 111=1:=by kernel_rfl
theorem eP:Tryz.prog.cellsOf 30=1:=by kernel_rfl
theorem H5{w:World}{cs:List Value}(h:Rd Tryz.prog w 111 cs):∃(A:Option Addr) (n c:Nat) (P:List Ud),cs = [.slice A n c]/\Us w A n c P:=by
 obtain⟨A,n,c,rfl,h1,h2,h3⟩:=kb Tryz.underlying111 h;rw [bo] at h3;obtain⟨P,hl,hr⟩:=l7 n (λk (x:Ud)=>(∃a,A=some a/\w.cell? (a.add (k*2))=some (.string x.1)/\w.cell? (a.add (k*2+1))=some (.string x.2))/\x.1.size<=maxLen/\x.2.size<=maxLen) (λi hi=>by
  obtain⟨a,rfl,cs',hl,hc,hr⟩:=h3 i hi
  obtain⟨s,t,rfl,q1,q2⟩:=iz hr
  exact⟨(s,t),⟨a,rfl,hc 0 (by omega),hc 1 (by omega)⟩,q1,q2⟩)
 refine⟨A,n,c,P,rfl,hl.symm,h1,by omega,λk x hx=>?_,λx hx=>?_⟩
 ·obtain⟨⟨a,e,q1,q2⟩,-⟩:=hr k x hx;refine⟨a,e,q1,?_⟩;rw [<-add_add] at q2;unfold Addr.add at q2 ⊢;simpa using q2
 ·obtain⟨k,hk,rfl⟩:=List.getElem_of_mem hx;exact(hr k _ (List.getElem?_eq_getElem hk)).2
theorem Hx{w:World}{cs:List Value}(h:Rd Tryz.prog w 113 cs):∃x:En,cs = [.string x.u.1,.string x.u.2,.slice x.UA x.un x.uc,.slice x.NA x.nn x.nc]/\tI w x:=by
 have hl:=(bV Tryz.underlying113 h).1;rw [pC] at hl
 match cs,hl with
 | [c0,c1,c2,c3],_ =>
  have h0:Rd Tryz.prog w 24 [c0,c1]:=jd Tryz.underlying113 h 0 24 0 2 rfl bo
  have h2:Rd Tryz.prog w 111 [c2]:=jd Tryz.underlying113 h 1 111 2 1 rfl yl
  have h3:Rd Tryz.prog w 30 [c3]:=jd Tryz.underlying113 h 2 30 3 1 rfl eP
  obtain⟨s,t,e0,s1,s2⟩:=iz h0
  obtain⟨UA,un,uc,ups,e2,hu⟩:=H5 h2
  obtain⟨NA,nn,nc,P,e3,n1,n2,n3,n4,n5⟩:=mZ h3
  simp only [List.cons.injEq,and_true] at e0 e2 e3
  exact⟨⟨(s,t),UA,un,uc,ups,NA,nn,nc,P⟩,by rw [e0.1,e0.2,e2,e3],s1,s2,hu,n1,n2,n3,n4,n5⟩
theorem Ab{H:Type}{enc:TypeId × Value->H}{w:World}{b b0:Nat}{sp:Nat->Bool}{hd:Bool}{v:Value}{d:DataW H}{ps:List MemPlace}{r:Reach}
 (hv:Value.okWide Tryz.prog w r b0 22 v) (h:DataW.Trod enc Tryz.prog w b sp hd 22 v d ps):
 ∃(A:Option Addr) (n c:Nat) (E:List En),v = .slice A n c/\Es w A n c E:=by
 obtain⟨A',n',c',rfl⟩:=okWide_slice Tryz.underlying22 hv;obtain⟨A,n,c,e,h1,h2,h3⟩:=kb Tryz.underlying22 (eU h);rw [pC] at h3;have e':(Value.slice A' n' c')= .slice A n c:=by simpa [Value.cells] using e
 obtain⟨E,hl,hr⟩:=l7 n (λk (x:En)=>(∃a,A=some a/\w.cell? (a.add (k*4))=some (.string x.u.1)/\w.cell? (a.add (k*4+1))=some (.string x.u.2)/\w.cell? (a.add (k*4+2))=some (.slice x.UA x.un x.uc)/\w.cell? (a.add (k*4+3))=some (.slice x.NA x.nn x.nc))/\tI w x) (λi hi=>by
  obtain⟨a,rfl,cs',hl,hc,hr⟩:=h3 i hi
  obtain⟨x,rfl,hx⟩:=Hx hr
  exact⟨x,⟨a,rfl,hc 0 (by omega),hc 1 (by omega),hc 2 (by omega),hc 3 (by omega)⟩,hx⟩)
 refine⟨A,n,c,E,e',hl.symm,h1,by omega,λk x hx=>?_⟩;obtain⟨⟨a,e,q1,q2,q3,q4⟩,hx⟩:=hr k x hx;refine⟨a,e,q1,?_,?_,?_,hx⟩
 all_goals
  rw [<-add_add] at q2 q3 q4;unfold Addr.add at q2 q3 q4 ⊢
  first|(simpa using q2)|(simpa using q3)|(simpa using q4)
end Go.Proofs.YthidiimbeaabhaaGreatDoor
namespace Go.Wk
open Go.ChangeShapes Go.WideShapes Go.RowKit Go.Deep
section
variable {P:Program} {w:World} {t e:TypeId}
end
end Go.Wk
namespace Go.Proofs.YthidiimbeaabhaaGreatDoor
open Go.Wk Go.ChangeShapes Go.WideShapes Go.RowKit
def oh(w:World)(A:Option Addr)(N:List ByteArray):Prop:=∀(k:Nat) (x:ByteArray),N[k]?=some x->∃a,A=some a/\w.cell? (a.add k)=some (.string x)
theorem oh.keep{w w':World}{A:Option Addr}{N:List ByteArray}(h:oh w A N)(hb:Below w.heap.size w w'):oh w' A N :=
 λk x hk=>let ⟨a,h1,h2⟩:=h k x hk;⟨a,h1,zb hb h2⟩
structure Txs(w:World)(A:Option Addr)(n c:Nat)(N:List ByteArray):Prop where
 len:n=N.length
 cap:n<=c
 max:n<=maxLen
 at_:oh w A N
 ok:∀x∈N,x.size<=maxLen
theorem Txs.keep{w w':World}{A:Option Addr}{n c:Nat}{N:List ByteArray}(h:Txs w A n c N)(hb:Below w.heap.size w w'):Txs w' A n c N:=⟨h.len,h.cap,h.max,h.at_.keep hb,h.ok⟩
structure An where
 d:AD
 WA:Option Addr
 wn:Nat
 wc:Nat
 TA:Option Addr
 tn:Nat
 tc:Nat
 NA:Option Addr
 nn:Nat
 nc:Nat
def An.cs(x:An):List Value := [.string x.d.id,.slice x.WA x.wn x.wc,.slice x.TA x.tn x.tc,.slice x.NA x.nn x.nc]
def An.v(x:An):Value := .agg #[.string x.d.id,.slice x.WA x.wn x.wc,.slice x.TA x.tn x.tc,.slice x.NA x.nn x.nc]
structure Fp(w:World)(x:An):Prop where
 s:x.d.id.size<=maxLen
 ws:Txs w x.WA x.wn x.wc x.d.who
 ts:Txs w x.TA x.tn x.tc x.d.what
 ns:Ns w x.NA x.nn x.nc x.d.P
theorem Fp.keep{w w':World}{x:An}(h:Fp w x)(hb:Below w.heap.size w w'):Fp w' x:=⟨h.s,h.ws.keep hb,h.ts.keep hb,h.ns.keep hb⟩
structure As(w:World)(A:Option Addr)(n c:Nat)(L:List An):Prop where
 len:n=L.length
 cap:n<=c
 max:n<=maxLen
 at_:∀(k:Nat) (x:An),L[k]?=some x->∃a,A=some a/\w.cell? (a.add (k*4))=some (.string x.d.id)/\w.cell? ⟨(a.add (k*4)).block,(a.add (k*4)).off+1,none⟩=some (.slice x.WA x.wn x.wc)/\
  w.cell? ⟨(a.add (k*4)).block,(a.add (k*4)).off+2,none⟩=some (.slice x.TA x.tn x.tc)/\w.cell? ⟨(a.add (k*4)).block,(a.add (k*4)).off+3,none⟩=some (.slice x.NA x.nn x.nc)/\Fp w x
theorem As.keep{w w':World}{A:Option Addr}{n c:Nat}{L:List An}(h:As w A n c L)(hb:Below w.heap.size w w'):As w' A n c L :=
 ⟨h.len,h.cap,h.max,λk x hx=>let ⟨a,h1,h2,h3,h4,h5,h6⟩:=h.at_ k x hx;⟨a,h1,zb hb h2,zb hb h3,zb hb h4,zb hb h5,h6.keep hb⟩⟩
structure Rq where
 who:Ud
 act:Ud
 what:Ud
 NA:Option Addr
 nn:Nat
 nc:Nat
 P:List Nd
def Rq.v(q:Rq):Value := .agg #[.string q.who.1,.string q.who.2,.string q.act.1,.string q.act.2,.string q.what.1,.string q.what.2,.slice q.NA q.nn q.nc]
structure dT(w:World)(q:Rq):Prop where
 w1:q.who.1.size<=maxLen
 w2:q.who.2.size<=maxLen
 a1:q.act.1.size<=maxLen
 a2:q.act.2.size<=maxLen
 t1:q.what.1.size<=maxLen
 t2:q.what.2.size<=maxLen
 ns:Ns w q.NA q.nn q.nc q.P
theorem dT.keep{w w':World}{q:Rq}(h:dT w q)(hb:Below w.heap.size w w'):dT w' q:=⟨h.w1,h.w2,h.a1,h.a2,h.t1,h.t2,h.ns.keep hb⟩
theorem ol:Tryz.prog.cellsOf 32=7:=by kernel_rfl
theorem qZ{H:Type}{enc:TypeId × Value->H}{w:World}{b b0:Nat}{sp:Nat->Bool}{hd:Bool}{v:Value}{d:DataW H}{ps:List MemPlace}{r:Reach}
 (hv:Value.okWide Tryz.prog w r b0 32 v) (h:DataW.Trod enc Tryz.prog w b sp hd 32 v d ps):∃x:Rq,v=x.v/\dT w x:=by
 obtain⟨cs,rfl,_⟩:=okWide_struct Tryz.underlying32 hv;have hr:=eU h;have hl:=(bV Tryz.underlying32 hr).1;rw [ol] at hl;obtain⟨l⟩:=cs;simp only [Value.cells] at hl hr
 match l,hl with
 | [c0,c1,c2,c3,c4,c5,c6],_ =>
  have h0:Rd Tryz.prog w 24 [c0,c1]:=jd Tryz.underlying32 hr 0 24 0 2 rfl bo
  have h1:Rd Tryz.prog w 24 [c2,c3]:=jd Tryz.underlying32 hr 1 24 2 2 rfl bo
  have h2:Rd Tryz.prog w 24 [c4,c5]:=jd Tryz.underlying32 hr 2 24 4 2 rfl bo
  have h3:Rd Tryz.prog w 30 [c6]:=jd Tryz.underlying32 hr 3 30 6 1 rfl eP
  obtain⟨s1,t1,e0,p1,p2⟩:=iz h0
  obtain⟨s2,t2,e1,p3,p4⟩:=iz h1
  obtain⟨s3,t3,e2,p5,p6⟩:=iz h2
  obtain⟨NA,nn,nc,P,e3,n1,n2,n3,n4,n5⟩:=mZ h3
  simp only [List.cons.injEq,and_true] at e0 e1 e2 e3
  exact⟨⟨(s1,t1),(s2,t2),(s3,t3),NA,nn,nc,P⟩,by rw [e0.1,e0.2,e1.1,e1.2,e2.1,e2.2,e3];rfl,p1,p2,p3,p4,p5,p6,n1,n2,n3,n4,n5⟩
end Go.Proofs.YthidiimbeaabhaaGreatDoor
namespace Go.Proofs.YthidiimbeaabhaaGreatDoor
open Go.RowKit Go.Wk
theorem vD(x e:En)(b:Nat)(w:World)(hv:Vr4 w b e):
 Calls Tryz.prog 52 #[x.v,.pointer (some ⟨b,0,none⟩)] w λr w'=>r = .returned (.bool (decide (x.u=e.u)))/\Below w.heap.size w w':=by
 have B0:=O (za w (.cells #[.string x.u.1,.string x.u.2,.slice x.UA x.un x.uc,.slice x.NA x.nn x.nc] 113));obtain⟨e0,e1,-,-⟩:=hv.keep B0.o;clear hv;have HD:=O (show decide (x.u=e.u)=(x.u.1.toList==e.u.1.toList && x.u.2.toList==e.u.2.toList) by
  by_cases he:x.u=e.u
  ·rw [he];simp
  ·rcases vN he with h1|⟨h1,h2⟩
   ·rw [decide_eq_false he,h1];rfl
   ·rw [decide_eq_false he,h1,h2];rfl)
 obtain⟨d,hd⟩:∃d,d=decide (x.u=e.u):=⟨_,rfl⟩
 rw [<-hd] at HD ⊢;clear hd;unfold En.v;obtain⟨⟨p1,p2⟩,UA,un,uc,ups,NA,nn,nc,P⟩:=x;generalize e.u=q at *;dsimp only at *;rcases h1:(p1.toList==q.1.toList) with _|_
 ·rw [h1] at HD;go_enter Tryz.func52,Tryz.ntmps52;go_wp2_with fail;go_ret;exact⟨by rw [HD.o];rfl,B0.o⟩
 ·rcases h2:(p2.toList==q.2.toList) with _|_
  ·rw [h1,h2] at HD;go_enter Tryz.func52,Tryz.ntmps52;go_wp2_with fail;go_ret;exact⟨by rw [HD.o];rfl,B0.o⟩
  ·rw [h1,h2] at HD;go_enter Tryz.func52,Tryz.ntmps52;go_wp2_with fail;go_ret;exact⟨by rw [HD.o];rfl,B0.o⟩
def gK(E:List En)(u:Ud):Bool:=E.any λx=>decide (x.u=u)
theorem ux{E:List En}{u:Ud}:gK E u=true↔∃x∈E,x.u=u:=by simp [gK]
theorem xO{E:List En}{k:Nat}(h:k<E.length)(u:Ud):gK (E.take (k+1)) u=(gK (E.take k) u || decide (E[k].u=u)):=by
 unfold gK;rw [List.take_succ_eq_append_getElem h,List.any_append];simp
theorem Es.take{w:World}{A:Option Addr}{n c k:Nat}{E:List En}(h:Es w A n c E)(hk:k<=n):Es w A k c (E.take k):=
 ⟨by rw [List.length_take,<-h.len];omega,Nat.le_trans hk h.cap,Nat.le_trans hk h.max,λj x hx=>by
  rw [List.getElem?_take] at hx
  split at hx
  ·exact h.at_ j x hx
  ·cases hx⟩
theorem nZ(A:Option Addr)(n c:Nat)(E:List En)(e:En)(b:Nat)(w:World)(h:Es w A n c E)(hv:Vr4 w b e):
 Calls Tryz.prog 77 #[.slice A n c,.func (.func 52) #[] #[.pointer (some ⟨b,0,none⟩)]] w
  λr w'=>(∃k:Int,r = .returned (.int .i64 k)/\(0<=k↔gK E e.u=true))/\Below w.heap.size w w':=by
 have eg:∀args w,(callFunc 52 args).run Tryz.prog w = .ok (.enter 52 args) w:=enters_of Tryz.func52 (by kernel_rfl) rfl;have K:=O (λx w' hb=>vD x e b w' (hv.keep (w':=w') hb));have HL:=O h.len;have HM:=h.max;unfold maxLen at HM;have HA:=O (h.at_);clear h hv;generalize e.u=u at *;go_enter Tryz.func77,Tryz.ntmps77;go_wp2_with fail;go_loopw [5,8] (λ_ i wr=>∃k:Nat,k<=n/\i = .int .i64 k/\Hid (gK (E.take k) u=false)/\Hid (Below w.heap.size w wr)) (λ_ i _=>n-(intOf i).toNat)
 case atStart=>exact⟨0,Nat.zero_le _,rfl,rfl,O (Below.refl _ _)⟩
 case round =>
  obtain⟨k,hk,rfl,hN,hB⟩:=hrel;by_cases hlt:k<n
  ·have aV:k<E.length:=by rw [<-HL.o];exact hlt
   have HT:=O (xO aV u);obtain⟨a,rfl,q0,q1,q2,q3,-⟩:=(HA.o.keep hB.o) k _ (List.getElem?_eq_getElem aV);have KX:=O (K.o E[k] wr hB.o);have HY:=O (show decide (E[k].u=u)=true->gK E u=true from λhe=>ux.2 ⟨_,List.getElem_mem aV,of_decide_eq_true he⟩);generalize E[k]=x at *;unfold En.v at KX;rcases hd:decide (x.u=u) with _|_
   ·rw [hd,Bool.or_false,hN.o] at HT;rw [hd] at KX;clear hd;go_wp2_with (go_at_fn 52;refine KX.o.mono ?_;rintro e w1 ⟨rfl,b1⟩);have B1:=bh hB b1;clear q0 q1 q2 q3 hB b1 KX;go_wp2_with fail;go_roundw
    case rel=>exact⟨k+1,by omega,by go_num,HT,B1⟩
    case measure=>simp [intOf];omega
   ·rw [hd] at KX;have HZ:=O (HY.o hd);clear hd HT;go_wp2_with (go_at_fn 52;refine KX.o.mono ?_;rintro e w1 ⟨rfl,b1⟩);have B1:=bh hB b1;clear q0 q1 q2 q3 hB b1 KX;go_wp2_with fail;go_ret;exact⟨⟨k,rfl,by rw [HZ.o];simp⟩,B1.o⟩
  ·have HN:=O (show gK E u=false by rw [<-hN.o,List.take_of_length_le (by rw [<-HL.o];omega)]);go_wp2_with fail;go_ret;exact⟨⟨-1,rfl,by rw [HN.o];simp⟩,hB.o⟩
theorem kh(A:Option Addr)(n c:Nat)(E:List En)(e:En)(b:Nat)(w:World)(h:Es w A n c E)(hv:Vr4 w b e):
 Calls Tryz.prog 51 #[.slice A n c,.func (.func 52) #[] #[.pointer (some ⟨b,0,none⟩)]] w
  λr w'=>r = .returned (.bool (gK E e.u))/\Below w.heap.size w w':=by
 have K:=O (nZ A n c E e b w h hv);clear h hv;go_enter Tryz.func51,Tryz.ntmps51;go_wp2_with fail;refine K.o.mono ?_;rintro r w1 ⟨⟨k,rfl,hk⟩,b1⟩;have B1:=O b1;have HK:=O (show decide (0<=k)=gK E e.u by
  rcases hu:gK E e.u with _|_
  ·exact decide_eq_false (λh=>by have:=hk.1 h;rw [hu] at this;cases this)
  ·exact decide_eq_true (hk.2 hu))
 clear hk b1;go_wp2_with fail;go_ret;exact⟨by rw [<-HK.o];rfl,B1.o⟩
end Go.Proofs.YthidiimbeaabhaaGreatDoor
namespace Go.Wk
def eo(K M:List Ud):Nat:=(K.filter λp => !bC M p).length
theorem sd(K M:List Ud):eo K M<=K.length:=List.length_filter_le _ _
theorem mP{K M M':List Ud}(h:∀x∈M,x∈M'):eo K M'<=eo K M:=by
 induction K with
 | nil=>exact Nat.le_refl _
 | cons x K ih =>
  unfold eo at ih ⊢
  simp only [List.filter_cons]
  by_cases h1:bC M x=true
  ·rw [ay.2 (h x (ay.1 h1)),h1];simpa using ih
  ·have AK:bC M x=false:=by simpa using h1
   rw [AK];by_cases h2:bC M' x=true
   ·rw [h2];simp;omega
   ·have Ec:bC M' x=false:=by simpa using h2
    rw [Ec];simp;omega
theorem wy{K M:List Ud}{p:Ud}(hp:p∈K)(hn:p ∉ M):eo K (M ++ [p])<eo K M:=by
 induction K with
 | nil=>cases hp
 | cons x K ih =>
  have hle:=mP (K:=K) (M:=M) (M':=M ++ [p]) (λy hy=>List.mem_append_left _ hy)
  unfold eo at ih hle ⊢
  simp only [List.filter_cons]
  by_cases hx:x=p
  ·subst hx
   have h1:bC M x=false:=BL.2 hn;have h2:bC (M ++ [x]) x=true:=ay.2 (by simp);rw [h1,h2];simp;omega
  ·have Iy:p∈K:=by
    rcases List.mem_cons.1 hp with h|h
    ·exact absurd h.symm hx
    ·exact h
   have:=ih Iy;have e:bC (M ++ [p]) x=bC M x:=by
    rw [Bool.eq_iff_iff,ay,ay,List.mem_append];constructor
    ·rintro (h|h)
     ·exact h
     ·simp only [List.mem_cons,List.not_mem_nil,or_false] at h;exact absurd h hx
    ·exact λh => .inl h
   rw [e];by_cases h1:bC M x=true
   ·rw [h1];simpa using this
   ·have AK:bC M x=false:=by simpa using h1
    rw [AK];simp;omega
structure Hv(G:List (Ud × List Ud))(u:Ud)(M M':List Ud):Prop where
 sub:∀x∈M,x∈M'
 sound:∀x∈M',x∈M\/Abv G u x
 here:∀p,Stp G u p->p∈M'
 shut:∀x∈M',x ∉ M->∀p,Stp G x p->p∈M'
theorem Cj{G:List (Ud × List Ud)}{u:Ud}{M':List Ud}(h:Hv G u [] M')(x:Ud):x∈M'↔Abv G u x :=
 ⟨λhx=>(h.sound x hx).resolve_left (by simp),mT (C:=λy=>y∈M') (λy hy p hp=>h.shut y hy (by simp) p hp) h.here x⟩
theorem yk{G:List (Ud × List Ud)}{a:Ud}{M':List Ud}(h:Hv G a [a] M')(x:Ud):x∈M'↔x=a\/Abv G a x:=by
 constructor
 ·intro hx;rcases h.sound x hx with h1|h1
  ·simp only [List.mem_cons,List.not_mem_nil,or_false] at h1;exact .inl h1
  ·exact .inr h1
 ·rintro (rfl|h1)
  ·exact h.sub _ (by simp)
  ·exact mT (C:=λy=>y∈M') (λy hy p hp=>by
    by_cases e:y=a
    ·subst e;exact h.here p hp
    ·exact h.shut y hy (by simpa using e) p hp) h.here x h1
end Go.Wk
namespace Go.Proofs.YthidiimbeaabhaaGreatDoor
open Go.RowKit Go.Wk Go.Maps
theorem Us.but0{w w':World}{A:Option Addr}{n c:Nat}{P:List Ud}{g:Option Nat}(h:Us w A n c P)(hg:w.grownBy w' g)(hR:0<P.length->∀a,A=some a->g≠some a.block):Us w' A n c P:=by
 rcases Nat.eq_zero_or_pos P.length with h0|h0
 ·have:P = []:=List.eq_nil_of_length_eq_zero h0;subst this;exact⟨h.len,h.cap,h.max,λk x hx=>by simp at hx,h.ok⟩
 ·exact h.but hg (hR h0)
structure fc(w:World)(bs bm:Nat)(E:List En):Prop where
 map:w.ownsMap Tryz.prog 24 aD bs E.length (cK (aR E))
 ne:bs≠bm
 ups:∀x∈E,Us w x.UA x.un x.uc x.ups
 ap:∀x∈E,0<x.ups.length->∀a,x.UA=some a->some bm≠some a.block
theorem fc.grown{w w':World}{bs bm:Nat}{E:List En}(h:fc w bs bm E)(hg:w.grownBy w' (some bm)):fc w' bs bm E :=
 ⟨pg h.map (hg.block bs h.map.lt (λe=>h.ne (by injection e))),h.ne,λx hx=>(h.ups x hx).but0 hg (h.ap x hx),h.ap⟩
def oC(M:List Ud):List (Ud × Value):=M.map λp=>(p,.int .i64 1)
def fx(w:World)(bm:Nat)(M:List Ud):Prop:=w.ownsMap Tryz.prog 24 aD bm M.length (cK (oC M))
theorem kM(M:List Ud)(p:Ud):dO (oC M) p=if bC M p=true then some (.int .i64 1) else none:=by
 induction M with
 | nil=>rfl
 | cons x r ih =>
  have:bC (x :: r) p=(decide (x=p)|| bC r p):=rfl
  simp only [oC,List.map_cons,dO]
  have ih':dO (List.map (λp=>(p,Value.int .i64 1)) r) p=if bC r p=true then some (.int .i64 1) else none:=ih
  rw [ih',this]
  by_cases h1:bC r p=true
  ·rw [h1];simp
  ·have AK:bC r p=false:=by simpa using h1
   rw [AK];by_cases h2:x=p
   ·simp [h2]
   ·simp [h2]
theorem rF{M:List Ud}(h:∀x∈M,UOk x):∀y∈oC M,UOk y.1:=λy hy=>by
 obtain⟨x,hx,rfl⟩:=List.mem_map.1 hy;exact h x hx
def bB(E:List En):List (Ud × List Ud):=E.map λx=>(x.u,x.ups)
def cU(E:List En):List Ud:=E.flatMap λx=>x.ups
theorem wq{w:World}{bs bm:Nat}{E:List En}(h:fc w bs bm E)(hn:(E.map En.u).Nodup)(dY:∀x∈E,UOk x.u)(u:Ud)(hu:UOk u):
 ∃(ty id:ByteArray) (UA:Option Addr) (un uc:Nat) (ups:List Ud) (NA:Option Addr) (nn nc:Nat),
  (cK (aR E)).atKey (dh u) (.held GY)= .held (.agg #[.string ty,.string id,.slice UA un uc,.slice NA nn nc])/\Us w UA un uc ups/\
  (0<ups.length->∀a,UA=some a->some bm≠some a.block)/\(∀p,Stp (bB E) u p↔p∈ups)/\∀p∈ups,p∈cU E:=by
 by_cases hx:∃x∈E,x.u=u
 ·obtain⟨x,hx,rfl⟩:=hx;refine⟨x.u.1,x.u.2,x.UA,x.un,x.uc,x.ups,x.NA,x.nn,x.nc,?_,h.ups x hx,h.ap x hx,λp=>⟨?_,λhp=>⟨(x.u,x.ups),List.mem_map.2 ⟨x,hx,rfl⟩,rfl,hp⟩⟩,λp hp=>List.mem_flatMap.2 ⟨x,hx,hp⟩⟩
  ·rw [kt _ _ (dY x hx) _ (te dY)];have:dO (aR E) x.u=some x.v:=wx (x:=(x.u,x.v)) (by rw [aR,List.map_map];exact hn) (List.mem_map.2 ⟨x,hx,rfl⟩);rw [this];rfl
  ·rintro ⟨e,he,h1,h2⟩;obtain⟨y,hy,rfl⟩:=List.mem_map.1 he;have:y=x:=by
    obtain⟨i,hi,rfl⟩:=List.getElem_of_mem hy;obtain⟨j,hj,rfl⟩:=List.getElem_of_mem hx;have hp:=List.pairwise_iff_getElem.1 hn;rcases Nat.lt_trichotomy i j with hlt|he|hlt
    ·have q:=hp i j (by simpa using hi) (by simpa using hj) hlt;rw [List.getElem_map,List.getElem_map] at q;exact absurd h1 q
    ·subst he;rfl
    ·have q:=hp j i (by simpa using hj) (by simpa using hi) hlt;rw [List.getElem_map,List.getElem_map] at q;exact absurd h1.symm q
   subst this;exact h2
 ·refine⟨⟨#[]⟩,⟨#[]⟩,none,0,0,[],none,0,0,?_,⟨rfl,Nat.le_refl _,Nat.zero_le _,λk x hx=>by simp at hx,λx hx=>by cases hx⟩,λh=>absurd h (by simp),λp=>⟨?_,λh=>by cases h⟩,λp hp=>by cases hp⟩
  ·rw [kt _ _ hu _ (te dY),mG]
   ·rfl
   ·intro y hy e;obtain⟨z,hz,rfl⟩:=List.mem_map.1 hy;exact hx ⟨z,hz,e⟩
  ·rintro ⟨e,he,h1,h2⟩;obtain⟨y,hy,rfl⟩:=List.mem_map.1 he;exact absurd ⟨y,hy,h1⟩ hx
structure Mid(E:List En)(u:Ud)(ups M Mk:List Ud)(k:Nat)(w wr:World)(bm:Nat):Prop where
 sub:∀x∈M,x∈Mk
 sound:∀x∈Mk,x∈M\/Abv (bB E) u x
 here:∀p∈ups.take k,p∈Mk
 shut:∀x∈Mk,x ∉ M->∀p,Stp (bB E) x p->p∈Mk
 ok:∀x∈Mk,UOk x
 cnt:Mk.length+eo (cU E) Mk<=M.length+eo (cU E) M
 met:fx wr bm Mk
 grow:w.grownBy wr (some bm)
def F8(E:List En)(u:Ud)(M:List Ud)(w:World)(bm:Nat)(e:Ending)(w':World):Prop :=
 e = .returned (.tuple #[])/\∃M',Hv (bB E) u M M'/\(∀x∈M',UOk x)/\M'.length+eo (cU E) M'<=M.length+eo (cU E) M/\fx w' bm M'/\w.grownBy w' (some bm)
theorem BU(x y:Value)(A B:Option Addr)(n c m d:Nat)(w:World):(Instr.field 113 (.agg #[x,y,.slice A n c,.slice B m d]) 1).run Tryz.prog w = .ok (.slice A n c) w:=by kernel_rfl
theorem eF(w:World):(zeroValue 3).run Tryz.prog w = .ok (.int .i64 0) w:=by kernel_rfl
theorem pH(E:List En)(bs bm:Nat)(hn:(E.map En.u).Nodup)(dY:∀x∈E,UOk x.u):∀(m:Nat) (w:World) (u:Ud) (M:List Ud),UOk u->(∀x∈M,UOk x)->eo (cU E) M<m->M.length+eo (cU E) M<=1000000->
 fc w bs bm E->fx w bm M->Calls Tryz.prog 55 #[.map (some bs),udV u,.map (some bm)] w (F8 E u M w bm):=by
 intro m
 induction m with
 | zero=>intro w u M _ _ h;omega
 | succ m ih =>
  intro w u M hu hM hm hc hS hMet
  obtain⟨ty,id,UA,un,uc,ups,NA,nn,nc,hat,Et,hap,hstp,hin⟩:=wq hS hn dY u hu
  have HS:=O hS
  have HMet:=O hMet
  have Jj:=O hat
  have HUS:=O Et
  have HK:=O (cj u hu)
  have HSTP:=O hstp
  have HIN:=O hin
  have LM:=O hap
  have HUL:=O Et.len
  have hmax:=Et.max
  unfold maxLen at hmax
  clear hS hMet hat Et hstp hin hap
  unfold udV at HK ⊢
  have G0:=O (World.grownBy_alloc w (.cells #[.string u.1,.string u.2] 24) (some bm))
  have S0:=O (HS.o.grown G0.o)
  have M0:=O (show fx _ bm M from jr HMet.o (za w (.cells #[.string u.1,.string u.2] 24)))
  have U0:=O (HUS.o.keep (za w (.cells #[.string u.1,.string u.2] 24)))
  clear HS HMet HUS
  go_enter Tryz.func55,Tryz.ntmps55
  go_wp2_with (at_lookup;refine jA _ rfl _ _ 118 rfl 24 113 ah Tryz.underlying118 (BK _) bs E.length _ rfl S0.o.map _ _ rfl HK.o _ Jj.o ?_)
  obtain⟨w0,hw0⟩:∃w0,w.alloc (.cells #[.string u.1,.string u.2] 24)=w0:=⟨_,rfl⟩
  rw [hw0] at G0 S0 M0 U0 ⊢
  clear hw0 HK Jj
  have Lg:=BU (.string ty) (.string id) UA NA un uc nn nc
  go_wp2_with fail
  rw [Lg]
  clear Lg
  go_wp2_with fail
  go_loopw [7,13] (λ_ i wr=>∃(k:Nat) (Mk:List Ud),k<=un/\i = .int .i64 k/\Hid (Mid E u ups M Mk k w0 wr bm)) (λ_ i _=>un-(intOf i).toNat)
  case atStart=>exact⟨0,M,Nat.zero_le _,rfl,⟨λ_ h=>h,λ_ h => .inl h,λp h=>by simp at h,λx h h2=>absurd h h2,hM,Nat.le_refl _,M0.o,⟨rfl,rfl,rfl,Nat.le_refl _,λ_ _ _=>rfl⟩⟩⟩
  case round =>
   obtain⟨k,Mk,hk,rfl,cA⟩:=hrel;by_cases hlt:k<un
   ·have aV:k<ups.length:=by rw [<-HUL.o];exact hlt
    have SR:=O (S0.o.grown cA.o.grow);have UR:=O (U0.o.but0 cA.o.grow LM.o);obtain⟨a,rfl,q0,q1⟩:=UR.o.at_ k _ (List.getElem?_eq_getElem aV);have Iy:=HIN.o _ (List.getElem_mem aV);have JY:=(HSTP.o _).2 (List.getElem_mem aV);have LO:UOk ups[k]:=UR.o.ok _ (List.getElem_mem aV);have Lc:ups.take (k+1)=ups.take k ++ [ups[k]]:=List.take_succ_eq_append_getElem aV;generalize ups[k]=p at *;have HKp:=O (cj p LO);have Km:=O Lc;have HPK:=O Iy;have wL:=O JY;have Jm:=O LO;clear Lc Iy JY LO;unfold udV at HKp;have G1:=O (cA.o.grow.trans (World.grownBy_alloc wr (.cells #[.string p.1,.string p.2] 24) (some bm)));have M1:=O (show fx _ bm Mk from jr cA.o.met (za wr (.cells #[.string p.1,.string p.2] 24)));have P1:=O (dN wr (.string p.1) (.string p.2) 24);have S1:=O (SR.o.grown (World.grownBy_alloc wr (.cells #[.string p.1,.string p.2] 24) (some bm)));have rV:=O (kt (oC Mk) p Jm.o (.int .i64 0) (rF cA.o.ok));rw [kM] at rV;by_cases hp:p∈Mk
    ·rw [if_pos (ay.2 hp)] at rV;have HP:=O hp;clear hp;go_wp2_with (at_lookup;refine jA _ rfl _ _ 120 rfl 24 3 ah Tryz.underlying120 (eF _) bm Mk.length _ rfl M1.o _ _ rfl HKp.o _ rV.o ?_);go_wp2_with fail;go_roundw
     case rel =>
      refine⟨k+1,Mk,by omega,by go_num,O ⟨cA.o.sub,cA.o.sound,λy hy=>?_,cA.o.shut,cA.o.ok,cA.o.cnt,M1.o,G1.o⟩⟩;rw [Km.o] at hy;rcases List.mem_append.1 hy with hy|hy
      ·exact cA.o.here y hy
      ·simp only [List.mem_cons,List.not_mem_nil,or_false] at hy;subst hy;exact HP.o
     case measure=>simp [intOf];omega
    ·rw [if_neg (λe=>hp (ay.1 e))] at rV;have hum:=wy HPK.o hp;have HP:=O hp;clear hp;go_wp2_with (first|(at_lookup;refine jA _ rfl _ _ 120 rfl 24 3 ah Tryz.underlying120 (eF _) bm Mk.length _ rfl M1.o _ _ rfl HKp.o _ rV.o ?_)|(at_mapUpdate;refine wpList_mapUpdate_own _ rfl _ _ _ 120 rfl 24 3 ah Tryz.underlying120 aD bm Mk.length _ rfl M1.o (by have:=cA.o.cnt;unfold maxLen;omega) _ _ _ rfl rfl HKp.o _ [] rfl ?_));intro w4 hown hgrow;have hbl:=M1.o.lt;have IE:bm<wr.heap.size:=cA.o.met.lt;have M4:=O (show fx w4 bm (Mk ++ [p]) by
      unfold fx
      have e:oC (Mk ++ [p])=oC Mk ++ [(p,.int .i64 1)]:=by simp [oC]
      rw [e,eE,List.length_append];exact hown)
     have G4:=O (G1.o.trans hgrow);have S4:=O (S1.o.grown hgrow);have Ml:w4.heap[wr.heap.size]?=(wr.alloc (.cells #[.string p.1,.string p.2] 24)).heap[wr.heap.size]?:=hgrow.block _ (by simp) (by intro e;injection e with e;omega);have c0:w4.cell? ⟨wr.heap.size,0,none⟩=some (.string p.1):=(World.cell?_of_block (a:=⟨wr.heap.size,0,none⟩) Ml).trans P1.o.c0;have c1:w4.cell? ⟨wr.heap.size,1,none⟩=some (.string p.2):=(World.cell?_of_block (a:=⟨wr.heap.size,1,none⟩) Ml).trans P1.o.c1;have hcnt:=cA.o.cnt;have hmono:=mP (K:=cU E) cA.o.sub;have hlen1:(Mk ++ [p]).length=Mk.length+1:=by simp
     have KI:=O (ih w4 p (Mk ++ [p]) Jm.o (λy hy=>by
      rcases List.mem_append.1 hy with hy|hy
      ·exact cA.o.ok y hy
      ·simp only [List.mem_cons,List.not_mem_nil,or_false] at hy;subst hy;exact Jm.o) (by omega) (by omega) S4.o M4.o)
     unfold udV at KI;clear hown hgrow hbl IE Ml M1 P1 S1 G1 q0 q1 SR UR rV;go_wp2_with fail;refine(KI.o).mono ?_;rintro e w5 ⟨rfl,M5,hA,hok5,Jl,hm5,hg5⟩;go_wp2_with fail;go_roundw
     case rel =>
      have IY:∀y∈Mk,y∈M5:=λy hy=>hA.sub y (List.mem_append_left _ hy);have hpM:p∈M5:=hA.sub p (by simp);refine⟨k+1,M5,by omega,by go_num,O ⟨λy hy=>IY y (cA.o.sub y hy),λy hy=>?_,λy hy=>?_,λy hy hyM q hq=>?_,hok5,by omega,hm5,G4.o.trans hg5⟩⟩
      ·rcases hA.sound y hy with h|h
       ·rcases List.mem_append.1 h with h|h
        ·exact cA.o.sound y h
        ·simp only [List.mem_cons,List.not_mem_nil,or_false] at h;subst h;exact .inr (.one wL.o)
       ·exact .inr (.more wL.o h)
      ·rw [Km.o] at hy;rcases List.mem_append.1 hy with hy|hy
       ·exact IY y (cA.o.here y hy)
       ·simp only [List.mem_cons,List.not_mem_nil,or_false] at hy;subst hy;exact hpM
      ·by_cases h1:y∈Mk
       ·exact IY q (cA.o.shut y h1 hyM q hq)
       ·by_cases h2:y=p
        ·subst h2;exact hA.here q hq
        ·exact hA.shut y hy (by
          intro h
          rcases List.mem_append.1 h with h|h
          ·exact h1 h
          ·simp only [List.mem_cons,List.not_mem_nil,or_false] at h;exact h2 h) q hq
     case measure=>simp [intOf];omega
   ·have Lc:ups.take k=ups:=List.take_of_length_le (by rw [<-HUL.o];omega);go_wp2_with fail;go_end0;refine⟨rfl,Mk,⟨cA.o.sub,cA.o.sound,λq hq=>cA.o.here q (by rw [Lc];exact(HSTP.o q).1 hq),cA.o.shut⟩,cA.o.ok,cA.o.cnt,cA.o.met,G0.o.trans cA.o.grow⟩
end Go.Proofs.YthidiimbeaabhaaGreatDoor
