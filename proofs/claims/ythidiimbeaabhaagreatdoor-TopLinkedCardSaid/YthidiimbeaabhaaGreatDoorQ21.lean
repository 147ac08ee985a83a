/-
  ent.Check: what is wrong with a store. ent.In: is one another one, or above it. ..
-/
import Derived.Test.YthidiimbeaabhaaGreatDoorQ20
set_option maxRecDepth 100000
set_option maxHeartbeats 4000000
namespace Go.Proofs.YthidiimbeaabhaaGreatDoor
open Go.RowKit Go.Wk Go.Maps
def jL:List En->List En->Int
 | _,[]=>0
 | M,x :: r=>if zq x.u=0 then(if gK M x.u=true then 6 else if eA x=0 then jL (M ++ [x]) r else eA x) else zq x.u
open Classical in
noncomputable def zQ(E:List En):Int:=if 16<E.length then 4 else if jL [] E=0 then(if∃x∈E,Abv (bB E) x.u x.u then 7 else 0) else jL [] E
theorem yY{L:List En}{k:Nat}(h:k<L.length):jL (L.take k) (L.drop k)=if zq L[k].u=0 then(if gK (L.take k) L[k].u=true then 6 else if eA L[k]=0 then jL (L.take (k+1)) (L.drop (k+1)) else eA L[k]) else zq L[k].u:=by
 rw [List.drop_eq_getElem_cons h,List.take_succ_eq_append_getElem h];rfl
theorem Bf{x:En}(h:eA x=0):x.ups.length<=6:=by
 unfold eA at h;split at h
 ·cases h
 ·omega
theorem l8:∀(r M:List En),jL M r=0->(∀x∈r,zq x.u=0/\eA x=0)/\(∀x∈r,∀y∈M,y.u≠x.u)/\(r.map En.u).Nodup
 | [],_,_=>⟨λx hx=>(nomatch hx),λx hx=>(nomatch hx),List.nodup_nil⟩
 | x :: r,M,h=>by
  unfold jL at h;by_cases h1:zq x.u=0
  ·rw [if_pos h1] at h;by_cases h2:gK M x.u=true
   ·rw [if_pos h2] at h;cases h
   ·rw [if_neg h2] at h;by_cases h3:eA x=0
    ·rw [if_pos h3] at h;obtain⟨a,b,c⟩:=l8 r _ h;refine⟨λy hy=>?_,λy hy z hz=>?_,?_⟩
     ·rcases List.mem_cons.1 hy with rfl|hy
      ·exact⟨h1,h3⟩
      ·exact a y hy
     ·rcases List.mem_cons.1 hy with rfl|hy
      ·exact λe=>h2 (ux.2 ⟨z,hz,e⟩)
      ·exact b y hy z (List.mem_append_left _ hz)
     ·rw [List.map_cons,List.nodup_cons];refine⟨λhm=>?_,c⟩;obtain⟨y,hy,e⟩:=List.mem_map.1 hm;exact b y hy x (by simp) e.symm
    ·rw [if_neg h3] at h;exact absurd h h3
  ·rw [if_neg h1] at h;exact absurd h h1
theorem iw:∀(E:List En),(∀x∈E,eA x=0)->(cU E).length<=6*E.length
 | [],_=>Nat.le_refl _
 | x :: r,h=>by
  have h1:=iw r (λy hy=>h y (by simp [hy]));have h2:=Bf (h x (by simp));unfold cU at h1 ⊢;rw [List.flatMap_cons,List.length_append,List.length_cons];omega
theorem sg(L:List (Ud × Value))(kl:Lit):has (cK L) kl=true↔∃x∈L,kl=dh x.1:=by
 refine em (C:=λL=>has (cK L) kl=true↔∃x∈L,kl=dh x.1) ?_ (λL p ih=>?_) L
 ·exact⟨λh=>absurd h (by simp [cK,has]),λ⟨x,hx,_⟩=>by cases hx⟩
 ·rw [eE];by_cases h:kl=dh p.1
  ·subst h;rw [has_put_same (na L) (sH _)];exact⟨λ_=>⟨p,by simp,rfl⟩,λ_=>rfl⟩
  ·rw [has_put_other h,ih];constructor
   ·rintro ⟨x,hx,e⟩;exact⟨x,by simp [hx],e⟩
   ·rintro ⟨x,hx,e⟩;rcases List.mem_append.1 hx with hx|hx
    ·exact⟨x,hx,e⟩
    ·simp only [List.mem_cons,List.not_mem_nil,or_false] at hx;subst hx;exact absurd e h
structure v8(w wr:World)(E:List En)(B n r:Nat)(left:Lit->Bool)(cnt:Nat):Prop where
 rg:wr.ranges Tryz.prog 24 aD B r n (cK (aR E)) left cnt
 has:∀kl,left kl=true->∃x∈E,kl=dh x.u
 seen:∀x∈E,left (dh x.u)=false->¬Abv (bB E) x.u x.u
 below:Below w.heap.size w wr
theorem v8.start{w wr:World}{E:List En}{B n r cnt:Nat}(h:wr.ranges Tryz.prog 24 aD B r n (cK (aR E)) (Maps.has (cK (aR E))) cnt)(hb:Below w.heap.size w wr):v8 w wr E B n r (Maps.has (cK (aR E))) cnt :=
 {rg:=h
  has:=λkl hk=>by
   obtain⟨y,hy,e⟩:=(sg _ _).1 hk
   obtain⟨x,hx,rfl⟩:=List.mem_map.1 hy
   exact⟨x,hx,e⟩
  seen:=λx hx hf=>by
   have:Maps.has (cK (aR E)) (dh x.u)=true:=(sg _ _).2 ⟨(x.u,x.v),List.mem_map.2 ⟨x,hx,rfl⟩,rfl⟩
   rw [this] at hf;cases hf
  below:=hb }
theorem v8.step{w wr w':World}{E:List En}{B n r cnt cnt':Nat}{left:Lit->Bool}(h:v8 w wr E B n r left cnt)(dY:∀x∈E,UOk x.u){y:En}(hy:y∈E)(hno:¬Abv (bB E) y.u y.u)
 (hr:w'.ranges Tryz.prog 24 aD B r n (cK (aR E)) (λz=>left z && !z.sameKey (dh y.u)) cnt') (hb:Below w.heap.size w w'):v8 w w' E B n r (λz=>left z && !z.sameKey (dh y.u)) cnt' :=
 ⟨hr,λkl hk=>h.has kl (by
  have:(left kl && !kl.sameKey (dh y.u))=true:=hk
  rw [Bool.and_eq_true] at this
  exact this.1),λx hx hf=>by
  by_cases h1:left (dh x.u)=true
  ·have hf':(left (dh x.u)&& !(dh x.u).sameKey (dh y.u))=false:=hf
   rw [h1,Bool.true_and] at hf'
   have h2:(dh x.u).sameKey (dh y.u)=true:=by simpa using hf'
   have e:=sK (dY x hx) (dY y hy) (WideAt.sameKey_eq h2)
   rw [e];exact hno
  ·exact h.seen x hx (by simpa using h1),hb⟩
theorem oN{w:World}{a:Addr}{v:Value}(h:w.cell? a=some v):a.block<w.heap.size:=by
 rcases Nat.lt_or_ge a.block w.heap.size with h1|h1
 ·exact h1
 ·have:w.heap[a.block]?=none:=Array.getElem?_eq_none h1;simp [World.cell?,this] at h
theorem Es.enok{w:World}{A:Option Addr}{n c:Nat}{E:List En}(h:Es w A n c E):∀x∈E,tI w x:=λx hx=>by
 obtain⟨k,hk,rfl⟩:=List.getElem_of_mem hx;obtain⟨_,_,_,_,_,_,h6⟩:=h.at_ k _ (List.getElem?_eq_getElem hk);exact h6
theorem Es.store{w w':World}{A:Option Addr}{n c bs bm:Nat}{E:List En}(h:Es w A n c E)(hb:Below w.heap.size w w')(hm:w'.ownsMap Tryz.prog 24 aD bs E.length (cK (aR E)))(hne:bs≠bm)(hs:w.heap.size<=bm):fc w' bs bm E :=
 ⟨hm,hne,λx hx=>((h.keep hb).enok x hx).us,λx hx hp a ha e=>by
  obtain⟨a',e',h1,_⟩:=(h.enok x hx).us.at_ 0 _ (List.getElem?_eq_getElem hp)
  rw [ha] at e'
  injection e' with e'
  injection e with e
  have:=oN h1
  rw [cD,<-e',<-e] at this
  omega⟩
theorem ax(A:Option Addr)(n c:Nat)(E:List En)(w:World)(h:Es w A n c E):
 Calls Tryz.prog 24 #[.slice A n c] w λe w'=>e = .returned (zM (zQ E))/\Below w.heap.size w w':=by
 have hlen:=h.len;by_cases Mh:16<n
 ·have HE:=O (show zQ E=4 by unfold zQ;rw [if_pos (by omega)]);rw [HE.o];clear hlen h;go_enter Tryz.func24,Tryz.ntmps24;go_wp2_with fail;go_ret;exact⟨rfl,Below.refl _ _⟩
 ·have HE:=O (show zQ E=_ by unfold zQ;rw [if_neg (by omega)]);generalize zQ E=SF at *;have KW:=O (λ(u:Ud) (hu:UOk u) w=>jP u.1 u.2 w hu.1 hu.2);have HH:=O h;have Ef:=O h.uok;have IX:=h.cap;have HL:=O hlen;have hd:decide ((16:Int)<(n:Int))=false:=decide_eq_false (by omega);clear hlen h;go_enter Tryz.func24,Tryz.ntmps24;go_wp2_with fail;go_loopw [3,4,5,6,7,17] (λ_ _ _ _ _ i wr=>∃k:Nat,k<=n/\i = .int .i64 k/\Hid (jL [] E=jL (E.take k) (E.drop k))/\Hid (Below w.heap.size w wr)) (λ_ _ _ _ _ i _=>n-(intOf i).toNat)
  case atStart=>exact⟨0,Nat.zero_le _,rfl,rfl,O (Below.refl _ _)⟩
  case round =>
   obtain⟨k,hk,rfl,hF,hB⟩:=hrel;by_cases hlt:k<n
   ·have aV:k<E.length:=by rw [<-HL.o];exact hlt
    have HS:=O (yY aV);obtain⟨a,rfl,q0,q1,q2,q3,-⟩:=(HH.o.at_.keep hB.o) k _ (List.getElem?_eq_getElem aV);obtain⟨_,-,-,-,-,-,hxo⟩:=(HH.o.at_) k _ (List.getElem?_eq_getElem aV);have Gv:=O hxo;have HUK:=O (Ef.o _ (List.getElem_mem aV));clear hxo;generalize E[k]=x at *;have K1:=O (KW.o x.u HUK.o);go_wp2_with fail;have B1:=bh hB (za wr (.cells #[.string x.u.1,.string x.u.2,.slice x.UA x.un x.uc,.slice x.NA x.nn x.nc] 113));have V1:=O (qI wr x 113);obtain⟨w1,rR⟩:∃w1,wr.alloc (.cells #[.string x.u.1,.string x.u.2,.slice x.UA x.un x.uc,.slice x.NA x.nn x.nc] 113)=w1:=⟨_,rfl⟩
    rw [rR] at V1 B1 ⊢;clear rR hB q0 q1 q2 q3;refine(K1.o w1).mono ?_;rintro e w2 ⟨rfl,b2⟩;have B2:=bh B1 b2;have V2:=O (V1.o.keep b2);clear K1 b2 B1 V1;by_cases hu:zq (x.u.1,x.u.2)=0
    ·have AH:zq x.u=0:=hu;rw [hu,zf];rw [if_pos AH] at HS;clear hu AH;have K2:=O (kh (some a) k c (E.take k) x wr.heap.size w2 ((HH.o.keep B2.o).take hk) V2.o);go_wp2_with fail;refine K2.o.mono ?_;rintro e w3 ⟨rfl,b3⟩;have B3:=bh B2 b3;have V3:=O (V2.o.keep b3);clear K2 b3 B2 V2;rcases hh:gK (E.take k) x.u with _|_
     ·rw [hh,if_neg (by decide)] at HS;have K3:=O (FH x w3 (Gv.o.keep B3.o));obtain⟨c0,c1,c2,c3⟩:=V3.o;unfold En.v at K3;clear hh;go_wp2_with fail;refine K3.o.mono ?_;rintro e w4 ⟨rfl,b4⟩;have B4:=bh B3 b4;clear K3 b4 B3 V3 c0 c1 c2 c3;by_cases h1:eA x=0
      ·rw [if_pos h1] at HS;have HF:=O (hF.o.trans HS.o);rw [h1,zf];clear h1 HS hF;go_wp2_with fail;go_roundw
       case rel=>exact⟨k+1,by omega,by go_num,HF,B4⟩
       case measure=>simp [intOf];omega
      ·rw [if_neg h1] at HS;have HF:=O (hF.o.trans HS.o);have aE:=O (show SF=eA x by rw [HE.o,HF.o,if_neg h1]);rw [zl h1];have od:=O h1;clear h1 HS hF;generalize eA x=f at *;go_wp2_with fail;go_ret;exact⟨by rw [aE.o,zl od.o];rfl,B4.o⟩
     ·rw [hh,if_pos rfl] at HS;have HF:=O (hF.o.trans HS.o);have aE:=O (show SF=6 by rw [HE.o,HF.o];rfl);clear hh HS hF;go_wp2_with fail;go_ret;exact⟨by rw [aE.o];rfl,B3.o⟩
    ·have AH:zq x.u≠0:=hu;rw [if_neg AH] at HS;have aE:=O (show SF=zq (x.u.1,x.u.2) by rw [HE.o,hF.o,HS.o,if_neg AH]);rw [zl hu];have od:=O hu;clear hu AH HS hF;generalize zq (x.u.1,x.u.2)=f at *;go_wp2_with fail;go_ret;exact⟨by rw [aE.o,zl od.o];rfl,B2.o⟩
   ·have HF:=O (show jL [] E=0 by rw [hF.o,List.drop_of_length_le (by rw [<-HL.o];omega)];rfl);have HE7:=O (show(∃x,x∈E/\Abv (bB E) x.u x.u)->SF=7 from λhx=>by rw [HE.o,if_pos HF.o,if_pos hx]);have HE0:=O (show¬(∃x,x∈E/\Abv (bB E) x.u x.u)->SF=0 from λhx=>by rw [HE.o,if_pos HF.o,if_neg hx]);clear HE;obtain⟨JS,-,JQ⟩:=l8 E [] HF.o;have Lz:=O JS;have Kh:=O JQ;have K1:=O (nI A n c E wr (HH.o.keep hB.o) (by omega));clear hF JS JQ KW;go_wp2_with fail;refine K1.o.mono ?_;rintro e w1 ⟨b,rfl,hwb,hO,b1⟩;have HO:=O hO;have B1:=bh hB b1;have WB:=O (show w.heap.size<=b from Nat.le_trans hB.o.size hwb);clear K1 hB hwb hO b1;go_wp2_with (at_range;refine wpList_range_own _ rfl _ 118 rfl 24 113 ah Tryz.underlying118 aD b n (cK (aR E)) rfl HO.o ?_;intro w2 hrg hg hs);go_frame;have R2:=O (v8.start (w:=w) hrg (B1.o.grown hg B1.o.size (λg hg=>by cases hg)));have WR:=O (show w.heap.size<=w1.heap.size from B1.o.size);generalize w1.heap.size=r at *;clear hrg hg hs HO B1;generalize Maps.has (cK (aR E))=left0 at *;generalize Maps.size (cK (aR E))=cnt0 at *;go_loopw [9,10] (λ_ _ wr=>∃left cnt,Hid (v8 w wr E b n r left cnt)) (λ_ _ wr=>wr.rangeLeft b r)
    case atStart=>exact⟨_,_,R2⟩
    case round =>
     clear R2;obtain⟨left,cnt,hR⟩:=hrel;go_wp2_with (at_next;refine wpList_next_ranges _ rfl _ rfl 24 ah aD (λv:Value=>v) (λv:Value=>v) (λkey kl _=>⟨key,rfl⟩) (λv y _=>⟨v,rfl⟩) b r n (cK (aR E)) left cnt rfl hR.o.rg ?_ ?_)
     ·intro hc0 hl0;have aE:=O (HE0.o (λ⟨x,hx,h⟩=>hR.o.seen x hx (hl0 _) h));clear hc0 hl0;go_wp2_with fail;go_ret;exact⟨by rw [aE.o];rfl,hR.o.below⟩
     ·intro x v kl y yp w2 cnt' hkey hlk hv hat hrg aV hgr hsz hen;obtain⟨e,he,rfl⟩:=hR.o.has kl hlk;have Lq:x=udV e.u:=ah.inj hkey (cj e.u (Ef.o e he));subst Lq;clear hkey hlk hv hat;unfold udV at hen;have R2:=O hrg;have B2:=O (hR.o.below.grown hgr hR.o.below.size (λg hg=>by cases hg;exact WR.o));have Ev:=O aV;have HE:=O he;clear hrg aV hgr hsz he;have Hf:=@run_makeMap Tryz.prog;have P3:=O (dN w2 (.string e.u.1) (.string e.u.2) 24);have B3:=bh B2 (za w2 (.cells #[.string e.u.1,.string e.u.2] 24));have R3:=O (R2.o.alloc (.cells #[.string e.u.1,.string e.u.2] 24));go_wp2_with fail;obtain⟨w3,hw3⟩:∃w3,w2.alloc (.cells #[.string e.u.1,.string e.u.2] 24)=w3:=⟨_,rfl⟩
      have hs3:w3.heap.size=w2.heap.size+1:=by rw [<-hw3];simp
      rw [hw3] at P3 B3 R3 ⊢;rw [<-hs3];have HB2:=O (show w2.heap.size≠w3.heap.size by omega);clear hw3 hs3 hen R2 B2;have P4:=O (P3.o.keep (za w3 (.map #[] 0)));have B4:=bh B3 (za w3 (.map #[] 0));have R4:=O (R3.o.alloc (.map #[] 0));have M4:=O (show fx (w3.alloc (.map #[] 0)) w3.heap.size [] from World.ownsMap_made _ _ _ _);have HB:=O R3.o.owns.lt;have HR:=O R3.o.lt;have Kf:=O B3.o.size;have S4:=O (HH.o.store B4.o (by rw [<-HL.o];exact R4.o.owns) (Nat.ne_of_lt HB.o) B3.o.size);generalize w3.alloc (.map #[] 0)=w4 at *;generalize w3.heap.size=bm at *;generalize w2.heap.size=bu at *;have od:=Nat.le_trans (sd (cU E) []) (iw E (λx hx=>(Lz.o x hx).2));have KA:=O (pH E b bm Kh.o Ef.o 100 w4 e.u [] (Ef.o e HE.o) (λx hx=>(nomatch hx)) (by have:=HL.o;omega) (by have:=HL.o;simp only [List.length_nil];omega) S4.o M4.o);unfold udV at KA;clear od P3 B3 R3 M4 S4;refine KA.o.mono ?_;rintro e2 w5 ⟨rfl,M',hA,Ej,-,IR,Gy⟩;have M5:=O IR;have R5:=O (R4.o.kept Gy (by intro h;injection h with h;have:=HB.o;omega) (by intro h;injection h with h;have:=HR.o;omega));have c0:=Gy.cell P4.o.c0 (by intro h;injection h with h;exact HB2.o h);have c1:=Gy.cell P4.o.c1 (by intro h;injection h with h;exact HB2.o h);have B5:=O (B4.o.grown Gy B4.o.size (λg hg=>by cases hg;exact Kf.o));have HK:=O (cj e.u (Ef.o e HE.o));unfold udV at HK;have rV:=O (kt (oC M') e.u (Ef.o e HE.o) (.int .i64 0) (rF Ej));rw [kM] at rV;have JD:=O (Cj hA e.u);clear hA Ej IR Gy KA R4 P4 B4;by_cases hp:e.u∈M'
      ·rw [if_pos (ay.2 hp)] at rV;have aE:=O (HE7.o ⟨e,HE.o,JD.o.1 hp⟩);clear hp;go_wp2_with (at_lookup;refine jA _ rfl _ _ 120 rfl 24 3 ah Tryz.underlying120 (eF _) bm M'.length _ rfl M5.o _ _ rfl HK.o _ rV.o ?_);go_wp2_with fail;go_ret;exact⟨by rw [aE.o];rfl,B5.o⟩
      ·rw [if_neg (λe=>hp (ay.1 e))] at rV;have HNA:=O (λh=>hp (JD.o.2 h));clear hp;go_wp2_with (at_lookup;refine jA _ rfl _ _ 120 rfl 24 3 ah Tryz.underlying120 (eF _) bm M'.length _ rfl M5.o _ _ rfl HK.o _ rV.o ?_);go_wp2_with fail;go_roundw
       case rel=>exact⟨_,_,O (hR.o.step Ef.o HE.o HNA.o R5.o B5.o)⟩
       case measure=>rw [R5.o.left_eq,hR.o.rg.left_eq];exact Ev.o
end Go.Proofs.YthidiimbeaabhaaGreatDoor
namespace Go.Proofs.YthidiimbeaabhaaGreatDoor
open Go.RowKit Go.Wk Go.Maps
theorem Cu{E:List En}(h:zQ E=0):E.length<=16/\jL [] E=0/\∀x∈E,¬Abv (bB E) x.u x.u:=by
 unfold zQ at h;split at h
 ·cases h
 ·rename_i h1;split at h
  ·rename_i h2;split at h
   ·cases h
   ·rename_i h3;exact⟨by omega,h2,λx hx hc=>h3 ⟨x,hx,hc⟩⟩
  ·rename_i h2;exact absurd h h2
open Classical in
noncomputable def inB(E:List En)(a b:Ud):Bool:=decide (zQ E=0/\(b=a\/Abv (bB E) a b))
theorem Vr2.but{w w':World}{b:Nat}{x y:Value}{g:Option Nat}(h:Vr2 w b x y)(hg:w.grownBy w' g)(hn:some b≠g):Vr2 w' b x y :=
 have hl:=block_lt_of_cell h.c0
 have hb:=hg.block b hl hn
 ⟨(World.cell?_of_block (a:=⟨b,0,none⟩) hb).trans h.c0,(World.cell?_of_block (a:=⟨b,1,none⟩) hb).trans h.c1,(World.frozen?_of_block (a:=⟨b,0,none⟩) hb).trans h.z0,(World.frozen?_of_block (a:=⟨b,1,none⟩) hb).trans h.z1⟩
theorem zo(w:World):Below w.heap.size w w.drew:=⟨rfl,rfl,rfl,Nat.le_refl _,λ_ _=>rfl⟩
theorem Cm{E:List En}{a b:Ud}(hs:zQ E=0)(h:b=a\/Abv (bB E) a b):inB E a b=true:=by unfold inB;exact @decide_eq_true _ (_) ⟨hs,h⟩
theorem x8{E:List En}{a b:Ud}(h:¬(b=a\/Abv (bB E) a b)):inB E a b=false:=by unfold inB;exact @decide_eq_false _ (_) λh2=>h h2.2
theorem EG{E:List En}{a b:Ud}(h:zQ E≠0):inB E a b=false:=by unfold inB;exact @decide_eq_false _ (_) λh2=>h h2.1
theorem Hz(A:Option Addr)(n c:Nat)(E:List En)(a b:Ud)(w:World)(h:Es w A n c E)(ha:UOk a)(hb:UOk b):
 Calls Tryz.prog 126 #[.slice A n c,udV a,udV b] w λe w'=>e = .returned (.tuple #[.bool (inB E a b),zM (zQ E)])/\Below w.heap.size w w':=by
 have Hf:=@run_makeMap Tryz.prog;have HH:=O h;have Ef:=O h.uok;have HL:=O h.len;have HA:=O ha;have HBO:=O hb;clear h ha hb;unfold udV;go_enter Tryz.func126,Tryz.ntmps126;go_wp2_with fail;have hsz:(w.alloc (.cells #[.string a.1,.string a.2] 24)).heap.size=w.heap.size+1:=by simp
 have P0:=O (dN w (.string a.1) (.string a.2) 24);have B0:=O (za w (.cells #[.string a.1,.string a.2] 24));obtain⟨w0,hw0⟩:∃w0,w.alloc (.cells #[.string a.1,.string a.2] 24)=w0:=⟨_,rfl⟩
 rw [hw0] at P0 B0 hsz ⊢;rw [<-hsz];have HZ:=O (show w.heap.size≠w0.heap.size by omega);clear hw0 hsz;have P1:=O (P0.o.keep (za w0 (.cells #[.string b.1,.string b.2] 24)));have Q1:=O (dN w0 (.string b.1) (.string b.2) 24);have B1:=bh B0 (za w0 (.cells #[.string b.1,.string b.2] 24));obtain⟨w1,rR⟩:∃w1,w0.alloc (.cells #[.string b.1,.string b.2] 24)=w1:=⟨_,rfl⟩
 have HZ1:=O (show w0.heap.size<w1.heap.size by rw [<-rR];simp);rw [rR] at P1 Q1 B1 ⊢;have HZ0:=O (show w.heap.size<w1.heap.size by have:=B0.o.size;have:=HZ1.o;omega);clear rR P0 B0;generalize w.heap.size=ba at P1 HZ HZ0 ⊢;generalize w0.heap.size=bb at *;have K1:=O (ax A n c E w1 (HH.o.keep B1.o));refine K1.o.mono ?_;rintro e w2 ⟨rfl,b2⟩;have P2:=O (P1.o.keep b2);have Q2:=O (Q1.o.keep b2);have B2:=bh B1 b2;have HZ2:=O (show ba<w2.heap.size by have:=HZ0.o;have:=b2.size;omega);have HZ3:=O (show bb<w2.heap.size by have:=HZ1.o;have:=b2.size;omega);clear K1 P1 Q1 B1 b2;by_cases hs:zQ E=0
 ·obtain⟨hs1,hs2,-⟩:=Cu hs;obtain⟨JS,-,JQ⟩:=l8 E [] hs2;have Lz:=O JS;have Kh:=O JQ;have LV:=O hs1;have HIN1:=O (show(b=a\/Abv (bB E) a b)->inB E a b=true from Cm hs);have HIN0:=O (show¬(b=a\/Abv (bB E) a b)->inB E a b=false from x8);have HSE:=O hs;rw [hs,zf];clear hs hs1 hs2 JS JQ;have HK:=O (cj a HA.o);unfold udV at HK;obtain⟨c0,c1⟩:=P2.o.keep (za w2 (.map #[] 0));have M3:=O (show fx (w2.alloc (.map #[] 0)) w2.heap.size [] from World.ownsMap_made _ _ _ _);have P3:=O (P2.o.keep (za w2 (.map #[] 0)));have Q3:=O (Q2.o.keep (za w2 (.map #[] 0)));have B3:=bh B2 (za w2 (.map #[] 0));have Kf:=O (show w.heap.size<=w2.heap.size from B2.o.size);clear P2 Q2 B2;obtain⟨w4,hrun,hown,hgrow⟩:=World.ownsMap.update (t:=120) M3.o ah Tryz.underlying120 (by decide) (val := .int .i64 1) HK.o (R:=aD) rfl;have M4:=O (show fx w4 w2.heap.size [a] from hown);have P4:=O (P3.o.but hgrow (by intro h;injection h with h;have:=HZ2.o;rw [h] at this;exact Nat.lt_irrefl _ this));have Q4:=O (Q3.o.but hgrow (by intro h;injection h with h;have:=HZ3.o;rw [h] at this;exact Nat.lt_irrefl _ this));have B4:=O (B3.o.grown hgrow B3.o.size (λg hg=>by cases hg;exact Kf.o));clear hown hgrow P3 Q3 B3 M3;have K2:=O (λw' (hb:Below w.heap.size w w')=>nI A n c E w' (HH.o.keep (hb)) (by have:=HL.o;have:=LV.o;omega));go_wp2_with fail;clear hrun c0 c1;generalize w2.heap.size=bm at *;have od:=Nat.le_trans (sd (cU E) [a]) (iw E (λx hx=>(Lz.o x hx).2));have KA:=O (λ(bs:Nat) (w':World) (hS:fc w' bs bm E) (hM:fx w' bm [a])=>pH E bs bm Kh.o Ef.o 101 w' a [a] HA.o (λx hx=>by simp only [List.mem_cons,List.not_mem_nil,or_false] at hx;subst hx;exact HA.o) (by have:=LV.o;omega) (by have:=LV.o;simp only [List.length_cons,List.length_nil];omega) hS hM);unfold udV at KA;have PD:=O (P4.o.keep (zo w4));have QD:=O (Q4.o.keep (zo w4));have MD:=O (show fx w4.drew bm [a] from M4.o);have BD:=O (show Below w.heap.size w w4.drew from B4.o.trans ((zo w4).mono B4.o.size));obtain⟨c0,c1,-,-⟩:=PD.o;have HLM:=O (show bm<w4.drew.heap.size from MD.o.lt);clear od P4 Q4 M4 B4;go_region_with (first
   |(go_at_call 54;(refine(K2.o _ BD.o).mono ?_);rintro e w5 ⟨bs,rfl,J6,hO,b5⟩;(have P5:=O (PD.o.keep b5));(have Q5:=O (QD.o.keep b5));(obtain⟨d0,d1,-,-⟩:=PD.o.keep b5);(have B5:=O (BD.o.trans (b5.mono BD.o.size)));(have KA5:=O (KA.o bs w5 (HH.o.store B5.o (by rw [<-HL.o];exact hO) (Nat.ne_of_gt (Nat.lt_of_lt_of_le HLM.o J6)) Kf.o) (jr MD.o b5)));clear J6 hO b5)
   |(go_at_call 55;(refine KA5.o.mono ?_);rintro e2 w6 ⟨rfl,M',hA,Ej,hc',IR,Gy⟩))
  all_goals
   have M6:=O IR;have B6:=O (B5.o.grown Gy B5.o.size (λg hg=>by cases hg;exact Kf.o));obtain⟨f0,f1,-,-⟩:=Q5.o.but Gy (by intro h;injection h with h;have:=HZ3.o;rw [h] at this;exact Nat.lt_irrefl _ this);have JD:=O (yk hA b);have LJ:=O (cj b HBO.o);unfold udV at LJ;have rV:=O (kt (oC M') b HBO.o (.int .i64 0) (rF Ej));rw [kM] at rV;clear hA Ej hc' IR Gy d0 d1 KA5 KA P5 Q5 PD QD c0 c1
  all_goals
   by_cases hp:b∈M'
   ·rw [if_pos (ay.2 hp)] at rV;have aE:=O (HIN1.o (JD.o.1 hp));clear hp;go_wp2_with (at_lookup;refine jA _ rfl _ _ 120 rfl 24 3 ah Tryz.underlying120 (eF _) bm M'.length _ rfl M6.o _ _ rfl LJ.o _ rV.o ?_);go_wp2_with fail;go_ret2;exact⟨by rw [aE.o,HSE.o];rfl,B6.o⟩
   ·rw [if_neg (λe=>hp (ay.1 e))] at rV;have aE:=O (HIN0.o (λh=>hp (JD.o.2 h)));clear hp;go_wp2_with (at_lookup;refine jA _ rfl _ _ 120 rfl 24 3 ah Tryz.underlying120 (eF _) bm M'.length _ rfl M6.o _ _ rfl LJ.o _ rV.o ?_);go_wp2_with fail;go_ret2;exact⟨by rw [aE.o,HSE.o];rfl,B6.o⟩
 ·have hse:=O hs;rw [zl hs];clear hs;go_wp2_with fail;go_ret2;exact⟨by rw [zl hse.o,EG hse.o];rfl,B2.o⟩
end Go.Proofs.YthidiimbeaabhaaGreatDoor
namespace Go.Wk
def ie(L:List (List Nd))(Q:List Nd):Bool:=L.any λP=>decide (zx P Q=0)
end Go.Wk
namespace Go.Proofs.YthidiimbeaabhaaGreatDoor
open Go.RowKit Go.Wk Go.Sort
theorem rk(A B:Option Addr)(n m c d:Nat)(P Q:List Nd)(w:World)(hn:n=P.length)(hm:m=Q.length)(uJ:n<=maxLen)(wM:m<=maxLen)(hP:jk w A P)(hQ:jk w B Q):
 Calls Tryz.prog 152 #[.slice A n c,.slice B m d] w λe w'=>e = .returned (.bool (decide (zx P Q=0)))/\Below w.heap.size w w':=by
 unfold maxLen at uJ wM;have HN:=O hn;have HM:=O hm;have HP:=O hP;have HQ:=O hQ;clear hn hm hP hQ;by_cases hl:n=m
 ·subst hl;go_enter Tryz.func152,Tryz.ntmps152;go_wp2_with fail;go_loopw [5,13] (λ_ i wr=>∃k:Nat,k<=n/\i = .int .i64 k/\Hid (zx P Q=zx (P.drop k) (Q.drop k))/\Hid (Below w.heap.size w wr)) (λ_ i _=>n-(intOf i).toNat)
  case atStart=>exact⟨0,Nat.zero_le _,rfl,rfl,Below.refl _ _⟩
  case round =>
   obtain⟨k,hk,rfl,hE,hB⟩:=hrel;by_cases hlt:k<n
   ·have h1:k<P.length:=by rw [<-HN.o];exact hlt
    have h2:k<Q.length:=by rw [<-HM.o];exact hlt
    obtain⟨a,rfl,a1,a2,a3,a4⟩:=(HP.o.keep hB.o) k P[k] (List.getElem?_eq_getElem h1);obtain⟨b,rfl,b1,b2,b3,b4⟩:=(HQ.o.keep hB.o) k Q[k] (List.getElem?_eq_getElem h2);by_cases he:P[k]=Q[k]
    ·have HE:=O (hE.o.trans ((dl h1 h2).trans (by rw [mL he,zn])));rw [he] at a1 a2 a3 a4;generalize Q[k]=y at *;clear he hE;go_wp2_with fail;go_quiet (fail);go_wp2_with fail;go_roundw
     case rel=>exact⟨k+1,by omega,by go_num,HE,hB.o.drewN _⟩
     case measure=>simp [intOf];omega
    ·have HE:=O (dt h1 h2 he hE.o);have hne:=λw=>wF he w;generalize P[k]=x at *;generalize Q[k]=y at *;clear he hE;go_wp2_with fail;go_quiet (fail);go_wp2_with fail;go_ret;exact⟨zC (decide_eq_false HE.o).symm,hB.o.drewN _⟩
   ·have HE:=O (hE.o.trans (cP (by rw [<-HN.o];omega) (by rw [<-HM.o];omega)));clear hE;go_wp2_with fail;go_ret;exact⟨zC (decide_eq_true HE.o).symm,hB.o⟩
 ·have HE:=O (show zx P Q≠0 from λh=>hl (by rw [HN.o,HM.o,(zO.zero _ _).1 h]));have h3:(n != m)=true:=by rw [bne_iff_ne];exact hl
  clear hl;go_enter Tryz.func152,Tryz.ntmps152;go_wp2_with fail;go_ret;exact⟨zC (decide_eq_false HE.o).symm,Below.refl _ _⟩
theorem Bz(A B:Option Addr)(n m c d b:Nat)(P Q:List Nd)(w:World)(h:Ns w A n c P)(k:Ns w B m d Q)(hb:w.cell? ⟨b,0,none⟩=some (.slice B m d)):
 Calls Tryz.prog 151 #[.slice A n c,.pointer (some ⟨b,0,none⟩)] w λe w'=>e = .returned (.bool (decide (zx P Q=0)))/\Below w.heap.size w w':=by
 have E:=O (rk A B n m c d P Q w h.len k.len h.max k.max h.at_ k.at_);clear h k;go_enter Tryz.func151,Tryz.ntmps151;go_wp2_with fail;refine(E.o).mono ?_;rintro e w1 ⟨rfl,b1⟩;go_wp2_with fail;go_ret;exact⟨rfl,b1⟩
def gl(b:Bool)(w:World)(e:Ending)(w':World):Prop:=∃i:Int,e = .returned (.int .i64 i)/\decide (0<=i)=b/\Below w.heap.size w w'
theorem mQ{V:List Sl}{p:List Nd->Bool}{k:Nat}(h:k<V.length):(V.drop k).any (λr=>p r.P)=(p V[k].P ||(V.drop (k+1)).any λr=>p r.P):=by
 rw [List.drop_eq_getElem_cons h];rfl
theorem DX(A:Option Addr)(n c:Nat)(V:List Sl)(p:List Nd->Bool)(b:Nat)(w:World)(hn:n=V.length)(hm:n<=maxLen)(hV:jD w A V)
 (C:Hid (∀(r:Sl) (w':World),Below w.heap.size w w'->Ns w' r.A r.n r.c r.P->Calls Tryz.prog 151 #[.slice r.A r.n r.c,.pointer (some ⟨b,0,none⟩)] w' λe w''=>e = .returned (.bool (p r.P))/\Below w'.heap.size w' w'')):
 Calls Tryz.prog 153 #[.slice A n c,(.func (.func 151) #[] #[.pointer (some ⟨b,0,none⟩)])] w (gl (V.any λr=>p r.P) w):=by
 unfold maxLen at hm;have HV:=O hV;have HN:=O hn;clear hV hn;go_enter Tryz.func153,Tryz.ntmps153;go_wp2_with fail;go_loopw [5,8] (λ_ i wr=>∃k:Nat,k<=n/\i = .int .i64 k/\Hid ((V.any λr=>p r.P)=(V.drop k).any λr=>p r.P)/\Hid (Below w.heap.size w wr)) (λ_ i _=>n-(intOf i).toNat)
 case atStart=>exact⟨0,Nat.zero_le _,rfl,rfl,Below.refl _ _⟩
 case round =>
  obtain⟨k,hk,rfl,hE,hB⟩:=hrel;by_cases hlt:k<n
  ·have h1:k<V.length:=by rw [<-HN.o];exact hlt
   obtain⟨a,rfl,q,hs⟩:=(HV.o.keep hB.o).at h1;have HA:=O (hE.o.trans (mQ h1));have Cr:=O (C.o V[k] wr hB.o hs);generalize V[k]=r at *;clear hE hs;rcases hp:p r.P with _|_
   ·rw [hp] at Cr HA;clear hp;go_wp2_with fail;refine(Cr.o).mono ?_;rintro e w1 ⟨rfl,b1⟩;go_wp2_with fail;go_roundw
    case rel=>exact⟨k+1,by omega,by go_num,HA,bh hB b1⟩
    case measure=>simp [intOf];omega
   ·rw [hp] at Cr HA;clear hp;go_wp2_with fail;refine(Cr.o).mono ?_;rintro e w1 ⟨rfl,b1⟩;go_wp2_with fail;go_ret;exact⟨_,rfl,by rw [HA.o];simp,(bh hB b1).o⟩
  ·have HA:=O (hE.o.trans (by rw [List.drop_of_length_le (by rw [<-HN.o];omega)];rfl:_=false));clear hE;go_wp2_with fail;go_ret;exact⟨_,rfl,by rw [HA.o];rfl,hB.o⟩
theorem s8(A:Option Addr)(n c:Nat)(V:List Sl)(p:List Nd->Bool)(b:Nat)(w:World)(hn:n=V.length)(hm:n<=maxLen)(hV:jD w A V)
 (C:Hid (∀(r:Sl) (w':World),Below w.heap.size w w'->Ns w' r.A r.n r.c r.P->Calls Tryz.prog 151 #[.slice r.A r.n r.c,.pointer (some ⟨b,0,none⟩)] w' λe w''=>e = .returned (.bool (p r.P))/\Below w'.heap.size w' w'')):
 Calls Tryz.prog 130 #[.slice A n c,(.func (.func 151) #[] #[.pointer (some ⟨b,0,none⟩)])] w λe w'=>e = .returned (.bool (V.any λr=>p r.P))/\Below w.heap.size w w':=by
 have I:=O (DX A n c V p b w hn hm hV C);unfold gl at I;clear hn hV C;go_enter Tryz.func130,Tryz.ntmps130;go_wp2_with fail;refine(I.o).mono ?_;rintro e w1 ⟨i,rfl,hi,b1⟩;have HI:=O hi;clear hi;go_wp2_with fail;go_ret;exact⟨zC HI.o,b1⟩
theorem any_map(V:List Sl)(Q:List Nd):(V.any λr=>decide (zx r.P Q=0))=ie (V.map Sl.P) Q:=by
 unfold ie;rw [List.any_map];rfl
theorem rG(A B:Option Addr)(n m c d:Nat)(V:List Sl)(Q:List Nd)(w:World)(hn:n=V.length)(hm:n<=maxLen)(hV:jD w A V)(k:Ns w B m d Q):
 Calls Tryz.prog 127 #[.slice A n c,.slice B m d] w λe w'=>e = .returned (.bool (ie (V.map Sl.P) Q))/\Below w.heap.size w w':=by
 have K:=O (s8 A n c V (λP=>decide (zx P Q=0)) w.heap.size (w.alloc (.cells #[.slice B m d] 30)) hn hm (hV.keep (za w _))
  (O λr w' hb hr=>Bz r.A B r.n m r.c d w.heap.size r.P Q w' hr ((k.keep (za w _)).keep hb) (zb hb (by simp))))
 rw [any_map] at K;clear hn hV k;go_enter Tryz.func127,Tryz.ntmps127;go_wp2_with fail;refine(K.o).mono ?_;rintro e w1 ⟨rfl,b1⟩;go_wp2_with fail;go_ret;exact⟨rfl,jj b1⟩
theorem yb(A:Option Addr)(n c:Nat)(V:List Sl)(p:List Nd->Bool)(A0:Option Addr)(n0 c0:Nat)(w:World)(hn:n=V.length)(hm:n<=maxLen)(hV:jD w A V)
 (C:Hid (∀(r:Sl) (w':World),Below w.heap.size w w'->Ns w' r.A r.n r.c r.P->Calls Tryz.prog 127 #[.slice A0 n0 c0,.slice r.A r.n r.c] w' λe w''=>e = .returned (.bool (p r.P))/\Below w'.heap.size w' w'')):
 Calls Tryz.prog 153 #[.slice A n c,(.func (.func 127) #[.slice A0 n0 c0] #[])] w (gl (V.any λr=>p r.P) w):=by
 unfold maxLen at hm;have HV:=O hV;have HN:=O hn;clear hV hn;go_enter Tryz.func153,Tryz.ntmps153;go_wp2_with fail;go_loopw [5,8] (λ_ i wr=>∃k:Nat,k<=n/\i = .int .i64 k/\Hid ((V.any λr=>p r.P)=(V.drop k).any λr=>p r.P)/\Hid (Below w.heap.size w wr)) (λ_ i _=>n-(intOf i).toNat)
 case atStart=>exact⟨0,Nat.zero_le _,rfl,rfl,Below.refl _ _⟩
 case round =>
  obtain⟨k,hk,rfl,hE,hB⟩:=hrel;by_cases hlt:k<n
  ·have h1:k<V.length:=by rw [<-HN.o];exact hlt
   obtain⟨a,rfl,q,hs⟩:=(HV.o.keep hB.o).at h1;have HA:=O (hE.o.trans (mQ h1));have Cr:=O (C.o V[k] wr hB.o hs);generalize V[k]=r at *;clear hE hs;rcases hp:p r.P with _|_
   ·rw [hp] at Cr HA;clear hp;go_wp2_with fail;refine(Cr.o).mono ?_;rintro e w1 ⟨rfl,b1⟩;go_wp2_with fail;go_roundw
    case rel=>exact⟨k+1,by omega,by go_num,HA,bh hB b1⟩
    case measure=>simp [intOf];omega
   ·rw [hp] at Cr HA;clear hp;go_wp2_with fail;refine(Cr.o).mono ?_;rintro e w1 ⟨rfl,b1⟩;go_wp2_with fail;go_ret;exact⟨_,rfl,by rw [HA.o];simp,(bh hB b1).o⟩
  ·have HA:=O (hE.o.trans (by rw [List.drop_of_length_le (by rw [<-HN.o];omega)];rfl:_=false));clear hE;go_wp2_with fail;go_ret;exact⟨_,rfl,by rw [HA.o];rfl,hB.o⟩
theorem rl(A:Option Addr)(n c:Nat)(V:List Sl)(p:List Nd->Bool)(A0:Option Addr)(n0 c0:Nat)(w:World)(hn:n=V.length)(hm:n<=maxLen)(hV:jD w A V)
 (C:Hid (∀(r:Sl) (w':World),Below w.heap.size w w'->Ns w' r.A r.n r.c r.P->Calls Tryz.prog 127 #[.slice A0 n0 c0,.slice r.A r.n r.c] w' λe w''=>e = .returned (.bool (p r.P))/\Below w'.heap.size w' w'')):
 Calls Tryz.prog 130 #[.slice A n c,(.func (.func 127) #[.slice A0 n0 c0] #[])] w λe w'=>e = .returned (.bool (V.any λr=>p r.P))/\Below w.heap.size w w':=by
 have I:=O (yb A n c V p A0 n0 c0 w hn hm hV C);unfold gl at I;clear hn hV C;go_enter Tryz.func130,Tryz.ntmps130;go_wp2_with fail;refine(I.o).mono ?_;rintro e w1 ⟨i,rfl,hi,b1⟩;have HI:=O hi;clear hi;go_wp2_with fail;go_ret;exact⟨zC HI.o,b1⟩
theorem Df(A:Option Addr)(n c:Nat)(V:List Sl)(p:List Nd->Bool)(A0:Option Addr)(n0 c0:Nat)(w:World)(hn:n=V.length)(hm:n<=100000)(hV:jD w A V)
 (C:Hid (∀(r:Sl) (w':World),Below w.heap.size w w'->Ns w' r.A r.n r.c r.P->Calls Tryz.prog 127 #[.slice A0 n0 c0,.slice r.A r.n r.c] w' λe w''=>e = .returned (.bool (p r.P))/\Below w'.heap.size w' w'')):
 Calls Tryz.prog 129 #[.slice A n c,(.func (.func 127) #[.slice A0 n0 c0] #[])] w λe w'=>∃v,e = .returned v/\zK w' w.heap.size v (V.filter λr=>p r.P)/\Below w.heap.size w w':=by
 obtain⟨i0,hi,hz0,hz1,hz2⟩:=info_parts kE;have HV:=O hV;have HN:=O hn;clear hV hn;go_enter Tryz.func129,Tryz.ntmps129;go_wp2_with fail;go_loopw [5,7,10] (λv _ i wr=>∃(k:Nat) (U:List Sl),k<=n/\i = .int .i64 k/\U.length<=k/\Hid ((V.filter λr=>p r.P)=U ++((V.drop k).filter λr=>p r.P))/\Hid (zK wr w.heap.size v U)/\Hid (Below w.heap.size w wr)) (λ_ _ i _=>n-(intOf i).toNat)
 case atStart=>exact⟨0,[],Nat.zero_le _,rfl,Nat.le_refl _,rfl,zK.nil _ _,Below.refl _ _⟩
 case round =>
  obtain⟨k,U,hk,rfl,hU,hE,hO,hB⟩:=hrel;by_cases hlt:k<n
  ·have h1:k<V.length:=by rw [<-HN.o];exact hlt
   obtain⟨a,rfl,q,hs⟩:=(HV.o.keep hB.o).at h1;obtain⟨-,-,-,hs0⟩:=HV.o.at h1;have HS0:=O hs0;have Cr:=O (C.o V[k] wr hB.o hs);have HA:=O (hE.o.trans (by rw [List.drop_eq_getElem_cons h1,List.filter_cons]:_=U ++(if p V[k].P=true then V[k] ::(V.drop (k+1)).filter (λr=>p r.P) else(V.drop (k+1)).filter λr=>p r.P)));generalize V[k]=r at *;clear hE hs hs0;rcases hp:p r.P with _|_
   ·rw [hp] at Cr HA;rw [if_neg (by simp)] at HA;clear hp;go_wp2_with fail;refine(Cr.o).mono ?_;rintro e w1 ⟨rfl,b1⟩;go_wp2_with fail;go_roundw
    case rel=>exact⟨k+1,U,by omega,by go_num,by omega,HA,O (hO.o.keep b1),bh hB b1⟩
    case measure=>simp [intOf];omega
   ·rw [hp] at Cr HA;rw [if_pos rfl] at HA;clear hp;go_wp2_with fail;refine(Cr.o).mono ?_;rintro e w1 ⟨rfl,b1⟩;have B1:=bh hB b1;have O1:=O (hO.o.keep b1);have N1:=O (HS0.o.keep B1.o);have A1:=O (show bE r u5.ownBlock by
     intro h0 a' ea q'
     have:=jb O1.o.own a'.block q'
     have:=HS0.o.at_.lt h0 a' ea
     omega)
    have hsz1:=B1.o.size;clear b1 hO hB q;go_wp2_with (at_builtin;refine wpList_append_own_at _ rfl _ _ 197 rfl w.heap.size 30 i0 _ 1 24 Tryz.underlying197 hi hz0 hz1 hz2 rfl (by decide) _ U.length (U.map Sl.v) rfl (O1.o.own.alloc _) ⟨_,0,none⟩ 1 1 [.slice r.A r.n r.c] rfl rfl (cell_one_new _ _ _) (by intro u hu;simp only [List.mem_cons,List.not_mem_nil,or_false] at hu;subst hu;rfl) ?c1 ?c2 ?c3 ?_)
    case c1=>unfold maxLen;omega
    case c2=>omega
    case c3=>simp;omega
    intro v1 w2 hown hgrow _ hat;have B2:=O ((B1.o.alloc B1.o.size _).grown hgrow (by simp;omega) (λg hg=>by have:=jb O1.o.own g hg;omega));have O2:=O (O1.o.snoc (r:=r) N1.o A1.o hown hgrow (by simpa using hat));have IP:=O (HA.o.trans (show _=(U ++ [r])++((V.drop (k+1)).filter λr=>p r.P) by simp));have hl2:(U ++ [r]).length<=k+1:=by simp;omega
    clear hown hgrow hat O1 N1 A1 HA B1;go_wp2_with fail;go_roundw
    case rel=>exact⟨k+1,U ++ [r],by omega,by go_num,hl2,IP,O2,B2⟩
    case measure=>simp [intOf];omega
  ·have HA:=O (hE.o.trans (by rw [List.drop_of_length_le (by rw [<-HN.o];omega)];simp:_=U));clear hE;go_wp2_with fail;go_ret;exact⟨_,rfl,by rw [HA.o];exact hO.o,hB.o⟩
end Go.Proofs.YthidiimbeaabhaaGreatDoor
namespace Go.Wk
def px(P Q:List Nd):Int:=if zg P=5/\zg Q=5 then 0 else 2
def jQ(P Q:List Nd):Int:=or2 (zc P) (or2 (zc Q) (px P Q))
theorem ia{P Q:List Nd}:jQ P Q=0↔zc P=0/\zc Q=0/\zg P=5/\zg Q=5:=by
 unfold jQ or2 px;by_cases h1:zc P=0
 ·rw [if_pos h1];by_cases h2:zc Q=0
  ·rw [if_pos h2];by_cases h3:zg P=5/\zg Q=5
   ·rw [if_pos h3];exact⟨λ_=>⟨h1,h2,h3.1,h3.2⟩,λ_=>rfl⟩
   ·rw [if_neg h3];exact⟨λh=>by omega,λh=>absurd ⟨h.2.2.1,h.2.2.2⟩ h3⟩
  ·rw [if_neg h2];exact⟨λh=>absurd h h2,λh=>absurd h.2.1 h2⟩
 ·rw [if_neg h1];exact⟨λh=>absurd h h1,λh=>absurd h.1 h1⟩
theorem p'{P:List Nd}(h:zc P=0):(zg P=5/\cy P=0)\/(zg P≠5/\cy P=0)\/(zg P≠5/\cy P=2):=by
 unfold cy;rw [if_pos h];by_cases h5:zg P=5
 ·exact .inl ⟨h5,if_pos (.inl h5)⟩
 ·by_cases h6:zg P=6
  ·exact .inr (.inl ⟨h5,if_pos (.inr h6)⟩)
  ·exact .inr (.inr ⟨h5,if_neg (by omega)⟩)
end Go.Wk
namespace Go.Proofs.YthidiimbeaabhaaGreatDoor
open Go.RowKit Go.Wk Go.Sort
def a7(w:World)(P Q:List Nd)(e:Ending)(w':World):Prop :=
 ∃(va vb:Value) (Va Vb:List Sl),e = .returned (.tuple #[va,vb,zM (jQ P Q)])/\zK w' w.heap.size va Va/\zK w' w.heap.size vb Vb/\(jQ P Q=0->Va.map Sl.P=zy P/\Vb.map Sl.P=zy Q)/\
  (va.ownBlock=none\/va.ownBlock≠vb.ownBlock)/\(∀r∈Vb,bE r va.ownBlock)/\Below w.heap.size w w'
theorem eB{w w':World}{P Q:List Nd}{v:Value}(hv:v=zM (jQ P Q))(h0:jQ P Q≠0)(hb:Below w.heap.size w w'):a7 w P Q (.returned (.tuple #[.slice none 0 0,.slice none 0 0,v])) w' :=
 ⟨_,_,[],[],by rw [hv],zK.nil _ _,zK.nil _ _,λh=>absurd h h0,.inl rfl,(by intro r hr;cases hr),hb⟩
theorem Av(A B:Option Addr)(n m c d:Nat)(P Q:List Nd)(w:World)(h:Ns w A n c P)(k:Ns w B m d Q)(h1:zc P≠0):
 Calls Tryz.prog 128 #[.slice A n c,.slice B m d] w (a7 w P Q):=by
 have i0:∀w,(Instr.index 250 (.agg #[.slice A n c,.slice B m d]) (.int .i64 0)).run Tryz.prog w = .ok (.slice A n c) w:=λ_=>by rfl
 have i1:∀w,(Instr.index 250 (.agg #[.slice A n c,.slice B m d]) (.int .i64 1)).run Tryz.prog w = .ok (.slice B m d) w:=λ_=>by rfl
 have K1:=O (λw' hb=>zI (h.keep (w':=w') hb));have K2:=O (λw' hb=>zI (k.keep (w':=w') hb));rw [zl h1] at K1;have HE:=O (show jQ P Q=zc P from zG h1 _);have HX:=O (zl h1);have H1:=O h1;clear h k h1 K2;go_enter Tryz.func128,Tryz.ntmps128;go_wp2_with fail;go_loopw [8,9,13] (λ_ _ i wr=>∃j:Nat,j<=0/\i = .int .i64 j/\Hid (Below w.heap.size w wr)) (λ_ _ i _=>2-(intOf i).toNat)
 case atStart=>exact⟨0,by omega,rfl,Below.refl _ _⟩
 case round =>
  obtain⟨j,hj,rfl,hB⟩:=hrel;obtain rfl:j=0:=by omega
  ·skip;go_wp2_with fail;refine(K1.o _ hB.o).mono ?_;rintro e w1 ⟨rfl,b1⟩;have B1:=bh hB b1;clear b1;go_wp2_with fail;go_ret3;exact eB (by rw [HE.o,HX.o];rfl) (by rw [HE.o];exact H1.o) B1.o
theorem x5(A B:Option Addr)(n m c d:Nat)(P Q:List Nd)(w:World)(h:Ns w A n c P)(k:Ns w B m d Q)(h1:zc P=0)(h2:zc Q≠0):
 Calls Tryz.prog 128 #[.slice A n c,.slice B m d] w (a7 w P Q):=by
 have i0:∀w,(Instr.index 250 (.agg #[.slice A n c,.slice B m d]) (.int .i64 0)).run Tryz.prog w = .ok (.slice A n c) w:=λ_=>by rfl
 have i1:∀w,(Instr.index 250 (.agg #[.slice A n c,.slice B m d]) (.int .i64 1)).run Tryz.prog w = .ok (.slice B m d) w:=λ_=>by rfl
 have K1:=O (λw' hb=>zI (h.keep (w':=w') hb));have K2:=O (λw' hb=>zI (k.keep (w':=w') hb));rw [h1,zf] at K1;rw [zl h2] at K2;have HE:=O (show jQ P Q=zc Q by unfold jQ;rw [h1,zn,zG h2]);have HX:=O (zl h2);have H2:=O h2;clear h k h1 h2;go_enter Tryz.func128,Tryz.ntmps128;go_wp2_with fail;go_loopw [8,9,13] (λ_ _ i wr=>∃j:Nat,j<=1/\i = .int .i64 j/\Hid (Below w.heap.size w wr)) (λ_ _ i _=>2-(intOf i).toNat)
 case atStart=>exact⟨0,by omega,rfl,Below.refl _ _⟩
 case round =>
  obtain⟨j,hj,rfl,hB⟩:=hrel;rcases (show j=0\/j=1 by omega) with rfl|rfl
  ·skip;go_wp2_with fail;refine(K1.o _ hB.o).mono ?_;rintro e w1 ⟨rfl,b1⟩;have B1:=bh hB b1;clear b1;go_wp2_with fail;go_roundw
   case rel=>exact⟨1,by omega,by go_num,B1⟩
   case measure=>simp [intOf]
  ·skip;go_wp2_with fail;refine(K2.o _ hB.o).mono ?_;rintro e w1 ⟨rfl,b1⟩;have B1:=bh hB b1;clear b1;go_wp2_with fail;go_ret3;exact eB (by rw [HE.o,HX.o];rfl) (by rw [HE.o];exact H2.o) B1.o
theorem Ce(A B:Option Addr)(n m c d:Nat)(P Q:List Nd)(w:World)(h:Ns w A n c P)(k:Ns w B m d Q)(h1:zc P=0)(h2:zc Q=0)(h5:zg P≠5)(hE:cy P=0):
 Calls Tryz.prog 128 #[.slice A n c,.slice B m d] w (a7 w P Q):=by
 have i0:∀w,(Instr.index 250 (.agg #[.slice A n c,.slice B m d]) (.int .i64 0)).run Tryz.prog w = .ok (.slice A n c) w:=λ_=>by rfl
 have i1:∀w,(Instr.index 250 (.agg #[.slice A n c,.slice B m d]) (.int .i64 1)).run Tryz.prog w = .ok (.slice B m d) w:=λ_=>by rfl
 have K1:=O (λw' hb=>zI (h.keep (w':=w') hb));have K2:=O (λw' hb=>zI (k.keep (w':=w') hb));rw [h1,zf] at K1;rw [h2,zf] at K2;have eH:=(zL.1 h1).2.pos;have l4:=(zL.1 h2).2.pos;obtain⟨a,rfl,D⟩:=h.at_.nd eH;obtain⟨b,rfl,E⟩:=k.at_.nd l4;rw [show a.add (0*4)=a from rfl] at D;rw [show b.add (0*4)=b from rfl] at E;have hn1:0<n:=by rw [h.len];exact eH
 have hn2:0<m:=by rw [k.len];exact l4
 have d0:=D.c0;have e0:=E.c0;rw [<-jx eH] at d0;rw [<-jx l4] at e0;have D0:=O (λw' (hb:Below w.heap.size w w')=>zb hb d0);have E0:=O (λw' (hb:Below w.heap.size w w')=>zb hb e0);have T1:=O (λw' hb=>j5 _ n c P w' (h.keep (w':=w') hb));have T2:=O (λw' hb=>j5 _ m d Q w' (k.keep (w':=w') hb));unfold bQ at T1;rw [hE,zf] at T1;skip;skip;have HE:=O (show jQ P Q=2 by unfold jQ px;rw [h1,h2,zn,zn,if_neg (λq=>h5 q.1)]);have g5:(zg P != 5)=true:=by rw [bne_iff_ne];exact h5
 skip;clear h k h1 h2 h5 hE eH l4 D E d0 e0 E0 T2;go_enter Tryz.func128,Tryz.ntmps128;go_wp2_with fail;go_loopw [8,9,13] (λ_ _ i wr=>∃j:Nat,j<=2/\i = .int .i64 j/\Hid (Below w.heap.size w wr)) (λ_ _ i _=>2-(intOf i).toNat)
 case atStart=>exact⟨0,by omega,rfl,Below.refl _ _⟩
 case round =>
  obtain⟨j,hj,rfl,hB⟩:=hrel;rcases (show j=0\/j=1\/j=2 by omega) with rfl|rfl|rfl
  ·skip;go_wp2_with fail;refine(K1.o _ hB.o).mono ?_;rintro e w1 ⟨rfl,b1⟩;have B1:=bh hB b1;clear b1;go_wp2_with fail;go_roundw
   case rel=>exact⟨1,by omega,by go_num,B1⟩
   case measure=>simp [intOf]
  ·skip;go_wp2_with fail;refine(K2.o _ hB.o).mono ?_;rintro e w1 ⟨rfl,b1⟩;have B1:=bh hB b1;clear b1;go_wp2_with fail;go_roundw
   case rel=>exact⟨2,by omega,by go_num,B1⟩
   case measure=>simp [intOf]
  ·go_wp2_with fail;refine(T1.o _ hB.o).mono ?_;rintro e w1 ⟨va,Va,rfl,uM,uH,GH,b1⟩;have d1:=D0.o _ (hB.o.trans (b1.mono hB.o.size));have B1:=bh hB b1;clear b1 hB uM uH GH;go_wp2_with fail;go_ret3;exact eB (by rw [HE.o];rfl) (by rw [HE.o];omega) B1.o
theorem Br(A B:Option Addr)(n m c d:Nat)(P Q:List Nd)(w:World)(h:Ns w A n c P)(k:Ns w B m d Q)(h1:zc P=0)(h2:zc Q=0)(h5:zg P≠5)(hE:cy P=2):
 Calls Tryz.prog 128 #[.slice A n c,.slice B m d] w (a7 w P Q):=by
 have i0:∀w,(Instr.index 250 (.agg #[.slice A n c,.slice B m d]) (.int .i64 0)).run Tryz.prog w = .ok (.slice A n c) w:=λ_=>by rfl
 have i1:∀w,(Instr.index 250 (.agg #[.slice A n c,.slice B m d]) (.int .i64 1)).run Tryz.prog w = .ok (.slice B m d) w:=λ_=>by rfl
 have K1:=O (λw' hb=>zI (h.keep (w':=w') hb));have K2:=O (λw' hb=>zI (k.keep (w':=w') hb));rw [h1,zf] at K1;rw [h2,zf] at K2;have eH:=(zL.1 h1).2.pos;have l4:=(zL.1 h2).2.pos;obtain⟨a,rfl,D⟩:=h.at_.nd eH;obtain⟨b,rfl,E⟩:=k.at_.nd l4;rw [show a.add (0*4)=a from rfl] at D;rw [show b.add (0*4)=b from rfl] at E;have hn1:0<n:=by rw [h.len];exact eH
 have hn2:0<m:=by rw [k.len];exact l4
 have d0:=D.c0;have e0:=E.c0;rw [<-jx eH] at d0;rw [<-jx l4] at e0;have D0:=O (λw' (hb:Below w.heap.size w w')=>zb hb d0);have E0:=O (λw' (hb:Below w.heap.size w w')=>zb hb e0);have T1:=O (λw' hb=>j5 _ n c P w' (h.keep (w':=w') hb));have T2:=O (λw' hb=>j5 _ m d Q w' (k.keep (w':=w') hb));unfold bQ at T1;rw [hE] at T1;have HT:zM 2 = .iface 80 (.int .i64 2):=rfl;rw [HT] at T1;have HE:=O (show jQ P Q=2 by unfold jQ px;rw [h1,h2,zn,zn,if_neg (λq=>h5 q.1)]);have g5:(zg P != 5)=true:=by rw [bne_iff_ne];exact h5
 clear HT;clear h k h1 h2 h5 hE eH l4 D E d0 e0 E0 T2;go_enter Tryz.func128,Tryz.ntmps128;go_wp2_with fail;go_loopw [8,9,13] (λ_ _ i wr=>∃j:Nat,j<=2/\i = .int .i64 j/\Hid (Below w.heap.size w wr)) (λ_ _ i _=>2-(intOf i).toNat)
 case atStart=>exact⟨0,by omega,rfl,Below.refl _ _⟩
 case round =>
  obtain⟨j,hj,rfl,hB⟩:=hrel;rcases (show j=0\/j=1\/j=2 by omega) with rfl|rfl|rfl
  ·skip;go_wp2_with fail;refine(K1.o _ hB.o).mono ?_;rintro e w1 ⟨rfl,b1⟩;have B1:=bh hB b1;clear b1;go_wp2_with fail;go_roundw
   case rel=>exact⟨1,by omega,by go_num,B1⟩
   case measure=>simp [intOf]
  ·skip;go_wp2_with fail;refine(K2.o _ hB.o).mono ?_;rintro e w1 ⟨rfl,b1⟩;have B1:=bh hB b1;clear b1;go_wp2_with fail;go_roundw
   case rel=>exact⟨2,by omega,by go_num,B1⟩
   case measure=>simp [intOf]
  ·go_wp2_with fail;refine(T1.o _ hB.o).mono ?_;rintro e w1 ⟨va,Va,rfl,uM,uH,GH,b1⟩;have d1:=D0.o _ (hB.o.trans (b1.mono hB.o.size));have B1:=bh hB b1;clear b1 hB uM uH GH;go_wp2_with fail;go_ret3;exact eB (by rw [HE.o];rfl) (by rw [HE.o];omega) B1.o
theorem DW(A B:Option Addr)(n m c d:Nat)(P Q:List Nd)(w:World)(h:Ns w A n c P)(k:Ns w B m d Q)(h1:zc P=0)(h2:zc Q=0)(h5:zg P=5)(AE:cy P=0)(h6:zg Q≠5)(hE:cy Q=0):
 Calls Tryz.prog 128 #[.slice A n c,.slice B m d] w (a7 w P Q):=by
 have i0:∀w,(Instr.index 250 (.agg #[.slice A n c,.slice B m d]) (.int .i64 0)).run Tryz.prog w = .ok (.slice A n c) w:=λ_=>by rfl
 have i1:∀w,(Instr.index 250 (.agg #[.slice A n c,.slice B m d]) (.int .i64 1)).run Tryz.prog w = .ok (.slice B m d) w:=λ_=>by rfl
 have K1:=O (λw' hb=>zI (h.keep (w':=w') hb));have K2:=O (λw' hb=>zI (k.keep (w':=w') hb));rw [h1,zf] at K1;rw [h2,zf] at K2;have eH:=(zL.1 h1).2.pos;have l4:=(zL.1 h2).2.pos;obtain⟨a,rfl,D⟩:=h.at_.nd eH;obtain⟨b,rfl,E⟩:=k.at_.nd l4;rw [show a.add (0*4)=a from rfl] at D;rw [show b.add (0*4)=b from rfl] at E;have hn1:0<n:=by rw [h.len];exact eH
 have hn2:0<m:=by rw [k.len];exact l4
 have d0:=D.c0;have e0:=E.c0;rw [<-jx eH] at d0;rw [<-jx l4] at e0;have D0:=O (λw' (hb:Below w.heap.size w w')=>zb hb d0);have E0:=O (λw' (hb:Below w.heap.size w w')=>zb hb e0);have T1:=O (λw' hb=>j5 _ n c P w' (h.keep (w':=w') hb));have T2:=O (λw' hb=>j5 _ m d Q w' (k.keep (w':=w') hb));unfold bQ at T1 T2;rw [AE,zf] at T1;rw [hE,zf] at T2;skip;skip;have HE:=O (show jQ P Q=2 by unfold jQ px;rw [h1,h2,zn,zn,if_neg (λq=>h6 q.2)]);have g5:(zg Q != 5)=true:=by rw [bne_iff_ne];exact h6
 rw [h5] at D0;skip;clear h k h1 h2 h5 h6 hE AE eH l4 D E d0 e0;go_enter Tryz.func128,Tryz.ntmps128;go_wp2_with fail;go_loopw [8,9,13] (λ_ _ i wr=>∃j:Nat,j<=2/\i = .int .i64 j/\Hid (Below w.heap.size w wr)) (λ_ _ i _=>2-(intOf i).toNat)
 case atStart=>exact⟨0,by omega,rfl,Below.refl _ _⟩
 case round =>
  obtain⟨j,hj,rfl,hB⟩:=hrel;rcases (show j=0\/j=1\/j=2 by omega) with rfl|rfl|rfl
  ·skip;go_wp2_with fail;refine(K1.o _ hB.o).mono ?_;rintro e w1 ⟨rfl,b1⟩;have B1:=bh hB b1;clear b1;go_wp2_with fail;go_roundw
   case rel=>exact⟨1,by omega,by go_num,B1⟩
   case measure=>simp [intOf]
  ·skip;go_wp2_with fail;refine(K2.o _ hB.o).mono ?_;rintro e w1 ⟨rfl,b1⟩;have B1:=bh hB b1;clear b1;go_wp2_with fail;go_roundw
   case rel=>exact⟨2,by omega,by go_num,B1⟩
   case measure=>simp [intOf]
  ·go_wp2_with fail;refine(T1.o _ hB.o).mono ?_;rintro e w1 ⟨va,Va,rfl,uM,uH,GH,b1⟩;have d1:=D0.o _ (hB.o.trans (b1.mono hB.o.size));have B1:=bh hB b1;have O1:=O uM;have L1:=O uH;have z1:=hB.o.size;clear b1 hB uM uH GH;go_wp2_with fail;refine(T2.o _ B1.o).mono ?_;rintro e w2 ⟨vb,Vb,rfl,AG,hL2,hF2,b2⟩;have e1:=E0.o _ (B1.o.trans (b2.mono B1.o.size));have B2:=bh B1 b2;clear b2 AG hL2 hF2 B1 O1 L1;go_wp2_with fail;go_ret3;exact eB (by rw [HE.o];rfl) (by rw [HE.o];omega) B2.o
theorem D9(A B:Option Addr)(n m c d:Nat)(P Q:List Nd)(w:World)(h:Ns w A n c P)(k:Ns w B m d Q)(h1:zc P=0)(h2:zc Q=0)(h5:zg P=5)(AE:cy P=0)(h6:zg Q≠5)(hE:cy Q=2):
 Calls Tryz.prog 128 #[.slice A n c,.slice B m d] w (a7 w P Q):=by
 have i0:∀w,(Instr.index 250 (.agg #[.slice A n c,.slice B m d]) (.int .i64 0)).run Tryz.prog w = .ok (.slice A n c) w:=λ_=>by rfl
 have i1:∀w,(Instr.index 250 (.agg #[.slice A n c,.slice B m d]) (.int .i64 1)).run Tryz.prog w = .ok (.slice B m d) w:=λ_=>by rfl
 have K1:=O (λw' hb=>zI (h.keep (w':=w') hb));have K2:=O (λw' hb=>zI (k.keep (w':=w') hb));rw [h1,zf] at K1;rw [h2,zf] at K2;have eH:=(zL.1 h1).2.pos;have l4:=(zL.1 h2).2.pos;obtain⟨a,rfl,D⟩:=h.at_.nd eH;obtain⟨b,rfl,E⟩:=k.at_.nd l4;rw [show a.add (0*4)=a from rfl] at D;rw [show b.add (0*4)=b from rfl] at E;have hn1:0<n:=by rw [h.len];exact eH
 have hn2:0<m:=by rw [k.len];exact l4
 have d0:=D.c0;have e0:=E.c0;rw [<-jx eH] at d0;rw [<-jx l4] at e0;have D0:=O (λw' (hb:Below w.heap.size w w')=>zb hb d0);have E0:=O (λw' (hb:Below w.heap.size w w')=>zb hb e0);have T1:=O (λw' hb=>j5 _ n c P w' (h.keep (w':=w') hb));have T2:=O (λw' hb=>j5 _ m d Q w' (k.keep (w':=w') hb));unfold bQ at T1 T2;rw [AE,zf] at T1;rw [hE] at T2;have HT:zM 2 = .iface 80 (.int .i64 2):=rfl;rw [HT] at T2;have HE:=O (show jQ P Q=2 by unfold jQ px;rw [h1,h2,zn,zn,if_neg (λq=>h6 q.2)]);have g5:(zg Q != 5)=true:=by rw [bne_iff_ne];exact h6
 rw [h5] at D0;clear HT;clear h k h1 h2 h5 h6 hE AE eH l4 D E d0 e0;go_enter Tryz.func128,Tryz.ntmps128;go_wp2_with fail;go_loopw [8,9,13] (λ_ _ i wr=>∃j:Nat,j<=2/\i = .int .i64 j/\Hid (Below w.heap.size w wr)) (λ_ _ i _=>2-(intOf i).toNat)
 case atStart=>exact⟨0,by omega,rfl,Below.refl _ _⟩
 case round =>
  obtain⟨j,hj,rfl,hB⟩:=hrel;rcases (show j=0\/j=1\/j=2 by omega) with rfl|rfl|rfl
  ·skip;go_wp2_with fail;refine(K1.o _ hB.o).mono ?_;rintro e w1 ⟨rfl,b1⟩;have B1:=bh hB b1;clear b1;go_wp2_with fail;go_roundw
   case rel=>exact⟨1,by omega,by go_num,B1⟩
   case measure=>simp [intOf]
  ·skip;go_wp2_with fail;refine(K2.o _ hB.o).mono ?_;rintro e w1 ⟨rfl,b1⟩;have B1:=bh hB b1;clear b1;go_wp2_with fail;go_roundw
   case rel=>exact⟨2,by omega,by go_num,B1⟩
   case measure=>simp [intOf]
  ·go_wp2_with fail;refine(T1.o _ hB.o).mono ?_;rintro e w1 ⟨va,Va,rfl,uM,uH,GH,b1⟩;have d1:=D0.o _ (hB.o.trans (b1.mono hB.o.size));have B1:=bh hB b1;have O1:=O uM;have L1:=O uH;have z1:=hB.o.size;clear b1 hB uM uH GH;go_wp2_with fail;refine(T2.o _ B1.o).mono ?_;rintro e w2 ⟨vb,Vb,rfl,AG,hL2,hF2,b2⟩;have e1:=E0.o _ (B1.o.trans (b2.mono B1.o.size));have B2:=bh B1 b2;clear b2 AG hL2 hF2 B1 O1 L1;go_wp2_with fail;go_ret3;exact eB (by rw [HE.o];rfl) (by rw [HE.o];omega) B2.o
theorem Ez(A B:Option Addr)(n m c d:Nat)(P Q:List Nd)(w:World)(h:Ns w A n c P)(k:Ns w B m d Q)(h1:zc P=0)(h2:zc Q=0)(h5:zg P=5)(h6:zg Q=5):
 Calls Tryz.prog 128 #[.slice A n c,.slice B m d] w (a7 w P Q):=by
 have i0:∀w,(Instr.index 250 (.agg #[.slice A n c,.slice B m d]) (.int .i64 0)).run Tryz.prog w = .ok (.slice A n c) w:=λ_=>by rfl
 have i1:∀w,(Instr.index 250 (.agg #[.slice A n c,.slice B m d]) (.int .i64 1)).run Tryz.prog w = .ok (.slice B m d) w:=λ_=>by rfl
 have K1:=O (λw' hb=>zI (h.keep (w':=w') hb));have K2:=O (λw' hb=>zI (k.keep (w':=w') hb));rw [h1,zf] at K1;rw [h2,zf] at K2;have eH:=(zL.1 h1).2.pos;have l4:=(zL.1 h2).2.pos;obtain⟨a,rfl,D⟩:=h.at_.nd eH;obtain⟨b,rfl,E⟩:=k.at_.nd l4;rw [show a.add (0*4)=a from rfl] at D;rw [show b.add (0*4)=b from rfl] at E;have hn1:0<n:=by rw [h.len];exact eH
 have hn2:0<m:=by rw [k.len];exact l4
 have d0:=D.c0;have e0:=E.c0;rw [<-jx eH] at d0;rw [<-jx l4] at e0;have D0:=O (λw' (hb:Below w.heap.size w w')=>zb hb d0);have E0:=O (λw' (hb:Below w.heap.size w w')=>zb hb e0);have T1:=O (λw' hb=>j5 _ n c P w' (h.keep (w':=w') hb));have T2:=O (λw' hb=>j5 _ m d Q w' (k.keep (w':=w') hb));have AE:cy P=0:=by unfold cy;rw [if_pos h1,if_pos (.inl h5)]
 have hE2:cy Q=0:=by unfold cy;rw [if_pos h2,if_pos (.inl h6)]
 have P1:=O (show fV P=zy P by unfold fV;rw [if_pos AE,if_pos h5]);have P2:=O (show fV Q=zy Q by unfold fV;rw [if_pos hE2,if_pos h6]);unfold bQ at T1 T2;rw [AE,zf] at T1;rw [hE2,zf] at T2;have HE:=O (show jQ P Q=0 from ia.2 ⟨h1,h2,h5,h6⟩);rw [h5] at D0;rw [h6] at E0;clear h k h1 h2 h5 h6 AE hE2 eH l4 D E d0 e0;go_enter Tryz.func128,Tryz.ntmps128;go_wp2_with fail;go_loopw [8,9,13] (λ_ _ i wr=>∃j:Nat,j<=2/\i = .int .i64 j/\Hid (Below w.heap.size w wr)) (λ_ _ i _=>2-(intOf i).toNat)
 case atStart=>exact⟨0,by omega,rfl,Below.refl _ _⟩
 case round =>
  obtain⟨j,hj,rfl,hB⟩:=hrel;rcases (show j=0\/j=1\/j=2 by omega) with rfl|rfl|rfl
  ·skip;go_wp2_with fail;refine(K1.o _ hB.o).mono ?_;rintro e w1 ⟨rfl,b1⟩;have B1:=bh hB b1;clear b1;go_wp2_with fail;go_roundw
   case rel=>exact⟨1,by omega,by go_num,B1⟩
   case measure=>simp [intOf]
  ·skip;go_wp2_with fail;refine(K2.o _ hB.o).mono ?_;rintro e w1 ⟨rfl,b1⟩;have B1:=bh hB b1;clear b1;go_wp2_with fail;go_roundw
   case rel=>exact⟨2,by omega,by go_num,B1⟩
   case measure=>simp [intOf]
  ·go_wp2_with fail;refine(T1.o _ hB.o).mono ?_;rintro e w1 ⟨va,Va,rfl,uM,uH,GH,b1⟩;have d1:=D0.o _ (hB.o.trans (b1.mono hB.o.size));have B1:=bh hB b1;have O1:=O uM;have L1:=O uH;have z1:=hB.o.size;clear b1 hB uM uH GH;go_wp2_with fail;refine(T2.o _ B1.o).mono ?_;rintro e w2 ⟨vb,Vb,rfl,AG,hL2,hF2,b2⟩;have e1:=E0.o _ (B1.o.trans (b2.mono B1.o.size));have B2:=bh B1 b2;have O2:=O (O1.o.keep b2);have O3:=O (AG.mono (B1.o.size));have L2:=O hL2;have AB:=O (show va.ownBlock=none\/va.ownBlock≠vb.ownBlock by
    rcases hv:va.ownBlock with _|g
    ·exact .inl rfl
    ·refine .inr (λq=>?_)
     have:=cT O1.o.own g hv
     have:=jb AG.own g q.symm
     omega)
   have AP:=O (show∀r∈Vb,bE r va.ownBlock from λr hr _ a' ea q=>by
    have:=cT O1.o.own a'.block q
    have:=hF2 r hr a' ea
    omega)
   have M1:=O (O2.o.mono z1);clear b2 AG hL2 hF2 O1 B1 O2;go_wp2_with fail;go_ret3;exact⟨va,vb,Va,Vb,by rw [HE.o];rfl,M1.o,O3.o,λ_=>⟨L1.o.trans P1.o,L2.o.trans P2.o⟩,AB.o,AP.o,B2.o⟩
theorem ub(A B:Option Addr)(n m c d:Nat)(P Q:List Nd)(w:World)(h:Ns w A n c P)(k:Ns w B m d Q):Calls Tryz.prog 128 #[.slice A n c,.slice B m d] w (a7 w P Q):=by
 by_cases h1:zc P=0
 ·by_cases h2:zc Q=0
  ·rcases p' h1 with ⟨a1,a2⟩|⟨a1,a2⟩|⟨a1,a2⟩
   ·rcases p' h2 with ⟨b1,b2⟩|⟨b1,b2⟩|⟨b1,b2⟩
    ·exact Ez A B n m c d P Q w h k h1 h2 a1 b1
    ·exact DW A B n m c d P Q w h k h1 h2 a1 a2 b1 b2
    ·exact D9 A B n m c d P Q w h k h1 h2 a1 a2 b1 b2
   ·exact Ce A B n m c d P Q w h k h1 h2 a1 a2
   ·exact Br A B n m c d P Q w h k h1 h2 a1 a2
  ·exact x5 A B n m c d P Q w h k h1 h2
 ·exact Av A B n m c d P Q w h k h1
end Go.Proofs.YthidiimbeaabhaaGreatDoor
