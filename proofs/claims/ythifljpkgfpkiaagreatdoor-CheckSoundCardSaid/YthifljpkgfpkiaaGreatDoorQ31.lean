/-
  ent.Check: what is wrong with a store. The reference's Ups and Over: those ..
-/
import Derived.Test.YthifljpkgfpkiaaGreatDoorQ12
import Derived.Test.YthifljpkgfpkiaaGreatDoorQ30
set_option maxRecDepth 100000
set_option maxHeartbeats 8000000
namespace Go.Proofs.YthifljpkgfpkiaaGreatDoor
open Go.RowKit Go.Wk Go.Maps
def aK:List En->List En->Int
 | _,[]=>0
 | M,x :: r=>if zN x.u=0 then(if mU M x.u=true then 6 else if iy x=0 then aK (M ++ [x]) r else iy x) else zN x.u
open Classical in
noncomputable def jU(E:List En):Int:=if 16<E.length then 4 else if aK [] E=0 then(if∃x∈E,Abv (cP E) x.u x.u then 7 else 0) else aK [] E
theorem Lf{L:List En}{k:Nat}(h:k<L.length):aK (L.take k) (L.drop k)=if zN L[k].u=0 then(if mU (L.take k) L[k].u=true then 6 else if iy L[k]=0 then aK (L.take (k+1)) (L.drop (k+1)) else iy L[k]) else zN L[k].u:=by
 rw [List.drop_eq_getElem_cons h,List.take_succ_eq_append_getElem h];rfl
theorem Pn{x:En}(h:iy x=0):x.ups.length<=6:=by
 unfold iy at h;split at h
 ·cases h
 ·omega
theorem sA:∀(r M:List En),aK M r=0->(∀x∈r,zN x.u=0/\iy x=0)/\(∀x∈r,∀y∈M,y.u≠x.u)/\(r.map En.u).Nodup
 | [],_,_=>⟨λx hx=>(nomatch hx),λx hx=>(nomatch hx),List.nodup_nil⟩
 | x :: r,M,h=>by
  unfold aK at h;by_cases h1:zN x.u=0
  ·rw [if_pos h1] at h;by_cases h2:mU M x.u=true
   ·rw [if_pos h2] at h;cases h
   ·rw [if_neg h2] at h;by_cases h3:iy x=0
    ·rw [if_pos h3] at h;obtain⟨a,b,c⟩:=sA r _ h;refine⟨λy hy=>?_,λy hy z hz=>?_,?_⟩
     ·rcases List.mem_cons.1 hy with rfl|hy
      ·exact⟨h1,h3⟩
      ·exact a y hy
     ·rcases List.mem_cons.1 hy with rfl|hy
      ·exact λe=>h2 (Ec.2 ⟨z,hz,e⟩)
      ·exact b y hy z (List.mem_append_left _ hz)
     ·rw [List.map_cons,List.nodup_cons];refine⟨λhm=>?_,c⟩;obtain⟨y,hy,e⟩:=List.mem_map.1 hm;exact b y hy x (by simp) e.symm
    ·rw [if_neg h3] at h;exact absurd h h3
  ·rw [if_neg h1] at h;exact absurd h h1
theorem nJ:∀(E:List En),(∀x∈E,iy x=0)->(fg E).length<=6*E.length
 | [],_=>Nat.le_refl _
 | x :: r,h=>by
  have h1:=nJ r (λy hy=>h y (by simp [hy]));have h2:=Pn (h x (by simp));unfold fg at h1 ⊢;rw [List.flatMap_cons,List.length_append,List.length_cons];omega
theorem Fq(L:List (Ud × Value))(kl:Lit):has (ew L) kl=true↔∃x∈L,kl=fA x.1:=by
 refine im (C:=λL=>has (ew L) kl=true↔∃x∈L,kl=fA x.1) ?_ (λL p ih=>?_) L
 ·exact⟨λh=>absurd h (by simp [ew,has]),λ⟨x,hx,_⟩=>by cases hx⟩
 ·rw [iU];by_cases h:kl=fA p.1
  ·subst h;rw [has_put_same (vN L) (DK _)];exact⟨λ_=>⟨p,by simp,rfl⟩,λ_=>rfl⟩
  ·rw [has_put_other h,ih];constructor
   ·rintro ⟨x,hx,e⟩;exact⟨x,by simp [hx],e⟩
   ·rintro ⟨x,hx,e⟩;rcases List.mem_append.1 hx with hx|hx
    ·exact⟨x,hx,e⟩
    ·simp only [List.mem_cons,List.not_mem_nil,or_false] at hx;subst hx;exact absurd e h
structure GQ(w wr:World)(E:List En)(B n r:Nat)(left:Lit->Bool)(cnt:Nat):Prop where
 rg:wr.ranges Tryz.prog 28 aT B r n (ew (cd E)) left cnt
 has:∀kl,left kl=true->∃x∈E,kl=fA x.u
 seen:∀x∈E,left (fA x.u)=false->¬Abv (cP E) x.u x.u
 below:Below w.heap.size w wr
theorem GQ.start{w wr:World}{E:List En}{B n r cnt:Nat}(h:wr.ranges Tryz.prog 28 aT B r n (ew (cd E)) (Maps.has (ew (cd E))) cnt)(hb:Below w.heap.size w wr):GQ w wr E B n r (Maps.has (ew (cd E))) cnt :=
 {rg:=h
  has:=λkl hk=>by
   obtain⟨y,hy,e⟩:=(Fq _ _).1 hk
   obtain⟨x,hx,rfl⟩:=List.mem_map.1 hy
   exact⟨x,hx,e⟩
  seen:=λx hx hf=>by
   have:Maps.has (ew (cd E)) (fA x.u)=true:=(Fq _ _).2 ⟨(x.u,x.v),List.mem_map.2 ⟨x,hx,rfl⟩,rfl⟩
   rw [this] at hf;cases hf
  below:=hb }
theorem GQ.step{w wr w':World}{E:List En}{B n r cnt cnt':Nat}{left:Lit->Bool}(h:GQ w wr E B n r left cnt)(de:∀x∈E,UOk x.u){y:En}(hy:y∈E)(hno:¬Abv (cP E) y.u y.u)
 (hr:w'.ranges Tryz.prog 28 aT B r n (ew (cd E)) (λz=>left z && !z.sameKey (fA y.u)) cnt') (hb:Below w.heap.size w w'):GQ w w' E B n r (λz=>left z && !z.sameKey (fA y.u)) cnt' :=
 ⟨hr,λkl hk=>h.has kl (by
  have:(left kl && !kl.sameKey (fA y.u))=true:=hk
  rw [Bool.and_eq_true] at this
  exact this.1),λx hx hf=>by
  by_cases h1:left (fA x.u)=true
  ·have hf':(left (fA x.u)&& !(fA x.u).sameKey (fA y.u))=false:=hf
   rw [h1,Bool.true_and] at hf'
   have h2:(fA x.u).sameKey (fA y.u)=true:=by simpa using hf'
   have e:=C0 (de x hx) (de y hy) (WideAt.sameKey_eq h2)
   rw [e];exact hno
  ·exact h.seen x hx (by simpa using h1),hb⟩
theorem wC{w:World}{a:Addr}{v:Value}(h:w.cell? a=some v):a.block<w.heap.size:=by
 rcases Nat.lt_or_ge a.block w.heap.size with h1|h1
 ·exact h1
 ·have:w.heap[a.block]?=none:=Array.getElem?_eq_none h1;simp [World.cell?,this] at h
theorem Es.enok{w:World}{A:Option Addr}{n c:Nat}{E:List En}(h:Es w A n c E):∀x∈E,Bw w x:=λx hx=>by
 obtain⟨k,hk,rfl⟩:=List.getElem_of_mem hx;obtain⟨_,_,_,_,_,_,h6⟩:=h.at_ k _ (List.getElem?_eq_getElem hk);exact h6
theorem Es.store{w w':World}{A:Option Addr}{n c bs bm:Nat}{E:List En}(h:Es w A n c E)(hb:Below w.heap.size w w')(hm:w'.ownsMap Tryz.prog 28 aT bs E.length (ew (cd E)))(hne:bs≠bm)(hs:w.heap.size<=bm):ky w' bs bm E :=
 ⟨hm,hne,λx hx=>((h.keep hb).enok x hx).us,λx hx hp a ha e=>by
  obtain⟨a',e',h1,_⟩:=(h.enok x hx).us.at_ 0 _ (List.getElem?_eq_getElem hp)
  rw [ha] at e'
  injection e' with e'
  injection e with e
  have:=wC h1
  rw [ax,<-e',<-e] at this
  omega⟩
theorem mq(A:Option Addr)(n c:Nat)(E:List En)(w:World)(h:Es w A n c E):
 Calls Tryz.prog 14 #[.slice A n c] w λe w'=>e = .returned (je (jU E))/\Below w.heap.size w w':=by
 have hlen:=h.len;by_cases h16:16<n
 ·have HE:=O (show jU E=4 by unfold jU;rw [if_pos (by omega)]);rw [HE.o];clear hlen h;go_enter Tryz.func14,Tryz.ntmps14;go_wp2_with fail;go_ret;exact⟨rfl,Below.refl _ _⟩
 ·have HE:=O (show jU E=_ by unfold jU;rw [if_neg (by omega)]);generalize jU E=SF at *;have KW:=O (λ(u:Ud) (hu:UOk u) w=>fU u.1 u.2 w hu.1 hu.2);have HH:=O h;have Ra:=O h.uok;have Rc:=h.cap;have HL:=O hlen;have hd:decide ((16:Int)<(n:Int))=false:=decide_eq_false (by omega);clear hlen h;go_enter Tryz.func14,Tryz.ntmps14;go_wp2_with fail;go_loopw [3,4,5,6,7,17] (λ_ _ _ _ _ i wr=>∃k:Nat,k<=n/\i = .int .i64 k/\Hid (aK [] E=aK (E.take k) (E.drop k))/\Hid (Below w.heap.size w wr)) (λ_ _ _ _ _ i _=>n-(intOf i).toNat)
  case atStart=>exact⟨0,Nat.zero_le _,rfl,rfl,O (Below.refl _ _)⟩
  case round =>
   obtain⟨k,hk,rfl,hF,hB⟩:=hrel;by_cases hlt:k<n
   ·have db:k<E.length:=by rw [<-HL.o];exact hlt
    have HS:=O (Lf db);obtain⟨a,rfl,q0,q1,q2,q3,-⟩:=(HH.o.at_.keep hB.o) k _ (List.getElem?_eq_getElem db);obtain⟨_,-,-,-,-,-,hxo⟩:=(HH.o.at_) k _ (List.getElem?_eq_getElem db);have MX:=O hxo;have HUK:=O (Ra.o _ (List.getElem_mem db));clear hxo;generalize E[k]=x at *;have K1:=O (KW.o x.u HUK.o);go_wp2_with fail;have B1:=bh hB (za wr (.cells #[.string x.u.1,.string x.u.2,.slice x.UA x.un x.uc,.slice x.NA x.nn x.nc] 56));have V1:=O (sF wr x 56);obtain⟨w1,si⟩:∃w1,wr.alloc (.cells #[.string x.u.1,.string x.u.2,.slice x.UA x.un x.uc,.slice x.NA x.nn x.nc] 56)=w1:=⟨_,rfl⟩
    rw [si] at V1 B1 ⊢;clear si hB q0 q1 q2 q3;refine(K1.o w1).mono ?_;rintro e w2 ⟨rfl,b2⟩;have B2:=bh B1 b2;have V2:=O (V1.o.keep b2);clear K1 b2 B1 V1;by_cases hu:zN (x.u.1,x.u.2)=0
    ·have MG:zN x.u=0:=hu;rw [hu,zj];rw [if_pos MG] at HS;clear hu MG;have K2:=O (pN (some a) k c (E.take k) x wr.heap.size w2 ((HH.o.keep B2.o).take hk) V2.o);go_wp2_with fail;refine K2.o.mono ?_;rintro e w3 ⟨rfl,b3⟩;have B3:=bh B2 b3;have V3:=O (V2.o.keep b3);clear K2 b3 B2 V2;rcases hh:mU (E.take k) x.u with _|_
     ·rw [hh,if_neg (by decide)] at HS;have K3:=O (RY x w3 (MX.o.keep B3.o));obtain⟨c0,c1,c2,c3⟩:=V3.o;unfold En.v at K3;clear hh;go_wp2_with fail;refine K3.o.mono ?_;rintro e w4 ⟨rfl,b4⟩;have B4:=bh B3 b4;clear K3 b4 B3 V3 c0 c1 c2 c3;by_cases h1:iy x=0
      ·rw [if_pos h1] at HS;have HF:=O (hF.o.trans HS.o);rw [h1,zj];clear h1 HS hF;go_wp2_with fail;go_roundw
       case rel=>exact⟨k+1,by omega,by go_num,HF,B4⟩
       case measure=>simp [intOf];omega
      ·rw [if_neg h1] at HS;have HF:=O (hF.o.trans HS.o);have ay:=O (show SF=iy x by rw [HE.o,HF.o,if_neg h1]);rw [zm h1];have BS:=O h1;clear h1 HS hF;generalize iy x=f at *;go_wp2_with fail;go_ret;exact⟨by rw [ay.o,zm BS.o];rfl,B4.o⟩
     ·rw [hh,if_pos rfl] at HS;have HF:=O (hF.o.trans HS.o);have ay:=O (show SF=6 by rw [HE.o,HF.o];rfl);clear hh HS hF;go_wp2_with fail;go_ret;exact⟨by rw [ay.o];rfl,B3.o⟩
    ·have MG:zN x.u≠0:=hu;rw [if_neg MG] at HS;have ay:=O (show SF=zN (x.u.1,x.u.2) by rw [HE.o,hF.o,HS.o,if_neg MG]);rw [zm hu];have BS:=O hu;clear hu MG HS hF;generalize zN (x.u.1,x.u.2)=f at *;go_wp2_with fail;go_ret;exact⟨by rw [ay.o,zm BS.o];rfl,B2.o⟩
   ·have HF:=O (show aK [] E=0 by rw [hF.o,List.drop_of_length_le (by rw [<-HL.o];omega)];rfl);have ZI:=O (show(∃x,x∈E/\Abv (cP E) x.u x.u)->SF=7 from λhx=>by rw [HE.o,if_pos HF.o,if_pos hx]);have Y9:=O (show¬(∃x,x∈E/\Abv (cP E) x.u x.u)->SF=0 from λhx=>by rw [HE.o,if_pos HF.o,if_neg hx]);clear HE;obtain⟨Ym,-,UP⟩:=sA E [] HF.o;have ZN:=O Ym;have T9:=O UP;have K1:=O (uG A n c E wr (HH.o.keep hB.o) (by omega));clear hF Ym UP KW;go_wp2_with fail;refine K1.o.mono ?_;rintro e w1 ⟨b,rfl,hwb,hO,b1⟩;have HO:=O hO;have B1:=bh hB b1;have WB:=O (show w.heap.size<=b from Nat.le_trans hB.o.size hwb);clear K1 hB hwb hO b1;go_wp2_with (at_range;refine wpList_range_own _ rfl _ 98 rfl 28 56 bc Tryz.underlying98 aT b n (ew (cd E)) rfl HO.o ?_;intro w2 hrg hg hs);go_frame;have R2:=O (GQ.start (w:=w) hrg (B1.o.grown hg B1.o.size (λg hg=>by cases hg)));have WR:=O (show w.heap.size<=w1.heap.size from B1.o.size);generalize w1.heap.size=r at *;clear hrg hg hs HO B1;generalize Maps.has (ew (cd E))=left0 at *;generalize Maps.size (ew (cd E))=cnt0 at *;go_loopw [9,10] (λ_ _ wr=>∃left cnt,Hid (GQ w wr E b n r left cnt)) (λ_ _ wr=>wr.rangeLeft b r)
    case atStart=>exact⟨_,_,R2⟩
    case round =>
     clear R2;obtain⟨left,cnt,hR⟩:=hrel;go_wp2_with (at_next;refine wpList_next_ranges _ rfl _ rfl 28 bc aT (λv:Value=>v) (λv:Value=>v) (λkey kl _=>⟨key,rfl⟩) (λv y _=>⟨v,rfl⟩) b r n (ew (cd E)) left cnt rfl hR.o.rg ?_ ?_)
     ·intro hc0 hl0;have ay:=O (Y9.o (λ⟨x,hx,h⟩=>hR.o.seen x hx (hl0 _) h));clear hc0 hl0;go_wp2_with fail;go_ret;exact⟨by rw [ay.o];rfl,hR.o.below⟩
     ·intro x v kl y yp w2 cnt' hkey hlk hv hat hrg db hgr hsz hen;obtain⟨e,he,rfl⟩:=hR.o.has kl hlk;have Z9:x=udV e.u:=bc.inj hkey (dN e.u (Ra.o e he));subst Z9;clear hkey hlk hv hat;unfold udV at hen;have R2:=O hrg;have B2:=O (hR.o.below.grown hgr hR.o.below.size (λg hg=>by cases hg;exact WR.o));have yy:=O db;have HE:=O he;clear hrg db hgr hsz he;have UN:=@run_makeMap Tryz.prog;have P3:=O (kM w2 (.string e.u.1) (.string e.u.2) 28);have B3:=bh B2 (za w2 (.cells #[.string e.u.1,.string e.u.2] 28));have R3:=O (R2.o.alloc (.cells #[.string e.u.1,.string e.u.2] 28));go_wp2_with fail;obtain⟨w3,hw3⟩:∃w3,w2.alloc (.cells #[.string e.u.1,.string e.u.2] 28)=w3:=⟨_,rfl⟩
      have hs3:w3.heap.size=w2.heap.size+1:=by rw [<-hw3];simp
      rw [hw3] at P3 B3 R3 ⊢;rw [<-hs3];have Zn:=O (show w2.heap.size≠w3.heap.size by omega);clear hw3 hs3 hen R2 B2;have P4:=O (P3.o.keep (za w3 (.map #[] 0)));have B4:=bh B3 (za w3 (.map #[] 0));have R4:=O (R3.o.alloc (.map #[] 0));have M4:=O (show k7 (w3.alloc (.map #[] 0)) w3.heap.size [] from World.ownsMap_made _ _ _ _);have HB:=O R3.o.owns.lt;have HR:=O R3.o.lt;have YA:=O B3.o.size;have S4:=O (HH.o.store B4.o (by rw [<-HL.o];exact R4.o.owns) (Nat.ne_of_lt HB.o) B3.o.size);generalize w3.alloc (.map #[] 0)=w4 at *;generalize w3.heap.size=bm at *;generalize w2.heap.size=bu at *;have BS:=Nat.le_trans (DC (fg E) []) (nJ E (λx hx=>(ZN.o x hx).2));have KA:=O (x9 E b bm T9.o Ra.o 100 w4 e.u [] (Ra.o e HE.o) (λx hx=>(nomatch hx)) (by have:=HL.o;omega) (by have:=HL.o;simp only [List.length_nil];omega) S4.o M4.o);unfold udV at KA;clear BS P3 B3 R3 M4 S4;refine KA.o.mono ?_;rintro e2 w5 ⟨rfl,M',hA,Rl,-,MS,yx⟩;have M5:=O MS;have R5:=O (R4.o.kept yx (by intro h;injection h with h;have:=HB.o;omega) (by intro h;injection h with h;have:=HR.o;omega));have c0:=yx.cell P4.o.c0 (by intro h;injection h with h;exact Zn.o h);have c1:=yx.cell P4.o.c1 (by intro h;injection h with h;exact Zn.o h);have B5:=O (B4.o.grown yx B4.o.size (λg hg=>by cases hg;exact YA.o));have HK:=O (dN e.u (Ra.o e HE.o));unfold udV at HK;have BU:=O (oW (wM M') e.u (Ra.o e HE.o) (.int .i64 0) (y8 Rl));rw [qD] at BU;have Ye:=O (Nw hA e.u);clear hA Rl MS yx KA R4 P4 B4;by_cases hp:e.u∈M'
      ·rw [if_pos (bE.2 hp)] at BU;have ay:=O (ZI.o ⟨e,HE.o,Ye.o.1 hp⟩);clear hp;go_wp2_with (at_lookup;refine am _ rfl _ _ 100 rfl 28 3 bc Tryz.underlying100 (iz _) bm M'.length _ rfl M5.o _ _ rfl HK.o _ BU.o ?_);go_wp2_with fail;go_ret;exact⟨by rw [ay.o];rfl,B5.o⟩
      ·rw [if_neg (λe=>hp (bE.1 e))] at BU;have HNA:=O (λh=>hp (Ye.o.2 h));clear hp;go_wp2_with (at_lookup;refine am _ rfl _ _ 100 rfl 28 3 bc Tryz.underlying100 (iz _) bm M'.length _ rfl M5.o _ _ rfl HK.o _ BU.o ?_);go_wp2_with fail;go_roundw
       case rel=>exact⟨_,_,O (hR.o.step Ra.o HE.o HNA.o R5.o B5.o)⟩
       case measure=>rw [R5.o.left_eq,hR.o.rg.left_eq];exact yy.o
end Go.Proofs.YthifljpkgfpkiaaGreatDoor
namespace Go.Proofs.YthifljpkgfpkiaaGreatDoor
open Go.RowKit Go.Wk
end Go.Proofs.YthifljpkgfpkiaaGreatDoor
namespace Go.Proofs.YthifljpkgfpkiaaGreatDoor
open Go.RowKit Go.Wk Go.Maps
def lG(K:List KD):List En->Int
 | []=>0
 | x :: r=>or2 (Gr K x.u x.ups x.P) (lG K r)
theorem Gb{K:List KD}{E:List En}{i:Nat}(h:i<E.length):lG K (E.drop i)=or2 (Gr K E[i].u E[i].ups E[i].P) (lG K (E.drop (i+1))):=by
 rw [List.drop_eq_getElem_cons h];rfl
theorem vD{K:List KD}:∀ {E:List En},lG K E=0↔∀x∈E,Gr K x.u x.ups x.P=0
 | []=>by simp [lG]
 | x :: r=>by
  rw [lG,zB,vD (E:=r)];simp
noncomputable def wQ(K:List KD)(L:List AD)(E:List En):Int:=or2 (bn K L) (or2 (jU E) (lG K E))
theorem Ly{K:List KD}{L:List AD}{E:List En}:wQ K L E=0↔bn K L=0/\jU E=0/\∀x∈E,Gr K x.u x.ups x.P=0:=by
 unfold wQ;rw [zB,zB,vD]
theorem gJ{E:List En}:jU E=0↔E.length<=16/\aK [] E=0/\¬∃x∈E,Abv (cP E) x.u x.u:=by
 unfold jU;constructor
 ·intro h;split at h
  ·cases h
  ·rename_i h1;split at h
   ·rename_i h2;split at h
    ·cases h
    ·rename_i h3;exact⟨by omega,h2,h3⟩
   ·rename_i h2;exact absurd h h2
 ·rintro ⟨h1,h2,h3⟩;rw [if_neg (by omega),if_pos h2,if_neg h3]
theorem Mo{x:En}(h:iy x=0):zh x.P=0/\zg x.P=6:=by
 unfold iy at h;split at h
 ·cases h
 ·split at h
  ·split at h
   ·rename_i h1;split at h
    ·rename_i h2;exact⟨h1,h2⟩
    ·cases h
   ·rename_i h1;exact absurd h h1
  ·rename_i h1;exact absurd h h1
theorem sy{E M:List En}(h:aK M E=0){x:En}(hx:x∈E):zh x.P=0/\zg x.P=6:=Mo ((sA E M h).1 x hx).2
end Go.Proofs.YthifljpkgfpkiaaGreatDoor
namespace Go.Proofs.YthifljpkgfpkiaaGreatDoor
open Go.RowKit Go.Wk Go.Sort
theorem wU{P:List Ud}{q:Nat}(h:q<P.length)(g:Ud->Bool)(h1:(P.take q).all g=true)(h2:g P[q]=true):(P.take (q+1)).all g=true:=by
 rw [List.take_succ_eq_append_getElem h,List.all_append,h1];simp [h2]
theorem SK{P:List Ud}{q:Nat}(h:q<P.length)(g:Ud->Bool)(h2:g P[q]=false):P.all g=false:=by
 rw [List.all_eq_false];exact⟨P[q],List.getElem_mem h,by rw [h2];simp⟩
theorem Br(s:Sc)(A:Option Addr)(n c:Nat)(E:List En)(w:World)(h:lK w s)(hE:Es w A n c E):
 Calls Tryz.prog 5 #[s.v,.slice A n c] w λe w'=>e = .returned (je (wQ s.k s.a E))/\Below w.heap.size w w':=by
 have V0:=O (lL w s 25);have B0:=O (za w (.cells #[.slice s.KA s.kn s.kc,.slice s.AA s.an s.ac] 25));have HV:=O (show s.v = .agg #[.slice s.KA s.kn s.kc,.slice s.AA s.an s.ac] from rfl);have C1:=O (λw' (hb:Below w.heap.size w w')=>kG s w' (h.keep hb));have C2:=O (λw' (hb:Below w.heap.size w w')=>mq A n c E w' (hE.keep hb));have C3:=O (λx w' (hb:Below w.heap.size w w')=>rG s x w' (h.keep hb));have CK:=O (λi (hi:i<s.K.length) w' (hb:Below w.heap.size w w')=>(let ⟨_,_,_,_,_,h⟩:=(h.keep hb).k.at_ i _ (List.getElem?_eq_getElem hi);h:D2 w' s.K[i]));have CE:=O (λi (hi:i<E.length) w' (hb:Below w.heap.size w w')=>(hE.keep hb).at_ i _ (List.getElem?_eq_getElem hi));have HL:=O hE.len;have Wl:=hE.max;unfold maxLen at Wl;rw [HV.o] at C1 C3 ⊢;have HR:=O (show wQ s.k s.a E=or2 (bn s.k s.a) (or2 (jU E) (lG s.k E)) from rfl);generalize wQ s.k s.a E=F at *;clear h hE;go_enter Tryz.func5,Tryz.ntmps5;go_wp2_with fail;refine(C1.o _ B0.o).mono ?_;rintro e w1 ⟨rfl,b1⟩;have B1:=bh B0 b1;have V1:=O (V0.o.keep b1);clear b1 B0 V0;by_cases g1:bn s.k s.a=0
 ·rw [g1,zu] at HR;rw [g1,zj];have Xe:=O (λi (hi:i<s.K.length)=>mr (vW _ _ (qx.1 g1).2.2.1 _ (List.mem_map.2 ⟨s.K[i],List.getElem_mem hi,rfl⟩)).1);clear g1;go_wp2_with fail;refine(C2.o _ B1.o).mono ?_;rintro e w2 ⟨rfl,b2⟩;have B2:=bh B1 b2;have V2:=O (V1.o.keep b2);clear b2 B1 V1;by_cases g2:jU E=0
  ·rw [g2,zu] at HR;rw [g2,zj];have cQ:=O (show∀i (hi:i<E.length),zh E[i].P=0 from λi hi=>(sy (gJ.1 g2).2.1 (List.getElem_mem hi)).1);clear g2 C1 C2;go_wp2_with fail;go_loopw [27] (λi wr=>∃k:Nat,i = .int .i64 k/\k<=n/\Hid (F=lG s.k (E.drop k))/\Hid (Below w.heap.size w wr)/\Hid (Vs wr w.heap.size s)) (λi _=>n-(intOf i).toNat)
   case atStart=>exact⟨0,rfl,Nat.zero_le _,HR,B2,V2⟩
   case round =>
    obtain⟨k,rfl,hk,hF,hB,hV⟩:=hrel;clear B2 V2 HR;by_cases hlt:k<n
    ·have eK:k<E.length:=by rw [<-HL.o];exact hlt
     have HS:=O (hF.o.trans (Gb eK));have CX:=O (λw' (hb:Below w.heap.size w w')=>CE.o k eK w' hb);have HXV:=O (cQ.o k eK);generalize E[k]=x at *;have Ca:=O (λw' (hb:Below w.heap.size w w')=>(let ⟨_,_,_,_,_,_,h⟩:=CX.o w' hb;h:Bw w' x));obtain⟨a,rfl,q0,q1,q2,q3,-⟩:=CX.o wr hB.o;clear hF;obtain⟨v0,v1⟩:=hV.o;have yy:=block_lt_of_cell v0;have BB:=za wr (.cells #[.string x.u.1,.string x.u.2,.slice x.UA x.un x.uc,.slice x.NA x.nn x.nc] 56);have B3:=bh hB BB;have V3:=O (hV.o.keep BB);have X3:=O (sF wr x 56);clear BB;go_wp2_with fail;refine(C3.o x.u.1 _ B3.o).mono ?_;rintro e w4 ⟨hc,b4⟩;have B4:=bh B3 b4;have V4:=O (V3.o.keep b4);have X4:=O (X3.o.keep b4);clear b4 hB hV q0 q1 q2 q3 v0 v1 B3 V3 X3 yy;generalize wr.heap.size=be at *;rcases hc with ⟨ha,rfl⟩|⟨i,hi,ha,rfl⟩
     ·have iY:=O (show F=3 by rw [HS.o];unfold Gr;rw [ha];rfl);clear ha HS;go_wp2_with fail;go_ret;exact⟨by rw [iY.o];rfl,(bh B4 (za _ _)).o⟩
     ·obtain⟨f,hkin⟩:=Xe.o i hi;have HKIN:=O hkin;have CD:=O (λw' (hb:Below w.heap.size w w')=>CK.o i hi w' hb);have wb:=O (show F=or2 (if(x.ups.all λp=>ai s.K[i].d.up p.1)&& gV s.K[i].d.P x.P then 0 else 2) (lG s.k (E.drop (k+1))) by rw [HS.o];unfold Gr;rw [ha]);generalize s.K[i]=d at *;clear ha hkin HS hi;have BB:=za w4 (.cells #[.string d.d.nm,.slice d.UA d.un d.uc,.slice d.NA d.nn d.nc] 58);have B5:=bh B4 BB;have V5:=O (V4.o.keep BB);have X5:=O (X4.o.keep BB);have D5:=O (O9 w4 d 58);obtain⟨x0,x1,x2,x3⟩:=X4.o;have yy:=block_lt_of_cell x0;clear BB;go_wp2_with fail;obtain⟨w5,XH⟩:∃w5,w4.alloc (.cells #[.string d.d.nm,.slice d.UA d.un d.uc,.slice d.NA d.nn d.nc] 58)=w5:=⟨_,rfl⟩
      rw [XH] at B5 V5 X5 D5 ⊢;clear XH B4 V4 X4 x0 x1 x2 x3 yy;generalize w4.heap.size=bk at *;go_loopw [45] (λp wr=>∃q:Nat,p = .int .i64 q/\q<=x.un/\Hid ((x.ups.take q).all (λp=>ai d.d.up p.1)=true)/\Hid (Below w.heap.size w wr)/\Hid (Vs wr w.heap.size s)/\Hid (Vr4 wr be x)/\Hid (Vk wr bk d)) (λp _=>x.un-(intOf p).toNat)
      case atStart=>exact⟨0,rfl,Nat.zero_le _,O rfl,B5,V5,X5,D5⟩
      case round =>
       obtain⟨q,rfl,hq,hA,hB,hV,hX,hD⟩:=hrel;clear B5 V5 X5 D5;have hx:=Ca.o wr hB.o;have hd:=CD.o wr hB.o;have hxm:=hx.us.max;unfold maxLen at hxm;obtain⟨x0,x1,x2,x3⟩:=hX.o;obtain⟨d0,d1,d2⟩:=hD.o;by_cases Wi:q<x.un
       ·have RF:q<x.ups.length:=by rw [<-hx.us.len];exact Wi
        obtain⟨ua,eu,r0,r1⟩:=hx.us.at_ q _ (List.getElem?_eq_getElem RF);rw [eu];have IR:=O (wU RF (λp=>ai d.d.up p.1) hA.o);have Rt:=O (SK RF (λp=>ai d.d.up p.1))
        try dsimp only at IR Rt
        generalize x.ups[q]=y at *;have BB:=za wr (.cells #[.string y.1,.string y.2] 28);have B6:=bh hB BB;have V6:=O (hV.o.keep BB);have X6:=O (hX.o.keep BB);have D6:=O (hD.o.keep BB);have yy:=block_lt_of_cell d0;clear BB;go_wp2_with fail;refine(cT _ _ _ _ y.1 _ (CD.o _ B6.o).us).mono ?_;rintro e w7 ⟨rfl,b7⟩;have B7:=bh B6 b7;have V7:=O (V6.o.keep b7);have X7:=O (X6.o.keep b7);have D7:=O (D6.o.keep b7);clear b7 B6 V6 X6 D6 hB hV hX hD x0 x1 x2 x3 d0 d1 d2 r0 r1 hx hd;generalize ai d.d.up y.1=g at *;cases g
        ·have iY:=O (show F=2 by rw [wb.o,Rt.o rfl];rfl);clear IR Rt wb;go_wp2_with fail;go_ret;exact⟨by rw [iY.o];rfl,B7.o⟩
        ·have HA:=O (IR.o rfl);clear IR Rt;go_wp2_with fail;go_roundw
         case rel=>exact⟨q+1,by go_num,Wi,HA,B7,V7,X7,D7⟩
         case measure=>simp [intOf];omega
       ·have IR:=O (show x.ups.all (λp=>ai d.d.up p.1)=true by
         have:=hA.o
         rwa [List.take_of_length_le (by rw [<-hx.us.len];omega)] at this)
        rw [IR.o,Bool.true_and] at wb;have e0:gz d.d.P x.P=0:=by unfold gz;rw [if_pos HKIN.o.zero];exact HXV.o
        clear hA IR;go_wp2_with fail;refine(hd.ns.kinds_Has hx.ns).mono ?_;rintro e w7 ⟨rfl,b7⟩;have B7:=bh hB b7;have V7:=O (hV.o.keep b7);rw [e0,zj];clear b7 hB hV hX hD x0 x1 x2 x3 d0 d1 d2 hx hd e0;generalize gV d.d.P x.P=g at *;cases g
        ·have iY:=O (show F=2 by rw [wb.o];rfl);clear wb;go_wp2_with fail;go_ret;exact⟨by rw [iY.o];rfl,B7.o⟩
        ·have HF:=O (show F=lG s.k (E.drop (k+1)) by rw [wb.o];rfl);clear wb;go_wp2_with fail;go_roundw
         case rel=>exact⟨k+1,by go_num,hlt,HF,B7,V7⟩
         case measure=>simp [intOf];omega
    ·have iY:=O (show F=0 by rw [hF.o,List.drop_eq_nil_of_le (by rw [<-HL.o];omega)];rfl);clear hF;go_wp2_with fail;go_ret;exact⟨by rw [iY.o];rfl,hB.o⟩
  ·rw [zR g2] at HR;have cQ:=O (zm g2);rw [cQ.o];generalize jU E=r at *;clear g2;go_wp2_with fail;go_ret;exact⟨by rw [HR.o,cQ.o];rfl,B2.o⟩
 ·rw [zR g1] at HR;have cQ:=O (zm g1);rw [cQ.o];generalize bn s.k s.a=r at *;clear g1;go_wp2_with fail;go_ret;exact⟨by rw [HR.o,cQ.o];rfl,B1.o⟩
theorem Vz(x:An)(t:ByteArray)(b:Nat)(w:World)(hv:w.cell? ⟨b,0,none⟩=some (.string t)):
 Calls Tryz.prog 46 #[.agg #[.string x.d.id,.slice x.WA x.wn x.wc,.slice x.TA x.tn x.tc,.slice x.NA x.nn x.nc],.pointer (some ⟨b,0,none⟩)] w λr w'=>r = .returned (.bool (decide (x.d.id=t)))/\Below w.heap.size w w':=by
 have B0:=O (za w (.cells #[.string x.d.id,.slice x.WA x.wn x.wc,.slice x.TA x.tn x.tc,.slice x.NA x.nn x.nc] 49));have c0:=zb B0.o hv;rw [JG];clear hv;generalize x.d.id=y at *;go_enter Tryz.func46,Tryz.ntmps46;go_wp2_with fail;go_ret;exact⟨rfl,B0.o⟩
theorem tR(s:Sc)(t:ByteArray)(b:Nat)(w:World)(h:lK w s)(hv:w.cell? ⟨b,0,none⟩=some (.string t)):
 Calls Tryz.prog 45 #[.slice s.AA s.an s.ac,.func (.func 46) #[] #[.pointer (some ⟨b,0,none⟩)]] w (GT w s t):=by
 have eg:∀args w,(callFunc 46 args).run Tryz.prog w = .ok (.enter 46 args) w:=enters_of Tryz.func46 (by kernel_rfl) rfl;have K:=O (λx w' hb=>Vz x t b w' (zb (w':=w') hb hv));have HL:=O h.a.len;have HM:=h.a.max;unfold maxLen at HM;have HA:=O h.a;clear h hv;go_enter Tryz.func45,Tryz.ntmps45;go_wp2_with fail;go_loopw [5,8] (λ_ i wr=>∃k:Nat,k<=s.an/\i = .int .i64 k/\Hid (∀y∈s.L.take k,y.d.id≠t)/\Hid (Below w.heap.size w wr)) (λ_ i _=>s.an-(intOf i).toNat)
 case atStart=>exact⟨0,Nat.zero_le _,rfl,O (by intro y hy;simp at hy),O (Below.refl _ _)⟩
 case round =>
  obtain⟨k,hk,rfl,hN,hB⟩:=hrel;by_cases hlt:k<s.an
  ·have eK:k<s.L.length:=by rw [<-HL.o];exact hlt
   obtain⟨a,ea,q0,q1,q2,q3,-⟩:=(HA.o.keep hB.o).at_ k _ (List.getElem?_eq_getElem eK);rw [ea];have KX:=O (K.o s.L[k] wr hB.o);by_cases hs:s.L[k].d.id=t
   ·have HP:=O (λw' (hb:Below w.heap.size w w')=>(⟨.inr ⟨k,eK,by
     unfold fj Sc.a
     rw [List.find?_map]
     rw [ng (i:=k) eK (by simp [hs]) (λy hy=>by simpa using hN.o y hy)]
     rfl,rfl⟩,hb⟩:GT w s t (.returned (.int .i64 k)) w'))
    rw [decide_eq_true hs] at KX;generalize s.L[k]=x at *;clear hN hs;go_wp2_with (go_at_fn 46;refine KX.o.mono ?_;rintro e w1 ⟨rfl,b1⟩);have B1:=bh hB b1;clear q0 q1 q2 q3 hB b1 KX;go_wp2_with fail;go_ret;exact HP.o _ B1.o
   ·have se:=O (show∀y∈s.L.take (k+1),y.d.id≠t from λy hy=>by
     rw [List.take_succ_eq_append_getElem eK,List.mem_append] at hy
     rcases hy with hy|hy
     ·exact hN.o y hy
     ·simp only [List.mem_cons,List.not_mem_nil,or_false] at hy
      subst hy;exact hs)
    rw [decide_eq_false hs] at KX;generalize s.L[k]=x at *;clear hN hs;go_wp2_with (go_at_fn 46;refine KX.o.mono ?_;rintro e w1 ⟨rfl,b1⟩);have B1:=bh hB b1;clear q0 q1 q2 q3 hB b1 KX;go_wp2_with fail;go_roundw
    case rel=>exact⟨k+1,hlt,by go_num,se,B1⟩
    case measure=>simp [intOf];omega
  ·have HP:=O (show GT w s t (.returned (.int .i64 (-1))) wr from⟨.inl ⟨by
    unfold fj Sc.a
    rw [List.find?_eq_none]
    intro y hy
    obtain⟨z,hz,rfl⟩:=List.mem_map.1 hy
    simpa using hN.o z (by rw [List.take_of_length_le (by rw [<-HL.o];omega)];exact hz),rfl⟩,hB.o⟩)
   clear hN hB;go_wp2_with fail;go_ret;exact HP.o
def Nk(w:World)(s:Sc)(x:ByteArray)(e:Ending)(w':World):Prop :=
 ((fj    s.a x = none ∧ e = .returned (.tuple #[.agg #[.string ⟨#[]⟩, .slice none 0 0, .slice none 0 0, .slice none 0 0], .bool false])) ∨
   ∃i,∃h:i<s.L.length,fj s.a x=some s.L[i].d/\e = .returned (.tuple #[.agg #[.string s.L[i].d.id,.slice s.L[i].WA s.L[i].wn s.L[i].wc,.slice s.L[i].TA s.L[i].tn s.L[i].tc,.slice s.L[i].NA s.L[i].nn s.L[i].nc],.bool true]))/\Below w.heap.size w w'
theorem tB(s:Sc)(t:ByteArray)(w:World)(h:lK w s):
 Calls Tryz.prog 18 #[s.v,.string t] w (Nk w s t):=by
 have V0:=O (lL w s 25);have B0:=O (za w (.cells #[.slice s.KA s.kn s.kc,.slice s.AA s.an s.ac] 25));have HV:=O (show s.v = .agg #[.slice s.KA s.kn s.kc,.slice s.AA s.an s.ac] from rfl);rw [HV.o];have HS:=O h;have HM:=h.a.max;unfold maxLen at HM;have HL:=O h.a.len;clear h;go_enter Tryz.func18,Tryz.ntmps18;go_wp2_with fail;have hsz:(w.alloc (.cells #[.slice s.KA s.kn s.kc,.slice s.AA s.an s.ac] 25)).heap.size=w.heap.size+1:=by simp
 obtain⟨w1,si⟩:∃w1,w.alloc (.cells #[.slice s.KA s.kn s.kc,.slice s.AA s.an s.ac] 25)=w1:=⟨_,rfl⟩
 rw [si] at V0 B0 hsz ⊢;rw [<-hsz];clear si;have T2:=jo w1 #[.string t] 9 0 (v := .string t) rfl;have B2:=O (B0.o.trans ((za w1 (.cells #[.string t] 9)).mono B0.o.size));have V2:=O (V0.o.keep (za w1 (.cells #[.string t] 9)));have hsz2:(w1.alloc (.cells #[.string t] 9)).heap.size=w1.heap.size+1:=by simp
 obtain⟨w2,hw2⟩:∃w2,w1.alloc (.cells #[.string t] 9)=w2:=⟨_,rfl⟩
 rw [hw2] at V2 B2 T2 hsz2 ⊢;rw [<-hsz2];clear hw2 B0 V0;have R3:=O (fq w2 (.string ⟨#[]⟩) (.slice none 0 0) (.slice none 0 0) (.slice none 0 0) 49);have BB:=za w2 (.cells #[.string ⟨#[]⟩,.slice none 0 0,.slice none 0 0,.slice none 0 0] 49);have B3:=O (B2.o.trans (BB.mono B2.o.size));have V3:=O (V2.o.keep BB);have T3:=zb BB T2;have HW:=O B2.o.size;have KI:=O (tR s t _ _ (HS.o.keep B3.o) T3);clear BB B2 V2 T2 T3 hsz hsz2;refine KI.o.mono ?_;rintro e w4 ⟨hc,b4⟩;have B4:=O (B3.o.trans (b4.mono B3.o.size));have V4:=O (V3.o.keep b4);have R4:=O (R3.o.keep b4);clear b4 B3 V3 R3 KI;obtain⟨v0,v1⟩:=V4.o;obtain⟨d0,d1,d2,d3,z0,z1,z2,z3⟩:=R4.o;rcases hc with ⟨hN,rfl⟩|⟨i,hi,hN,rfl⟩
 ·have Y4:=R4.o.set (.string ⟨#[]⟩) (.slice none 0 0) (.slice none 0 0) (.slice none 0 0);obtain⟨g0,g1,g2,g3,-,-,-,-⟩:=Y4;go_wp2_with fail;refine bodyPost_ret (v := .tuple #[.agg #[.string ⟨#[]⟩,.slice none 0 0,.slice none 0 0,.slice none 0 0],.bool false]) (by simp [results,Tryz.results18,go_sem,g0,g1,g2,g3]) rfl ⟨.inl ⟨hN,rfl⟩,?_⟩;exact nH B4.o HW.o _ _ _ _
 ·have Rz:i<s.an:=by rw [HL.o];exact hi
  obtain⟨a,ea,q0,q1,q2,q3,-⟩:=(HS.o.keep B4.o).a.at_ i _ (List.getElem?_eq_getElem hi);have BF:∀w',Below w.heap.size w w'->Nk w s t (.returned (.tuple #[.agg #[.string s.L[i].d.id,.slice s.L[i].WA s.L[i].wn s.L[i].wc,.slice s.L[i].TA s.L[i].tn s.L[i].tc,.slice s.L[i].NA s.L[i].nn s.L[i].nc],.bool true])) w':=λw' hb=>⟨.inr ⟨i,hi,hN,rfl⟩,hb⟩
  have f0:decide ((i:Int)<0)=false:=decide_eq_false (by omega);rw [ea] at v1;generalize s.L[i]=x at *;have Y4:=R4.o.set (.string x.d.id) (.slice x.WA x.wn x.wc) (.slice x.TA x.tn x.tc) (.slice x.NA x.nn x.nc);obtain⟨g0,g1,g2,g3,-,-,-,-⟩:=Y4;go_wp2_with fail;refine bodyPost_ret (v := .tuple #[.agg #[.string x.d.id,.slice x.WA x.wn x.wc,.slice x.TA x.tn x.tc,.slice x.NA x.nn x.nc],.bool true]) (by simp [results,Tryz.results18,go_sem,g0,g1,g2,g3]) rfl (BF _ ?_);exact nH B4.o HW.o _ _ _ _
structure Vq(w:World)(b:Nat)(q:Rq):Prop where
 c0:w.cell? ⟨b,0,none⟩=some (.string q.who.1)
 c1:w.cell? ⟨b,1,none⟩=some (.string q.who.2)
 c2:w.cell? ⟨b,2,none⟩=some (.string q.act.1)
 c3:w.cell? ⟨b,3,none⟩=some (.string q.act.2)
 c4:w.cell? ⟨b,4,none⟩=some (.string q.what.1)
 c5:w.cell? ⟨b,5,none⟩=some (.string q.what.2)
 c6:w.cell? ⟨b,6,none⟩=some (.slice q.NA q.nn q.nc)
theorem Vq.keep{w w':World}{b:Nat}{x:Rq}(h:Vq w b x)(hb:Below w.heap.size w w'):Vq w' b x:=⟨zb hb h.c0,zb hb h.c1,zb hb h.c2,zb hb h.c3,zb hb h.c4,zb hb h.c5,zb hb h.c6⟩
theorem Ac(w:World)(q:Rq)(t:TypeId):Vq (w.alloc (.cells #[.string q.who.1,.string q.who.2,.string q.act.1,.string q.act.2,.string q.what.1,.string q.what.2,.slice q.NA q.nn q.nc] t)) w.heap.size q :=
 ⟨zt (heap_alloc_last w _) rfl,zt (heap_alloc_last w _) rfl,zt (heap_alloc_last w _) rfl,zt (heap_alloc_last w _) rfl,zt (heap_alloc_last w _) rfl,zt (heap_alloc_last w _) rfl,zt (heap_alloc_last w _) rfl⟩
def eJ:ByteArray:=⟨#[0x41,0x63,0x74,0x69,0x6f,0x6e]⟩
theorem ql:eJ.toList = [65,99,116,105,111,110]:=by kernel_rfl
theorem VL{w:World}{A:Option Addr}{n c:Nat}{P:List Nd}(h:Ns w A n c P)(hp:0<P.length):∃a,A=some a/\1<=n/\w.cell? a=some (.int .i64 (zg P))/\w.cell? ⟨a.block,a.off+2,none⟩=some (.string P[0].s):=by
 obtain⟨a,ha,D⟩:=h.at_.nd hp;rw [show a.add (0*4)=a from rfl] at D;refine⟨a,ha,by rw [h.len];exact hp,?_,D.c2⟩;rw [j8 hp];exact D.c0
theorem OM(s1 t1 s2 t2 s3 t3:ByteArray)(w:World):(Instr.index 105 (.agg #[.string s1,.string t1,.string s2,.string t2,.string s3,.string t3]) (.int .i64 0)).run Tryz.prog w = .ok (.agg #[.string s1,.string t1]) w:=by kernel_rfl
theorem Nf(s1 t1 s2 t2 s3 t3:ByteArray)(w:World):(Instr.index 105 (.agg #[.string s1,.string t1,.string s2,.string t2,.string s3,.string t3]) (.int .i64 1)).run Tryz.prog w = .ok (.agg #[.string s2,.string t2]) w:=by kernel_rfl
theorem Ow(s1 t1 s2 t2 s3 t3:ByteArray)(w:World):(Instr.index 105 (.agg #[.string s1,.string t1,.string s2,.string t2,.string s3,.string t3]) (.int .i64 2)).run Tryz.prog w = .ok (.agg #[.string s3,.string t3]) w:=by kernel_rfl
def Oq(r1 r2 r3 R:Int)(k:Nat):Int:=if k=0 then or2 r1 (or2 r2 (or2 r3 R)) else if k=1 then or2 r2 (or2 r3 R) else if k=2 then or2 r3 R else R
theorem uT(q:Rq)(w:World)(h:tr w q):
 Calls Tryz.prog 17 #[q.v] w λe w'=>e = .returned (je (oS q.who q.act q.what q.P))/\Below w.heap.size w w':=by
 obtain⟨⟨s1,t1⟩,⟨s2,t2⟩,⟨s3,t3⟩,NA,nn,nc,P⟩:=q;have V0:=O (Ac w ⟨(s1,t1),(s2,t2),(s3,t3),NA,nn,nc,P⟩ 31);have B0:=O (za w (.cells #[.string s1,.string t1,.string s2,.string t2,.string s3,.string t3,.slice NA nn nc] 31));have C1:=O (λw=>fU s1 t1 w h.w1 h.w2);have C2:=O (λw=>fU s2 t2 w h.a1 h.a2);have C3:=O (λw=>fU s3 t3 w h.t1 h.t2);have HN:=O h.ns;have KV:=O (λw' hb=>zP (h.ns.keep (w':=w') hb));dsimp only at HN KV;have HR:=O (show oS (s1,t1) (s2,t2) (s3,t3) P=Oq (zN (s1,t1)) (zN (s2,t2)) (zN (s3,t3)) (or2 (zh P) (if zg P=6 then 0 else 2)) 0 from rfl);unfold Rq.v;dsimp only;generalize oS (s1,t1) (s2,t2) (s3,t3) P=F at *;generalize zN (s1,t1)=r1 at *;generalize zN (s2,t2)=r2 at *;generalize zN (s3,t3)=r3 at *;generalize Im (s1,t1)=u1 at *;generalize Im (s2,t2)=u2 at *;generalize Im (s3,t3)=u3 at *;have Wl:=h.ns.max;have hnc:=h.ns.cap;unfold maxLen at Wl;dsimp only at Wl hnc;clear h;go_enter Tryz.func17,Tryz.ntmps17;go_wp2_with fail;go_loopw [15] (λi wr=>∃k:Nat,i = .int .i64 k/\k<=3/\Hid (F=Oq r1 r2 r3 (or2 (zh P) (if zg P=6 then 0 else 2)) k)/\Hid (Below w.heap.size w wr)/\Hid (Vq wr w.heap.size ⟨(s1,t1),(s2,t2),(s3,t3),NA,nn,nc,P⟩)) (λi _=>3-(intOf i).toNat)
 case atStart=>exact⟨0,rfl,by omega,HR,B0,V0⟩
 case round =>
  obtain⟨k,rfl,hk,hF,hB,hV⟩:=hrel;clear HR B0 V0;have hcase:k=0\/k=1\/k=2\/k=3:=by omega
  rcases hcase with rfl|rfl|rfl|rfl
  ·have hix:=OM s1 t1 s2 t2 s3 t3;have HF:=O (show F=or2 r1 (or2 r2 (or2 r3 (or2 (zh P) (if zg P=6 then 0 else 2)))) from hF.o);have BB:=O (za wr (.cells #[.string s1,.string t1] 28));clear hF;go_wp2_with fail;refine(C1.o _).mono ?_;rintro e w1 ⟨rfl,b1⟩;have BW:=O (BB.o.trans (b1.mono BB.o.size));have B1:=O (hB.o.trans (BW.o.mono hB.o.size));have V1:=O (hV.o.keep BW.o);clear b1 BB BW hB hV;by_cases g:r1=0
   ·have FI:=O (show F=Oq r1 r2 r3 (or2 (zh P) (if zg P=6 then 0 else 2)) 1 by rw [HF.o,g,zu];rfl);rw [g,zj];clear HF g;go_wp2_with fail;go_roundw
    case rel=>exact⟨1,by go_num,by omega,FI,B1,V1⟩
    case measure=>simp [intOf]
   ·have cQ:=O (zm g);have HE:=O (show F=r1 by rw [HF.o,zR g]);rw [cQ.o];clear g;go_wp2_with fail;go_ret;exact⟨by rw [HE.o,cQ.o];rfl,B1.o⟩
  ·have hix:=Nf s1 t1 s2 t2 s3 t3;have HF:=O (show F=or2 r2 (or2 r3 (or2 (zh P) (if zg P=6 then 0 else 2))) from hF.o);have BB:=O (za wr (.cells #[.string s2,.string t2] 28));clear hF;go_wp2_with fail;refine(C2.o _).mono ?_;rintro e w1 ⟨rfl,b1⟩;have BW:=O (BB.o.trans (b1.mono BB.o.size));have B1:=O (hB.o.trans (BW.o.mono hB.o.size));have V1:=O (hV.o.keep BW.o);clear b1 BB BW hB hV;by_cases g:r2=0
   ·have FI:=O (show F=Oq r1 r2 r3 (or2 (zh P) (if zg P=6 then 0 else 2)) 2 by rw [HF.o,g,zu];rfl);rw [g,zj];clear HF g;go_wp2_with fail;go_roundw
    case rel=>exact⟨2,by go_num,by omega,FI,B1,V1⟩
    case measure=>simp [intOf]
   ·have cQ:=O (zm g);have HE:=O (show F=r2 by rw [HF.o,zR g]);rw [cQ.o];clear g;go_wp2_with fail;go_ret;exact⟨by rw [HE.o,cQ.o];rfl,B1.o⟩
  ·have hix:=Ow s1 t1 s2 t2 s3 t3;have HF:=O (show F=or2 r3 (or2 (zh P) (if zg P=6 then 0 else 2)) from hF.o);have BB:=O (za wr (.cells #[.string s3,.string t3] 28));clear hF;go_wp2_with fail;refine(C3.o _).mono ?_;rintro e w1 ⟨rfl,b1⟩;have BW:=O (BB.o.trans (b1.mono BB.o.size));have B1:=O (hB.o.trans (BW.o.mono hB.o.size));have V1:=O (hV.o.keep BW.o);clear b1 BB BW hB hV;by_cases g:r3=0
   ·have FI:=O (show F=Oq r1 r2 r3 (or2 (zh P) (if zg P=6 then 0 else 2)) 3 by rw [HF.o,g,zu];rfl);rw [g,zj];clear HF g;go_wp2_with fail;go_roundw
    case rel=>exact⟨3,by go_num,by omega,FI,B1,V1⟩
    case measure=>simp [intOf]
   ·have cQ:=O (zm g);have HE:=O (show F=r3 by rw [HF.o,zR g]);rw [cQ.o];clear g;go_wp2_with fail;go_ret;exact⟨by rw [HE.o,cQ.o];rfl,B1.o⟩
  ·have HF:=O (show F=or2 (zh P) (if zg P=6 then 0 else 2) from hF.o);obtain⟨c0,c1,c2,c3,c4,c5,c6⟩:=hV.o;dsimp only at c0 c1 c2 c3 c4 c5 c6;clear hF;go_wp2_with fail;refine(KV.o _ hB.o).mono ?_;rintro e w4 ⟨rfl,b4⟩;have B4:=O (hB.o.trans (b4.mono hB.o.size));have V4:=O (hV.o.keep b4);clear b4 hB hV c0 c1 c2 c3 c4 c5 c6;obtain⟨c0,c1,c2,c3,c4,c5,c6⟩:=V4.o;dsimp only at c0 c1 c2 c3 c4 c5 c6;by_cases g4:zh P=0
   ·obtain⟨a,rfl,hn1,d0,-⟩:=VL (HN.o.keep B4.o) (zy.1 g4).2.pos;rw [g4,zu] at HF;rw [g4,zj];by_cases g5:zg P=6
    ·rw [if_pos g5] at HF;rw [g5] at d0;clear g5 g4;go_wp2_with fail;go_ret;exact⟨by rw [HF.o];rfl,B4.o⟩
    ·rw [if_neg g5] at HF;have f1:(zg P != 6)=true:=by rw [bne_iff_ne];exact g5
     generalize zg P=o at *;clear g5 g4;go_wp2_with fail;go_ret;exact⟨by rw [HF.o];rfl,B4.o⟩
   ·rw [zR g4] at HF;have cQ:=O (zm g4);rw [cQ.o];generalize zh P=r4 at *;clear g4;go_wp2_with fail;go_ret;exact⟨by rw [HF.o,cQ.o];rfl,B4.o⟩
theorem Cq(s:Sc)(q:Rq)(w:World)(h:lK w s)(hq:tr w q):
 Calls Tryz.prog 6 #[s.v,q.v] w λe w'=>e = .returned (je (pH eJ s.k s.a q.who q.act q.what q.P))/\Below w.heap.size w w':=by
 obtain⟨⟨s1,t1⟩,⟨s2,t2⟩,⟨s3,t3⟩,NA,nn,nc,P⟩:=q;have V0:=O (lL w s 25);have B0:=O (za w (.cells #[.slice s.KA s.kn s.kc,.slice s.AA s.an s.ac] 25));have HV:=O (show s.v = .agg #[.slice s.KA s.kn s.kc,.slice s.AA s.an s.ac] from rfl);have C1:=O (λw' (hb:Below w.heap.size w w')=>kG s w' (h.keep hb));have C2:=O (λw' (hb:Below w.heap.size w w')=>uT _ w' (hq.keep hb));have C3:=O (λw' (hb:Below w.heap.size w w')=>tB s t2 w' (h.keep hb));have CK:=O (λi (hi:i<s.L.length) w' (hb:Below w.heap.size w w')=>(let ⟨_,_,_,_,_,_,h⟩:=(h.keep hb).a.at_ i _ (List.getElem?_eq_getElem hi);h:BC w' s.L[i]));have HN:=O hq.ns;dsimp only at C2 HN;unfold Rq.v at C2 ⊢;dsimp only at C2 ⊢;have W0:=O (Ac (w.alloc (.cells #[.slice s.KA s.kn s.kc,.slice s.AA s.an s.ac] 25)) ⟨(s1,t1),(s2,t2),(s3,t3),NA,nn,nc,P⟩ 31);have B1:=O (B0.o.trans ((za (w.alloc (.cells #[.slice s.KA s.kn s.kc,.slice s.AA s.an s.ac] 25)) (.cells #[.string s1,.string t1,.string s2,.string t2,.string s3,.string t3,.slice NA nn nc] 31)).mono (by simp)));have V1:=O (V0.o.keep (za (w.alloc (.cells #[.slice s.KA s.kn s.kc,.slice s.AA s.an s.ac] 25)) (.cells #[.string s1,.string t1,.string s2,.string t2,.string s3,.string t3,.slice NA nn nc] 31)));dsimp only at W0;rw [HV.o] at C1 C3 ⊢;have HR:=O (show pH eJ s.k s.a (s1,t1) (s2,t2) (s3,t3) P=or2 (bn s.k s.a) (or2 (oS (s1,t1) (s2,t2) (s3,t3) P) (L9 eJ s.a (s1,t1) (s2,t2) (s3,t3) P)) from rfl);generalize pH eJ s.k s.a (s1,t1) (s2,t2) (s3,t3) P=F at *;clear h hq V0 B0;go_enter Tryz.func6,Tryz.ntmps6;go_wp2_with fail;refine(C1.o _ B1.o).mono ?_;rintro e w1 ⟨rfl,b1⟩;have hsz:(w.alloc (.cells #[.slice s.KA s.kn s.kc,.slice s.AA s.an s.ac] 25)).heap.size=w.heap.size+1:=by simp
 have ZP:=W0.o;rw [hsz] at ZP;have V2:=O (V1.o.keep b1);have W2:=O (ZP.keep b1);have B2:=O (B1.o.trans (b1.mono B1.o.size));clear b1 B1 V1 W0 ZP hsz;by_cases g1:bn s.k s.a=0
 ·rw [g1,zu] at HR;rw [g1,zj];have Xe:=O (λi (hi:i<s.L.length)=>mr (vM _ _ (qx.1 g1).2.2.2 _ (List.mem_map.2 ⟨s.L[i],List.getElem_mem hi,rfl⟩)));clear g1;obtain⟨c0,c1,c2,c3,c4,c5,c6⟩:=W2.o;dsimp only at c0 c1 c2 c3 c4 c5 c6;go_wp2_with fail;refine(C2.o _ B2.o).mono ?_;rintro e w2 ⟨rfl,b2⟩;have V3:=O (V2.o.keep b2);have W3:=O (W2.o.keep b2);have B3:=O (B2.o.trans (b2.mono B2.o.size));clear b2 B2 V2 W2 c0 c1 c2 c3 c4 c5 c6;by_cases g2:oS (s1,t1) (s2,t2) (s3,t3) P=0
  ·rw [g2,zu] at HR;rw [g2,zj];have Wr:Hid (zh P=0):=O (by unfold oS at g2;simp only [zB] at g2;exact g2.2.2.2.1);clear g2;obtain⟨c0,c1,c2,c3,c4,c5,c6⟩:=W3.o;dsimp only at c0 c1 c2 c3 c4 c5 c6;have v0:=V3.o.c0;have v1:=V3.o.c1;go_wp2_with fail;refine(C3.o _ B3.o).mono ?_;rintro e w3 ⟨hc,b3⟩;have W4:=O (W3.o.keep b3);have B4:=O (B3.o.trans (b3.mono B3.o.size));clear b3 B3 V3 W3 c0 c1 c2 c3 c4 c5 c6 v0 v1 C1 C2 C3;obtain⟨c0,c1,c2,c3,c4,c5,c6⟩:=W4.o;dsimp only at c0 c1 c2 c3 c4 c5 c6;rcases hc with ⟨ha,rfl⟩|⟨i,hi,ha,rfl⟩
   ·have HE:=O (show F=3 by rw [HR.o];unfold L9;dsimp only;rw [ha]);clear HR;go_wp2_with fail;go_ret;exact⟨by rw [HE.o];rfl,B4.o.trans ((za _ _).mono B4.o.size)⟩
   ·by_cases hT:s2=eJ
    ·subst hT;have f3:(eJ.toList == [65,99,116,105,111,110])=true:=beq_iff_eq.2 ql;obtain⟨f,hk⟩:=Xe.o i hi;have iY:=O (show F=if ai s.L[i].d.who s1 && ai s.L[i].d.what s3 && gV s.L[i].d.P P then 0 else 2 by
      rw [HR.o];unfold L9;dsimp only;rw [ha];dsimp only;rw [if_pos rfl];rfl)
     have de:=CK.o i hi;clear HR ha Xe CK;generalize s.L[i]=x at *;have BB:=O (za w3 (.cells #[.string x.d.id,.slice x.WA x.wn x.wc,.slice x.TA x.tn x.tc,.slice x.NA x.nn x.nc] 49));have X5:=O (PH w3 x 49);have W5:=O (W4.o.keep BB.o);have B5:=O (B4.o.trans (BB.o.mono B4.o.size));clear c0 c1 c2 c3 c4 c5 c6;obtain⟨c0,c1,c2,c3,c4,c5,c6⟩:=W5.o;dsimp only at c0 c1 c2 c3 c4 c5 c6;obtain⟨x0,x1,x2,x3⟩:=X5.o;have e0:gz x.d.P P=0:=by unfold gz;rw [if_pos hk.zero];exact Wr.o
     clear hk;go_wp2_with fail;refine(cT _ _ _ _ s1 _ (de _ B5.o).ws).mono ?_;rintro e w5 ⟨rfl,b5⟩;have W6:=O (W5.o.keep b5);have X6:=O (X5.o.keep b5);have B6:=O (B5.o.trans (b5.mono B5.o.size));clear b5 W5 X5 B5 BB W4 B4 c0 c1 c2 c3 c4 c5 c6 x0 x1 x2 x3;obtain⟨c0,c1,c2,c3,c4,c5,c6⟩:=W6.o;dsimp only at c0 c1 c2 c3 c4 c5 c6;obtain⟨x0,x1,x2,x3⟩:=X6.o;generalize ai x.d.who s1=g1 at *;cases g1
     ·go_wp2_with fail;go_ret;exact⟨by rw [iY.o];rfl,B6.o⟩
     ·go_wp2_with fail;refine(cT _ _ _ _ s3 _ (de _ B6.o).ts).mono ?_;rintro e w6 ⟨rfl,b6⟩;have W7:=O (W6.o.keep b6);have X7:=O (X6.o.keep b6);have B7:=O (B6.o.trans (b6.mono B6.o.size));clear b6 W6 X6 B6 c0 c1 c2 c3 c4 c5 c6 x0 x1 x2 x3;obtain⟨c0,c1,c2,c3,c4,c5,c6⟩:=W7.o;dsimp only at c0 c1 c2 c3 c4 c5 c6;obtain⟨x0,x1,x2,x3⟩:=X7.o;generalize ai x.d.what s3=g2 at *;cases g2
      ·go_wp2_with fail;go_ret;exact⟨by rw [iY.o];rfl,B7.o⟩
      ·go_wp2_with fail;refine((de _ B7.o).ns.kinds_Has (HN.o.keep B7.o)).mono ?_;rintro e w7 ⟨rfl,b7⟩;have B8:=O (B7.o.trans (b7.mono B7.o.size));clear b7 W7 X7 B7 c0 c1 c2 c3 c4 c5 c6 x0 x1 x2 x3;rw [e0,zj];generalize gV x.d.P P=g3 at *;cases g3
       ·go_wp2_with fail;go_ret;exact⟨by rw [iY.o];rfl,B8.o⟩
       ·go_wp2_with fail;go_ret;exact⟨by rw [iY.o];rfl,B8.o⟩
    ·have HE:=O (show F=3 by rw [HR.o];unfold L9;dsimp only;rw [ha];dsimp only;rw [if_neg hT]);have f1:(s2.toList == [65,99,116,105,111,110])=false:=beq_eq_false_iff_ne.2 (λq=>hT (toList_inj (q.trans ql.symm)));clear HR;generalize s.L[i]=x at *;have W5:=O (W4.o.keep (za w3 (.cells #[.string x.d.id,.slice x.WA x.wn x.wc,.slice x.TA x.tn x.tc,.slice x.NA x.nn x.nc] 49)));clear c0 c1 c2 c3 c4 c5 c6;obtain⟨c0,c1,c2,c3,c4,c5,c6⟩:=W5.o;dsimp only at c0 c1 c2 c3 c4 c5 c6;go_wp2_with fail;go_ret;exact⟨by rw [HE.o];rfl,B4.o.trans ((za _ _).mono B4.o.size)⟩
  ·rw [zR g2] at HR;have cQ:=O (zm g2);rw [cQ.o];generalize oS (s1,t1) (s2,t2) (s3,t3) P=r at *;clear g2;go_wp2_with fail;go_ret;exact⟨by rw [HR.o,cQ.o];rfl,B3.o⟩
 ·rw [zR g1] at HR;have cQ:=O (zm g1);rw [cQ.o];generalize bn s.k s.a=r at *;clear g1;go_wp2_with fail;go_ret;exact⟨by rw [HR.o,cQ.o];rfl,B2.o⟩
end Go.Proofs.YthifljpkgfpkiaaGreatDoor
