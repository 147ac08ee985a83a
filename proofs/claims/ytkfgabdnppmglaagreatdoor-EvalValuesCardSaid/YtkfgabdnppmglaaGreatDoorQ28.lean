/-
  (ent.store).above: all that are above one, each once. ent.Check: what is wrong with a store. ent.In: is one another one, or above it.
-/
import Derived.Maps.RangeWalk
import Derived.Test.YtkfgabdnppmglaaGreatDoorQ26
import Derived.Test.YtkfgabdnppmglaaGreatDoorQ27
set_option maxRecDepth 100000
set_option maxHeartbeats 4000000
namespace Go.Wk
def zcW(K M:List Ud):Nat:=(K.filter fun p => !zaV M p).length
theorem zmJ(K M:List Ud):zcW K M≤K.length:=List.length_filter_le _ _
theorem zhq{K M M':List Ud}(h:∀x∈M,x∈M'):zcW K M'≤zcW K M:=by
 induction K with
 | nil=>exact Nat.le_refl _
 | cons x K ih =>
  unfold zcW at ih ⊢
  simp only [List.filter_cons]
  by_cases h1:zaV M x=true
  ·rw [jZ.2 (h x (jZ.1 h1)),h1];simpa using ih
  ·have h1':zaV M x=false:=by simpa using h1
   rw [h1'];by_cases h2:zaV M' x=true
   ·rw [h2];simp;omega
   ·have h2':zaV M' x=false:=by simpa using h2
    rw [h2'];simp;omega
theorem zoD{K M:List Ud}{p:Ud}(hp:p∈K)(hn:p ∉ M):zcW K (M ++ [p])<zcW K M:=by
 induction K with
 | nil=>cases hp
 | cons x K ih =>
  have hle:=zhq (K:=K) (M:=M) (M':=M ++ [p]) (fun y hy=>List.mem_append_left _ hy)
  unfold zcW at ih hle ⊢
  simp only [List.filter_cons]
  by_cases hx:x=p
  ·subst hx
   have h1:zaV M x=false:=zsg.2 hn;have h2:zaV (M ++ [x]) x=true:=jZ.2 (by simp);rw [h1,h2];simp;omega
  ·have hpk:p∈K:=by
    rcases List.mem_cons.1 hp with h|h
    ·exact absurd h.symm hx
    ·exact h
   have:=ih hpk
   have e:zaV (M ++ [p]) x=zaV M x:=by
    rw [Bool.eq_iff_iff,jZ,jZ,List.mem_append];constructor
    ·rintro (h|h)
     ·exact h
     ·simp only [List.mem_cons,List.not_mem_nil,or_false] at h;exact absurd h hx
    ·exact fun h => .inl h
   rw [e]
   by_cases h1:zaV M x=true
   ·rw [h1];simpa using this
   ·have h1':zaV M x=false:=by simpa using h1
    rw [h1'];simp;omega
structure zul(G:List (Ud × List Ud))(u:Ud)(M M':List Ud):Prop where
 sub:∀x∈M,x∈M'
 sound:∀x∈M',x∈M∨Abv G u x
 here:∀p,Stp G u p→p∈M'
 shut:∀x∈M',x ∉ M→∀p,Stp G x p→p∈M'
theorem zsW{G:List (Ud × List Ud)}{u:Ud}{M':List Ud}(h:zul G u [] M')(x:Ud):x∈M'↔Abv G u x :=
 ⟨fun hx=>(h.sound x hx).resolve_left (by simp),ziS (C:=fun y=>y∈M') (fun y hy p hp=>h.shut y hy (by simp) p hp) h.here x⟩
theorem zqQ{G:List (Ud × List Ud)}{a:Ud}{M':List Ud}(h:zul G a [a] M')(x:Ud):x∈M'↔x=a∨Abv G a x:=by
 constructor
 ·intro hx;rcases h.sound x hx with h1|h1
  ·simp only [List.mem_cons,List.not_mem_nil,or_false] at h1;exact .inl h1
  ·exact .inr h1
 ·rintro (rfl|h1)
  ·exact h.sub _ (by simp)
  ·exact ziS (C:=fun y=>y∈M') (fun y hy p hp=>by
    by_cases e:y=a
    ·subst e;exact h.here p hp
    ·exact h.shut y hy (by simpa using e) p hp) h.here x h1
end Go.Wk
namespace Go.Proofs.YtkfgabdnppmglaaGreatDoor
open Go.RowKit Go.Wk Go.Maps
theorem Us.but0{w w':World}{A:Option Addr}{n c:Nat}{P:List Ud}{g:Option Nat}(h:Us w A n c P)(hg:w.grownBy w' g)(hR:0<P.length→∀a,A=some a→g≠some a.block):Us w' A n c P:=by
 rcases Nat.eq_zero_or_pos P.length with h0|h0
 ·have:P = []:=List.eq_nil_of_length_eq_zero h0;subst this;exact⟨h.len,h.cap,h.max,fun k x hx=>by simp at hx,h.ok⟩
 ·exact h.but hg (hR h0)
structure zde(w:World)(bs bm:Nat)(E:List En):Prop where
 map:w.ownsMap Tryz.prog 24 zbg bs E.length (zbR (za0 E))
 ne:bs≠bm
 ups:∀x∈E,Us w x.UA x.un x.uc x.ups
 ap:∀x∈E,0<x.ups.length→∀a,x.UA=some a→some bm≠some a.block
theorem zde.grown{w w':World}{bs bm:Nat}{E:List En}(h:zde w bs bm E)(hg:w.grownBy w' (some bm)):zde w' bs bm E :=
 ⟨zjo h.map (hg.block bs h.map.lt (fun e=>h.ne (by injection e))),h.ne,fun x hx=>(h.ups x hx).but0 hg (h.ap x hx),h.ap⟩
def zi9(M:List Ud):List (Ud × Value):=M.map fun p=>(p,.int .i64 1)
def zdG(w:World)(bm:Nat)(M:List Ud):Prop:=w.ownsMap Tryz.prog 24 zbg bm M.length (zbR (zi9 M))
theorem zgc(M:List Ud)(p:Ud):zcK (zi9 M) p=if zaV M p=true then some (.int .i64 1) else none:=by
 induction M with
 | nil=>rfl
 | cons x r ih =>
  have:zaV (x :: r) p=(decide (x=p)|| zaV r p):=rfl
  simp only [zi9,List.map_cons,zcK]
  have ih':zcK (List.map (fun p=>(p,Value.int .i64 1)) r) p=if zaV r p=true then some (.int .i64 1) else none:=ih
  rw [ih',this]
  by_cases h1:zaV r p=true
  ·rw [h1];simp
  ·have h1':zaV r p=false:=by simpa using h1
   rw [h1'];by_cases h2:x=p
   ·simp [h2]
   ·simp [h2]
theorem zla{M:List Ud}(h:∀x∈M,UOk x):∀y∈zi9 M,UOk y.1:=fun y hy=>by
 obtain⟨x,hx,rfl⟩:=List.mem_map.1 hy;exact h x hx
def jj(E:List En):List (Ud × List Ud):=E.map fun x=>(x.u,x.ups)
def zaA(E:List En):List Ud:=E.flatMap fun x=>x.ups
theorem zn5{w:World}{bs bm:Nat}{E:List En}(h:zde w bs bm E)(hn:(E.map En.u).Nodup)(hok:∀x∈E,UOk x.u)(u:Ud)(hu:UOk u):
 ∃(ty id:ByteArray) (UA:Option Addr) (un uc:Nat) (ups:List Ud) (NA:Option Addr) (nn nc:Nat),
  (zbR (za0 E)).atKey (zb9 u) (.held zud)= .held (.agg #[.string ty,.string id,.slice UA un uc,.slice NA nn nc])∧Us w UA un uc ups∧
  (0<ups.length→∀a,UA=some a→some bm≠some a.block)∧(∀p,Stp (jj E) u p↔p∈ups)∧∀p∈ups,p∈zaA E:=by
 by_cases hx:∃x∈E,x.u=u
 ·obtain⟨x,hx,rfl⟩:=hx;refine⟨x.u.1,x.u.2,x.UA,x.un,x.uc,x.ups,x.NA,x.nn,x.nc,?_,h.ups x hx,h.ap x hx,fun p=>⟨?_,fun hp=>⟨(x.u,x.ups),List.mem_map.2 ⟨x,hx,rfl⟩,rfl,hp⟩⟩,fun p hp=>List.mem_flatMap.2 ⟨x,hx,hp⟩⟩
  ·rw [zeR _ _ (hok x hx) _ (zmC hok)];have:zcK (za0 E) x.u=some x.v:=zom (x:=(x.u,x.v)) (by rw [za0,List.map_map];exact hn) (List.mem_map.2 ⟨x,hx,rfl⟩);rw [this];rfl
  ·rintro ⟨e,he,h1,h2⟩;obtain⟨y,hy,rfl⟩:=List.mem_map.1 he;have:y=x:=by
    obtain⟨i,hi,rfl⟩:=List.getElem_of_mem hy;obtain⟨j,hj,rfl⟩:=List.getElem_of_mem hx;have hp:=List.pairwise_iff_getElem.1 hn;rcases Nat.lt_trichotomy i j with hlt|he|hlt
    ·have q:=hp i j (by simpa using hi) (by simpa using hj) hlt;rw [List.getElem_map,List.getElem_map] at q;exact absurd h1 q
    ·subst he;rfl
    ·have q:=hp j i (by simpa using hj) (by simpa using hi) hlt;rw [List.getElem_map,List.getElem_map] at q;exact absurd h1.symm q
   subst this;exact h2
 ·refine⟨⟨#[]⟩,⟨#[]⟩,none,0,0,[],none,0,0,?_,⟨rfl,Nat.le_refl _,Nat.zero_le _,fun k x hx=>by simp at hx,fun x hx=>by cases hx⟩,fun h=>absurd h (by simp),fun p=>⟨?_,fun h=>by cases h⟩,fun p hp=>by cases hp⟩
  ·rw [zeR _ _ hu _ (zmC hok),zii]
   ·rfl
   ·intro y hy e;obtain⟨z,hz,rfl⟩:=List.mem_map.1 hy;exact hx ⟨z,hz,e⟩
  ·rintro ⟨e,he,h1,h2⟩;obtain⟨y,hy,rfl⟩:=List.mem_map.1 he;exact absurd ⟨y,hy,h1⟩ hx
structure Mid(E:List En)(u:Ud)(ups M Mk:List Ud)(k:Nat)(w wr:World)(bm:Nat):Prop where
 sub:∀x∈M,x∈Mk
 sound:∀x∈Mk,x∈M∨Abv (jj E) u x
 here:∀p∈ups.take k,p∈Mk
 shut:∀x∈Mk,x ∉ M→∀p,Stp (jj E) x p→p∈Mk
 ok:∀x∈Mk,UOk x
 cnt:Mk.length+zcW (zaA E) Mk≤M.length+zcW (zaA E) M
 met:zdG wr bm Mk
 grow:w.grownBy wr (some bm)
def zs3(E:List En)(u:Ud)(M:List Ud)(w:World)(bm:Nat)(e:Ending)(w':World):Prop :=
 e = .returned (.tuple #[])∧∃M',zul (jj E) u M M'∧(∀x∈M',UOk x)∧M'.length+zcW (zaA E) M'≤M.length+zcW (zaA E) M∧zdG w' bm M'∧w.grownBy w' (some bm)
theorem zq0(x y:Value)(A B:Option Addr)(n c m d:Nat)(w:World):(Instr.field 59 (.agg #[x,y,.slice A n c,.slice B m d]) 1).run Tryz.prog w = .ok (.slice A n c) w:=by kernel_rfl
theorem zc6(w:World):(zeroValue 3).run Tryz.prog w = .ok (.int .i64 0) w:=by kernel_rfl
theorem zj9(E:List En)(bs bm:Nat)(hn:(E.map En.u).Nodup)(hok:∀x∈E,UOk x.u):∀(m:Nat) (w:World) (u:Ud) (M:List Ud),UOk u→(∀x∈M,UOk x)→zcW (zaA E) M<m→M.length+zcW (zaA E) M≤1000000→
 zde w bs bm E→zdG w bm M→Calls Tryz.prog 39 #[.map (some bs),udV u,.map (some bm)] w (zs3 E u M w bm):=by
 intro m
 induction m with
 | zero=>intro w u M _ _ h;omega
 | succ m ih =>
  intro w u M hu hM hm hc hS hMet
  obtain⟨ty,id,UA,un,uc,ups,NA,nn,nc,hat,hus,hap,hstp,hin⟩:=zn5 hS hn hok u hu
  have HS:=hi9 hS
  have HMet:=hi9 hMet
  have HAT:=hi9 hat
  have HUS:=hi9 hus
  have HK:=hi9 (zbE u hu)
  have HSTP:=hi9 hstp
  have HIN:=hi9 hin
  have HAP:=hi9 hap
  have HUL:=hi9 hus.len
  have hmax:=hus.max
  unfold maxLen at hmax
  clear hS hMet hat hus hstp hin hap
  unfold udV at HK ⊢
  have G0:=hi9 (World.grownBy_alloc w (.cells #[.string u.1,.string u.2] 24) (some bm))
  have S0:=hi9 (HS.out.grown G0.out)
  have M0:=hi9 (show zdG _ bm M from zay HMet.out (zb w (.cells #[.string u.1,.string u.2] 24)))
  have U0:=hi9 (HUS.out.keep (zb w (.cells #[.string u.1,.string u.2] 24)))
  clear HS HMet HUS
  go_enter Tryz.func39,Tryz.ntmps39
  go_wp2_with (at_lookup;refine jX _ rfl _ _ 83 rfl 24 59 zau Tryz.underlying83 (zrs _) bs E.length _ rfl S0.out.map _ _ rfl HK.out _ HAT.out ?_)
  obtain⟨w0,hw0⟩:∃w0,w.alloc (.cells #[.string u.1,.string u.2] 24)=w0:=⟨_,rfl⟩
  rw [hw0] at G0 S0 M0 U0 ⊢
  clear hw0 HK HAT
  have hfu:=zq0 (.string ty) (.string id) UA NA un uc nn nc
  go_wp2_with fail
  rw [hfu]
  clear hfu
  go_wp2_with fail
  go_loopw [7,13] (fun _ i wr=>∃(k:Nat) (Mk:List Ud),k≤un∧i = .int .i64 k∧Hid (Mid E u ups M Mk k w0 wr bm)) (fun _ i _=>un-(intOf i).toNat)
  case atStart=>exact⟨0,M,Nat.zero_le _,rfl,⟨fun _ h=>h,fun _ h => .inl h,fun p h=>by simp at h,fun x h h2=>absurd h h2,hM,Nat.le_refl _,M0.out,⟨rfl,rfl,rfl,Nat.le_refl _,fun _ _ _=>rfl⟩⟩⟩
  case round =>
   obtain⟨k,Mk,hk,rfl,hMid⟩:=hrel;by_cases hlt:k<un
   ·have hlt':k<ups.length:=by rw [←HUL.out];exact hlt
    have SR:=hi9 (S0.out.grown hMid.out.grow);have UR:=hi9 (U0.out.but0 hMid.out.grow HAP.out);obtain⟨a,rfl,q0,q1⟩:=UR.out.at_ k _ (List.getElem?_eq_getElem hlt');have hpk:=HIN.out _ (List.getElem_mem hlt');have hps:=(HSTP.out _).2 (List.getElem_mem hlt');have hpo:UOk ups[k]:=UR.out.ok _ (List.getElem_mem hlt');have htk:ups.take (k+1)=ups.take k ++ [ups[k]]:=List.take_succ_eq_append_getElem hlt';generalize ups[k]=p at *;have HKp:=hi9 (zbE p hpo);have HTK:=hi9 htk;have HPK:=hi9 hpk;have HPS:=hi9 hps;have HPO:=hi9 hpo;clear htk hpk hps hpo;unfold udV at HKp;have G1:=hi9 (hMid.out.grow.trans (World.grownBy_alloc wr (.cells #[.string p.1,.string p.2] 24) (some bm)));have M1:=hi9 (show zdG _ bm Mk from zay hMid.out.met (zb wr (.cells #[.string p.1,.string p.2] 24)));have P1:=hi9 (j8 wr (.string p.1) (.string p.2) 24);have S1:=hi9 (SR.out.grown (World.grownBy_alloc wr (.cells #[.string p.1,.string p.2] 24) (some bm)));have HAM:=hi9 (zeR (zi9 Mk) p HPO.out (.int .i64 0) (zla hMid.out.ok));rw [zgc] at HAM;by_cases hp:p∈Mk
    ·rw [if_pos (jZ.2 hp)] at HAM;have HP:=hi9 hp;clear hp;go_wp2_with (at_lookup;refine jX _ rfl _ _ 85 rfl 24 3 zau Tryz.underlying85 (zc6 _) bm Mk.length _ rfl M1.out _ _ rfl HKp.out _ HAM.out ?_);go_wp2_with fail;go_roundw
     case rel =>
      refine⟨k+1,Mk,by omega,by go_num,hi9 ⟨hMid.out.sub,hMid.out.sound,fun y hy=>?_,hMid.out.shut,hMid.out.ok,hMid.out.cnt,M1.out,G1.out⟩⟩;rw [HTK.out] at hy;rcases List.mem_append.1 hy with hy|hy
      ·exact hMid.out.here y hy
      ·simp only [List.mem_cons,List.not_mem_nil,or_false] at hy;subst hy;exact HP.out
     case measure=>simp [intOf];omega
    ·rw [if_neg (fun e=>hp (jZ.1 e))] at HAM;have hum:=zoD HPK.out hp;have HP:=hi9 hp;clear hp;go_wp2_with (first|(at_lookup;refine jX _ rfl _ _ 85 rfl 24 3 zau Tryz.underlying85 (zc6 _) bm Mk.length _ rfl M1.out _ _ rfl HKp.out _ HAM.out ?_)|(at_mapUpdate;refine wpList_mapUpdate_own _ rfl _ _ _ 85 rfl 24 3 zau Tryz.underlying85 zbg bm Mk.length _ rfl M1.out (by have:=hMid.out.cnt;unfold maxLen;omega) _ _ _ rfl rfl HKp.out _ [] rfl ?_));intro w4 hown hgrow;have hbl:=M1.out.lt;have hbw:bm<wr.heap.size:=hMid.out.met.lt;have M4:=hi9 (show zdG w4 bm (Mk ++ [p]) by
      unfold zdG
      have e:zi9 (Mk ++ [p])=zi9 Mk ++ [(p,.int .i64 1)]:=by simp [zi9]
      rw [e,zc2,List.length_append];exact hown)
     have G4:=hi9 (G1.out.trans hgrow);have S4:=hi9 (S1.out.grown hgrow);have hpb:w4.heap[wr.heap.size]?=(wr.alloc (.cells #[.string p.1,.string p.2] 24)).heap[wr.heap.size]?:=hgrow.block _ (by simp) (by intro e;injection e with e;omega);have c0:w4.cell? ⟨wr.heap.size,0,none⟩=some (.string p.1):=(World.cell?_of_block (a:=⟨wr.heap.size,0,none⟩) hpb).trans P1.out.c0;have c1:w4.cell? ⟨wr.heap.size,1,none⟩=some (.string p.2):=(World.cell?_of_block (a:=⟨wr.heap.size,1,none⟩) hpb).trans P1.out.c1;have hcnt:=hMid.out.cnt;have hmono:=zhq (K:=zaA E) hMid.out.sub;have hlen1:(Mk ++ [p]).length=Mk.length+1:=by simp
     have KI:=hi9 (ih w4 p (Mk ++ [p]) HPO.out (fun y hy=>by
      rcases List.mem_append.1 hy with hy|hy
      ·exact hMid.out.ok y hy
      ·simp only [List.mem_cons,List.not_mem_nil,or_false] at hy;subst hy;exact HPO.out) (by omega) (by omega) S4.out M4.out)
     unfold udV at KI;clear hown hgrow hbl hbw hpb M1 P1 S1 G1 q0 q1 SR UR HAM;go_wp2_with fail;refine(KI.out).mono ?_;rintro e w5 ⟨rfl,M5,hA,hok5,hc5,hm5,hg5⟩;go_wp2_with fail;go_roundw
     case rel =>
      have hsub:∀y∈Mk,y∈M5:=fun y hy=>hA.sub y (List.mem_append_left _ hy);have hpM:p∈M5:=hA.sub p (by simp);refine⟨k+1,M5,by omega,by go_num,hi9 ⟨fun y hy=>hsub y (hMid.out.sub y hy),fun y hy=>?_,fun y hy=>?_,fun y hy hyM q hq=>?_,hok5,by omega,hm5,G4.out.trans hg5⟩⟩
      ·rcases hA.sound y hy with h|h
       ·rcases List.mem_append.1 h with h|h
        ·exact hMid.out.sound y h
        ·simp only [List.mem_cons,List.not_mem_nil,or_false] at h;subst h;exact .inr (.one HPS.out)
       ·exact .inr (.more HPS.out h)
      ·rw [HTK.out] at hy;rcases List.mem_append.1 hy with hy|hy
       ·exact hsub y (hMid.out.here y hy)
       ·simp only [List.mem_cons,List.not_mem_nil,or_false] at hy;subst hy;exact hpM
      ·by_cases h1:y∈Mk
       ·exact hsub q (hMid.out.shut y h1 hyM q hq)
       ·by_cases h2:y=p
        ·subst h2;exact hA.here q hq
        ·exact hA.shut y hy (by
          intro h
          rcases List.mem_append.1 h with h|h
          ·exact h1 h
          ·simp only [List.mem_cons,List.not_mem_nil,or_false] at h;exact h2 h) q hq
     case measure=>simp [intOf];omega
   ·have htk:ups.take k=ups:=List.take_of_length_le (by rw [←HUL.out];omega);go_wp2_with fail;go_end0;refine⟨rfl,Mk,⟨hMid.out.sub,hMid.out.sound,fun q hq=>hMid.out.here q (by rw [htk];exact(HSTP.out q).1 hq),hMid.out.shut⟩,hMid.out.ok,hMid.out.cnt,hMid.out.met,G0.out.trans hMid.out.grow⟩
def jP:List En→List En→Int
 | _,[]=>0
 | M,x :: r=>if zw x.u=0 then(if zdh M x.u=true then 6 else if zbz x=0 then jP (M ++ [x]) r else zbz x) else zw x.u
open Classical in
noncomputable def ji(E:List En):Int:=if 16<E.length then 4 else if jP [] E=0 then(if∃x∈E,Abv (jj E) x.u x.u then 7 else 0) else jP [] E
theorem zjH{L:List En}{k:Nat}(h:k<L.length):jP (L.take k) (L.drop k)=if zw L[k].u=0 then(if zdh (L.take k) L[k].u=true then 6 else if zbz L[k]=0 then jP (L.take (k+1)) (L.drop (k+1)) else zbz L[k]) else zw L[k].u:=by
 rw [List.drop_eq_getElem_cons h,List.take_succ_eq_append_getElem h];rfl
theorem zsV{x:En}(h:zbz x=0):x.ups.length≤6:=by
 unfold zbz at h;split at h
 ·cases h
 ·omega
theorem ze7:∀(r M:List En),jP M r=0→(∀x∈r,zw x.u=0∧zbz x=0)∧(∀x∈r,∀y∈M,y.u≠x.u)∧(r.map En.u).Nodup
 | [],_,_=>⟨fun x hx=>(nomatch hx),fun x hx=>(nomatch hx),List.nodup_nil⟩
 | x :: r,M,h=>by
  unfold jP at h;by_cases h1:zw x.u=0
  ·rw [if_pos h1] at h;by_cases h2:zdh M x.u=true
   ·rw [if_pos h2] at h;cases h
   ·rw [if_neg h2] at h;by_cases h3:zbz x=0
    ·rw [if_pos h3] at h;obtain⟨a,b,c⟩:=ze7 r _ h;refine⟨fun y hy=>?_,fun y hy z hz=>?_,?_⟩
     ·rcases List.mem_cons.1 hy with rfl|hy
      ·exact⟨h1,h3⟩
      ·exact a y hy
     ·rcases List.mem_cons.1 hy with rfl|hy
      ·exact fun e=>h2 (zhD.2 ⟨z,hz,e⟩)
      ·exact b y hy z (List.mem_append_left _ hz)
     ·rw [List.map_cons,List.nodup_cons];refine⟨fun hm=>?_,c⟩;obtain⟨y,hy,e⟩:=List.mem_map.1 hm;exact b y hy x (by simp) e.symm
    ·rw [if_neg h3] at h;exact absurd h h3
  ·rw [if_neg h1] at h;exact absurd h h1
theorem zdd:∀(E:List En),(∀x∈E,zbz x=0)→(zaA E).length≤6*E.length
 | [],_=>Nat.le_refl _
 | x :: r,h=>by
  have h1:=zdd r (fun y hy=>h y (by simp [hy]));have h2:=zsV (h x (by simp));unfold zaA at h1 ⊢;rw [List.flatMap_cons,List.length_append,List.length_cons];omega
theorem zms(L:List (Ud × Value))(kl:Lit):has (zbR L) kl=true↔∃x∈L,kl=zb9 x.1:=by
 refine zc3 (C:=fun L=>has (zbR L) kl=true↔∃x∈L,kl=zb9 x.1) ?_ (fun L p ih=>?_) L
 ·exact⟨fun h=>absurd h (by simp [zbR,has]),fun⟨x,hx,_⟩=>by cases hx⟩
 ·rw [zc2];by_cases h:kl=zb9 p.1
  ·subst h;rw [has_put_same (zh0 L) (znb _)];exact⟨fun _=>⟨p,by simp,rfl⟩,fun _=>rfl⟩
  ·rw [has_put_other h,ih];constructor
   ·rintro ⟨x,hx,e⟩;exact⟨x,by simp [hx],e⟩
   ·rintro ⟨x,hx,e⟩;rcases List.mem_append.1 hx with hx|hx
    ·exact⟨x,hx,e⟩
    ·simp only [List.mem_cons,List.not_mem_nil,or_false] at hx;subst hx;exact absurd e h
structure zn8(w wr:World)(E:List En)(B n r:Nat)(left:Lit→Bool)(cnt:Nat):Prop where
 rg:wr.ranges Tryz.prog 24 zbg B r n (zbR (za0 E)) left cnt
 has:∀kl,left kl=true→∃x∈E,kl=zb9 x.u
 seen:∀x∈E,left (zb9 x.u)=false→¬Abv (jj E) x.u x.u
 below:Below w.heap.size w wr
theorem zn8.start{w wr:World}{E:List En}{B n r cnt:Nat}(h:wr.ranges Tryz.prog 24 zbg B r n (zbR (za0 E)) (Maps.has (zbR (za0 E))) cnt)(hb:Below w.heap.size w wr):zn8 w wr E B n r (Maps.has (zbR (za0 E))) cnt :=
 {rg:=h
  has:=fun kl hk=>by
   obtain⟨y,hy,e⟩:=(zms _ _).1 hk
   obtain⟨x,hx,rfl⟩:=List.mem_map.1 hy
   exact⟨x,hx,e⟩
  seen:=fun x hx hf=>by
   have:Maps.has (zbR (za0 E)) (zb9 x.u)=true:=(zms _ _).2 ⟨(x.u,x.v),List.mem_map.2 ⟨x,hx,rfl⟩,rfl⟩
   rw [this] at hf;cases hf
  below:=hb }
theorem zn8.step{w wr w':World}{E:List En}{B n r cnt cnt':Nat}{left:Lit→Bool}(h:zn8 w wr E B n r left cnt)(hok:∀x∈E,UOk x.u){y:En}(hy:y∈E)(hno:¬Abv (jj E) y.u y.u)
 (hr:w'.ranges Tryz.prog 24 zbg B r n (zbR (za0 E)) (fun z=>left z && !z.sameKey (zb9 y.u)) cnt') (hb:Below w.heap.size w w'):zn8 w w' E B n r (fun z=>left z && !z.sameKey (zb9 y.u)) cnt' :=
 ⟨hr,fun kl hk=>h.has kl (by
  have:(left kl && !kl.sameKey (zb9 y.u))=true:=hk
  rw [Bool.and_eq_true] at this
  exact this.1),fun x hx hf=>by
  by_cases h1:left (zb9 x.u)=true
  ·have hf':(left (zb9 x.u)&& !(zb9 x.u).sameKey (zb9 y.u))=false:=hf
   rw [h1,Bool.true_and] at hf'
   have h2:(zb9 x.u).sameKey (zb9 y.u)=true:=by simpa using hf'
   have e:=zlZ (hok x hx) (hok y hy) (WideAt.sameKey_eq h2)
   rw [e];exact hno
  ·exact h.seen x hx (by simpa using h1),hb⟩
theorem zjs{w:World}{a:Addr}{v:Value}(h:w.cell? a=some v):a.block<w.heap.size:=by
 rcases Nat.lt_or_ge a.block w.heap.size with h1|h1
 ·exact h1
 ·have:w.heap[a.block]?=none:=Array.getElem?_eq_none h1;simp [World.cell?,this] at h
theorem Es.enok{w:World}{A:Option Addr}{n c:Nat}{E:List En}(h:Es w A n c E):∀x∈E,zkw w x:=fun x hx=>by
 obtain⟨k,hk,rfl⟩:=List.getElem_of_mem hx;obtain⟨_,_,_,_,_,_,h6⟩:=h.at_ k _ (List.getElem?_eq_getElem hk);exact h6
theorem Es.store{w w':World}{A:Option Addr}{n c bs bm:Nat}{E:List En}(h:Es w A n c E)(hb:Below w.heap.size w w')(hm:w'.ownsMap Tryz.prog 24 zbg bs E.length (zbR (za0 E)))(hne:bs≠bm)(hs:w.heap.size≤bm):zde w' bs bm E :=
 ⟨hm,hne,fun x hx=>((h.keep hb).enok x hx).us,fun x hx hp a ha e=>by
  obtain⟨a',e',h1,_⟩:=(h.enok x hx).us.at_ 0 _ (List.getElem?_eq_getElem hp)
  rw [ha] at e'
  injection e' with e'
  injection e with e
  have:=zjs h1
  rw [zch,←e',←e] at this
  omega⟩
theorem zfL(A:Option Addr)(n c:Nat)(E:List En)(w:World)(h:Es w A n c E):
 Calls Tryz.prog 13 #[.slice A n c] w fun e w'=>e = .returned (j3 (ji E))∧Below w.heap.size w w':=by
 have hlen:=h.len;by_cases h16:16<n
 ·have HE:=hi9 (show ji E=4 by unfold ji;rw [if_pos (by omega)]);rw [HE.out];clear hlen h;go_enter Tryz.func13,Tryz.ntmps13;go_wp2_with fail;go_ret;exact⟨rfl,Below.refl _ _⟩
 ·have HE:=hi9 (show ji E=_ by unfold ji;rw [if_neg (by omega)]);generalize ji E=SF at *;have KW:=hi9 (fun(u:Ud) (hu:UOk u) w=>zco u.1 u.2 w hu.1 hu.2);have HH:=hi9 h;have HUO:=hi9 h.uok;have hcap:=h.cap;have HL:=hi9 hlen;have hd:decide ((16:Int)<(n:Int))=false:=decide_eq_false (by omega);clear hlen h;go_enter Tryz.func13,Tryz.ntmps13;go_wp2_with fail;go_loopw [3,4,5,6,7,17] (fun _ _ _ _ _ i wr=>∃k:Nat,k≤n∧i = .int .i64 k∧Hid (jP [] E=jP (E.take k) (E.drop k))∧Hid (Below w.heap.size w wr)) (fun _ _ _ _ _ i _=>n-(intOf i).toNat)
  case atStart=>exact⟨0,Nat.zero_le _,rfl,rfl,hi9 (Below.refl _ _)⟩
  case round =>
   obtain⟨k,hk,rfl,hF,hB⟩:=hrel;by_cases hlt:k<n
   ·have hlt':k<E.length:=by rw [←HL.out];exact hlt
    have HS:=hi9 (zjH hlt');obtain⟨a,rfl,q0,q1,q2,q3,-⟩:=(HH.out.at_.keep hB.out) k _ (List.getElem?_eq_getElem hlt');obtain⟨_,-,-,-,-,-,hxo⟩:=(HH.out.at_) k _ (List.getElem?_eq_getElem hlt');have HXO:=hi9 hxo;have HUK:=hi9 (HUO.out _ (List.getElem_mem hlt'));clear hxo;generalize E[k]=x at *;have K1:=hi9 (KW.out x.u HUK.out);go_wp2_with fail;have B1:=bh hB (zb wr (.cells #[.string x.u.1,.string x.u.2,.slice x.UA x.un x.uc,.slice x.NA x.nn x.nc] 59));have V1:=hi9 (zhf wr x 59);obtain⟨w1,hw1⟩:∃w1,wr.alloc (.cells #[.string x.u.1,.string x.u.2,.slice x.UA x.un x.uc,.slice x.NA x.nn x.nc] 59)=w1:=⟨_,rfl⟩
    rw [hw1] at V1 B1 ⊢;clear hw1 hB q0 q1 q2 q3;refine(K1.out w1).mono ?_;rintro e w2 ⟨rfl,b2⟩;have B2:=bh B1 b2;have V2:=hi9 (V1.out.keep b2);clear K1 b2 B1 V1;by_cases hu:zw (x.u.1,x.u.2)=0
    ·have hu':zw x.u=0:=hu;rw [hu,zo];rw [if_pos hu'] at HS;clear hu hu';have K2:=hi9 (zfJ (some a) k c (E.take k) x wr.heap.size w2 ((HH.out.keep B2.out).take hk) V2.out);go_wp2_with fail;refine K2.out.mono ?_;rintro e w3 ⟨rfl,b3⟩;have B3:=bh B2 b3;have V3:=hi9 (V2.out.keep b3);clear K2 b3 B2 V2;rcases hh:zdh (E.take k) x.u with _|_
     ·rw [hh,if_neg (by decide)] at HS;have K3:=hi9 (ztG x w3 (HXO.out.keep B3.out));obtain⟨c0,c1,c2,c3⟩:=V3.out;unfold En.v at K3;clear hh;go_wp2_with fail;refine K3.out.mono ?_;rintro e w4 ⟨rfl,b4⟩;have B4:=bh B3 b4;clear K3 b4 B3 V3 c0 c1 c2 c3;by_cases h1:zbz x=0
      ·rw [if_pos h1] at HS;have HF:=hi9 (hF.out.trans HS.out);rw [h1,zo];clear h1 HS hF;go_wp2_with fail;go_roundw
       case rel=>exact⟨k+1,by omega,by go_num,HF,B4⟩
       case measure=>simp [intOf];omega
      ·rw [if_neg h1] at HS;have HF:=hi9 (hF.out.trans HS.out);have HE2:=hi9 (show SF=zbz x by rw [HE.out,HF.out,if_neg h1]);rw [zC h1];have hun:=hi9 h1;clear h1 HS hF;generalize zbz x=f at *;go_wp2_with fail;go_ret;exact⟨by rw [HE2.out,zC hun.out];rfl,B4.out⟩
     ·rw [hh,if_pos rfl] at HS;have HF:=hi9 (hF.out.trans HS.out);have HE2:=hi9 (show SF=6 by rw [HE.out,HF.out];rfl);clear hh HS hF;go_wp2_with fail;go_ret;exact⟨by rw [HE2.out];rfl,B3.out⟩
    ·have hu':zw x.u≠0:=hu;rw [if_neg hu'] at HS;have HE2:=hi9 (show SF=zw (x.u.1,x.u.2) by rw [HE.out,hF.out,HS.out,if_neg hu']);rw [zC hu];have hun:=hi9 hu;clear hu hu' HS hF;generalize zw (x.u.1,x.u.2)=f at *;go_wp2_with fail;go_ret;exact⟨by rw [HE2.out,zC hun.out];rfl,B2.out⟩
   ·have HF:=hi9 (show jP [] E=0 by rw [hF.out,List.drop_of_length_le (by rw [←HL.out];omega)];rfl);have HE7:=hi9 (show(∃x,x∈E∧Abv (jj E) x.u x.u)→SF=7 from fun hx=>by rw [HE.out,if_pos HF.out,if_pos hx]);have HE0:=hi9 (show¬(∃x,x∈E∧Abv (jj E) x.u x.u)→SF=0 from fun hx=>by rw [HE.out,if_pos HF.out,if_neg hx]);clear HE;obtain⟨ho1,-,ho2⟩:=ze7 E [] HF.out;have HO1:=hi9 ho1;have HO2:=hi9 ho2;have K1:=hi9 (ziF A n c E wr (HH.out.keep hB.out) (by omega));clear hF ho1 ho2 KW;go_wp2_with fail;refine K1.out.mono ?_;rintro e w1 ⟨b,rfl,hwb,hO,b1⟩;have HO:=hi9 hO;have B1:=bh hB b1;have WB:=hi9 (show w.heap.size≤b from Nat.le_trans hB.out.size hwb);clear K1 hB hwb hO b1;go_wp2_with (at_range;refine wpList_range_own _ rfl _ 83 rfl 24 59 zau Tryz.underlying83 zbg b n (zbR (za0 E)) rfl HO.out ?_;intro w2 hrg hg hs);go_frame;have R2:=hi9 (zn8.start (w:=w) hrg (B1.out.grown hg B1.out.size (fun g hg=>by cases hg)));have WR:=hi9 (show w.heap.size≤w1.heap.size from B1.out.size);generalize w1.heap.size=r at *;clear hrg hg hs HO B1;generalize Maps.has (zbR (za0 E))=left0 at *;generalize Maps.size (zbR (za0 E))=cnt0 at *;go_loopw [9,10] (fun _ _ wr=>∃left cnt,Hid (zn8 w wr E b n r left cnt)) (fun _ _ wr=>wr.rangeLeft b r)
    case atStart=>exact⟨_,_,R2⟩
    case round =>
     clear R2;obtain⟨left,cnt,hR⟩:=hrel;go_wp2_with (at_next;refine wpList_next_ranges _ rfl _ rfl 24 zau zbg (fun v:Value=>v) (fun v:Value=>v) (fun key kl _=>⟨key,rfl⟩) (fun v y _=>⟨v,rfl⟩) b r n (zbR (za0 E)) left cnt rfl hR.out.rg ?_ ?_)
     ·intro hc0 hl0;have HE2:=hi9 (HE0.out (fun⟨x,hx,h⟩=>hR.out.seen x hx (hl0 _) h));clear hc0 hl0;go_wp2_with fail;go_ret;exact⟨by rw [HE2.out];rfl,hR.out.below⟩
     ·intro x v kl y yp w2 cnt' hkey hlk hv hat hrg hlt' hgr hsz hen;obtain⟨e,he,rfl⟩:=hR.out.has kl hlk;have hxe:x=udV e.u:=zau.inj hkey (zbE e.u (HUO.out e he));subst hxe;clear hkey hlk hv hat;unfold udV at hen;have R2:=hi9 hrg;have B2:=hi9 (hR.out.below.grown hgr hR.out.below.size (fun g hg=>by cases hg;exact WR.out));have HLT:=hi9 hlt';have HE:=hi9 he;clear hrg hlt' hgr hsz he;have hmm:=@run_makeMap Tryz.prog;have P3:=hi9 (j8 w2 (.string e.u.1) (.string e.u.2) 24);have B3:=bh B2 (zb w2 (.cells #[.string e.u.1,.string e.u.2] 24));have R3:=hi9 (R2.out.alloc (.cells #[.string e.u.1,.string e.u.2] 24));go_wp2_with fail;obtain⟨w3,hw3⟩:∃w3,w2.alloc (.cells #[.string e.u.1,.string e.u.2] 24)=w3:=⟨_,rfl⟩
      have hs3:w3.heap.size=w2.heap.size+1:=by rw [←hw3];simp
      rw [hw3] at P3 B3 R3 ⊢;rw [←hs3];have HB2:=hi9 (show w2.heap.size≠w3.heap.size by omega);clear hw3 hs3 hen R2 B2;have P4:=hi9 (P3.out.keep (zb w3 (.map #[] 0)));have B4:=bh B3 (zb w3 (.map #[] 0));have R4:=hi9 (R3.out.alloc (.map #[] 0));have M4:=hi9 (show zdG (w3.alloc (.map #[] 0)) w3.heap.size [] from World.ownsMap_made _ _ _ _);have HB:=hi9 R3.out.owns.lt;have HR:=hi9 R3.out.lt;have HBM:=hi9 B3.out.size;have S4:=hi9 (HH.out.store B4.out (by rw [←HL.out];exact R4.out.owns) (Nat.ne_of_lt HB.out) B3.out.size);generalize w3.alloc (.map #[] 0)=w4 at *;generalize w3.heap.size=bm at *;generalize w2.heap.size=bu at *;have hun:=Nat.le_trans (zmJ (zaA E) []) (zdd E (fun x hx=>(HO1.out x hx).2));have KA:=hi9 (zj9 E b bm HO2.out HUO.out 100 w4 e.u [] (HUO.out e HE.out) (fun x hx=>(nomatch hx)) (by have:=HL.out;omega) (by have:=HL.out;simp only [List.length_nil];omega) S4.out M4.out);unfold udV at KA;clear hun P3 B3 R3 M4 S4;refine KA.out.mono ?_;rintro e2 w5 ⟨rfl,M',hA,hok',-,hm',hg'⟩;have M5:=hi9 hm';have R5:=hi9 (R4.out.kept hg' (by intro h;injection h with h;have:=HB.out;omega) (by intro h;injection h with h;have:=HR.out;omega));have c0:=hg'.cell P4.out.c0 (by intro h;injection h with h;exact HB2.out h);have c1:=hg'.cell P4.out.c1 (by intro h;injection h with h;exact HB2.out h);have B5:=hi9 (B4.out.grown hg' B4.out.size (fun g hg=>by cases hg;exact HBM.out));have HK:=hi9 (zbE e.u (HUO.out e HE.out));unfold udV at HK;have HAM:=hi9 (zeR (zi9 M') e.u (HUO.out e HE.out) (.int .i64 0) (zla hok'));rw [zgc] at HAM;have HAA:=hi9 (zsW hA e.u);clear hA hok' hm' hg' KA R4 P4 B4;by_cases hp:e.u∈M'
      ·rw [if_pos (jZ.2 hp)] at HAM;have HE2:=hi9 (HE7.out ⟨e,HE.out,HAA.out.1 hp⟩);clear hp;go_wp2_with (at_lookup;refine jX _ rfl _ _ 85 rfl 24 3 zau Tryz.underlying85 (zc6 _) bm M'.length _ rfl M5.out _ _ rfl HK.out _ HAM.out ?_);go_wp2_with fail;go_ret;exact⟨by rw [HE2.out];rfl,B5.out⟩
      ·rw [if_neg (fun e=>hp (jZ.1 e))] at HAM;have HNA:=hi9 (fun h=>hp (HAA.out.2 h));clear hp;go_wp2_with (at_lookup;refine jX _ rfl _ _ 85 rfl 24 3 zau Tryz.underlying85 (zc6 _) bm M'.length _ rfl M5.out _ _ rfl HK.out _ HAM.out ?_);go_wp2_with fail;go_roundw
       case rel=>exact⟨_,_,hi9 (hR.out.step HUO.out HE.out HNA.out R5.out B5.out)⟩
       case measure=>rw [R5.out.left_eq,hR.out.rg.left_eq];exact HLT.out
end Go.Proofs.YtkfgabdnppmglaaGreatDoor
namespace Go.Proofs.YtkfgabdnppmglaaGreatDoor
open Go.RowKit Go.Wk Go.Maps
theorem zrp{E:List En}(h:ji E=0):E.length≤16∧jP [] E=0∧∀x∈E,¬Abv (jj E) x.u x.u:=by
 unfold ji at h;split at h
 ·cases h
 ·rename_i h1;split at h
  ·rename_i h2;split at h
   ·cases h
   ·rename_i h3;exact⟨by omega,h2,fun x hx hc=>h3 ⟨x,hx,hc⟩⟩
  ·rename_i h2;exact absurd h h2
open Classical in
noncomputable def inB(E:List En)(a b:Ud):Bool:=decide (ji E=0∧(b=a∨Abv (jj E) a b))
theorem Vr2.but{w w':World}{b:Nat}{x y:Value}{g:Option Nat}(h:Vr2 w b x y)(hg:w.grownBy w' g)(hn:some b≠g):Vr2 w' b x y :=
 have hl:=block_lt_of_cell h.c0
 have hb:=hg.block b hl hn
 ⟨(World.cell?_of_block (a:=⟨b,0,none⟩) hb).trans h.c0,(World.cell?_of_block (a:=⟨b,1,none⟩) hb).trans h.c1,(World.frozen?_of_block (a:=⟨b,0,none⟩) hb).trans h.z0,(World.frozen?_of_block (a:=⟨b,1,none⟩) hb).trans h.z1⟩
theorem zG(w:World):Below w.heap.size w w.drew:=⟨rfl,rfl,rfl,Nat.le_refl _,fun _ _=>rfl⟩
theorem zlS{E:List En}{a b:Ud}(hs:ji E=0)(h:b=a∨Abv (jj E) a b):inB E a b=true:=by unfold inB;exact @decide_eq_true _ (_) ⟨hs,h⟩
theorem zj2{E:List En}{a b:Ud}(h:¬(b=a∨Abv (jj E) a b)):inB E a b=false:=by unfold inB;exact @decide_eq_false _ (_) fun h2=>h h2.2
theorem ztd{E:List En}{a b:Ud}(h:ji E≠0):inB E a b=false:=by unfold inB;exact @decide_eq_false _ (_) fun h2=>h h2.1
theorem zuU(A:Option Addr)(n c:Nat)(E:List En)(a b:Ud)(w:World)(h:Es w A n c E)(ha:UOk a)(hb:UOk b):
 Calls Tryz.prog 131 #[.slice A n c,udV a,udV b] w fun e w'=>e = .returned (.tuple #[.bool (inB E a b),j3 (ji E)])∧Below w.heap.size w w':=by
 have hmm:=@run_makeMap Tryz.prog;have HH:=hi9 h;have HUO:=hi9 h.uok;have HL:=hi9 h.len;have HA:=hi9 ha;have HBO:=hi9 hb;clear h ha hb;unfold udV;go_enter Tryz.func131,Tryz.ntmps131;go_wp2_with fail;have hsz:(w.alloc (.cells #[.string a.1,.string a.2] 24)).heap.size=w.heap.size+1:=by simp
 have P0:=hi9 (j8 w (.string a.1) (.string a.2) 24);have B0:=hi9 (zb w (.cells #[.string a.1,.string a.2] 24));obtain⟨w0,hw0⟩:∃w0,w.alloc (.cells #[.string a.1,.string a.2] 24)=w0:=⟨_,rfl⟩
 rw [hw0] at P0 B0 hsz ⊢;rw [←hsz];have HZ:=hi9 (show w.heap.size≠w0.heap.size by omega);clear hw0 hsz;have P1:=hi9 (P0.out.keep (zb w0 (.cells #[.string b.1,.string b.2] 24)));have Q1:=hi9 (j8 w0 (.string b.1) (.string b.2) 24);have B1:=bh B0 (zb w0 (.cells #[.string b.1,.string b.2] 24));obtain⟨w1,hw1⟩:∃w1,w0.alloc (.cells #[.string b.1,.string b.2] 24)=w1:=⟨_,rfl⟩
 have HZ1:=hi9 (show w0.heap.size<w1.heap.size by rw [←hw1];simp);rw [hw1] at P1 Q1 B1 ⊢;have HZ0:=hi9 (show w.heap.size<w1.heap.size by have:=B0.out.size;have:=HZ1.out;omega);clear hw1 P0 B0;generalize w.heap.size=ba at P1 HZ HZ0 ⊢;generalize w0.heap.size=bb at *;have K1:=hi9 (zfL A n c E w1 (HH.out.keep B1.out));refine K1.out.mono ?_;rintro e w2 ⟨rfl,b2⟩;have P2:=hi9 (P1.out.keep b2);have Q2:=hi9 (Q1.out.keep b2);have B2:=bh B1 b2;have HZ2:=hi9 (show ba<w2.heap.size by have:=HZ0.out;have:=b2.size;omega);have HZ3:=hi9 (show bb<w2.heap.size by have:=HZ1.out;have:=b2.size;omega);clear K1 P1 Q1 B1 b2;by_cases hs:ji E=0
 ·obtain⟨hs1,hs2,-⟩:=zrp hs;obtain⟨ho1,-,ho2⟩:=ze7 E [] hs2;have HO1:=hi9 ho1;have HO2:=hi9 ho2;have H16:=hi9 hs1;have HIN1:=hi9 (show(b=a∨Abv (jj E) a b)→inB E a b=true from zlS hs);have HIN0:=hi9 (show¬(b=a∨Abv (jj E) a b)→inB E a b=false from zj2);have HSE:=hi9 hs;rw [hs,zo];clear hs hs1 hs2 ho1 ho2;have HK:=hi9 (zbE a HA.out);unfold udV at HK;obtain⟨c0,c1⟩:=P2.out.keep (zb w2 (.map #[] 0));have M3:=hi9 (show zdG (w2.alloc (.map #[] 0)) w2.heap.size [] from World.ownsMap_made _ _ _ _);have P3:=hi9 (P2.out.keep (zb w2 (.map #[] 0)));have Q3:=hi9 (Q2.out.keep (zb w2 (.map #[] 0)));have B3:=bh B2 (zb w2 (.map #[] 0));have HBM:=hi9 (show w.heap.size≤w2.heap.size from B2.out.size);clear P2 Q2 B2;obtain⟨w4,hrun,hown,hgrow⟩:=World.ownsMap.update (t:=85) M3.out zau Tryz.underlying85 (by decide) (val := .int .i64 1) HK.out (R:=zbg) rfl;have M4:=hi9 (show zdG w4 w2.heap.size [a] from hown);have P4:=hi9 (P3.out.but hgrow (by intro h;injection h with h;have:=HZ2.out;rw [h] at this;exact Nat.lt_irrefl _ this));have Q4:=hi9 (Q3.out.but hgrow (by intro h;injection h with h;have:=HZ3.out;rw [h] at this;exact Nat.lt_irrefl _ this));have B4:=hi9 (B3.out.grown hgrow B3.out.size (fun g hg=>by cases hg;exact HBM.out));clear hown hgrow P3 Q3 B3 M3;have K2:=hi9 (fun w' (hb:Below w.heap.size w w')=>ziF A n c E w' (HH.out.keep (hb)) (by have:=HL.out;have:=H16.out;omega));go_wp2_with fail;clear hrun c0 c1;generalize w2.heap.size=bm at *;have hun:=Nat.le_trans (zmJ (zaA E) [a]) (zdd E (fun x hx=>(HO1.out x hx).2));have KA:=hi9 (fun(bs:Nat) (w':World) (hS:zde w' bs bm E) (hM:zdG w' bm [a])=>zj9 E bs bm HO2.out HUO.out 101 w' a [a] HA.out (fun x hx=>by simp only [List.mem_cons,List.not_mem_nil,or_false] at hx;subst hx;exact HA.out) (by have:=H16.out;omega) (by have:=H16.out;simp only [List.length_cons,List.length_nil];omega) hS hM);unfold udV at KA;have PD:=hi9 (P4.out.keep (zG w4));have QD:=hi9 (Q4.out.keep (zG w4));have MD:=hi9 (show zdG w4.drew bm [a] from M4.out);have BD:=hi9 (show Below w.heap.size w w4.drew from B4.out.trans ((zG w4).mono B4.out.size));obtain⟨c0,c1,-,-⟩:=PD.out;have HLM:=hi9 (show bm<w4.drew.heap.size from MD.out.lt);clear hun P4 Q4 M4 B4;go_region_with (first
   |(go_at_call 38;(refine(K2.out _ BD.out).mono ?_);rintro e w5 ⟨bs,rfl,hbs,hO,b5⟩;(have P5:=hi9 (PD.out.keep b5));(have Q5:=hi9 (QD.out.keep b5));(obtain⟨d0,d1,-,-⟩:=PD.out.keep b5);(have B5:=hi9 (BD.out.trans (b5.mono BD.out.size)));(have KA5:=hi9 (KA.out bs w5 (HH.out.store B5.out (by rw [←HL.out];exact hO) (Nat.ne_of_gt (Nat.lt_of_lt_of_le HLM.out hbs)) HBM.out) (zay MD.out b5)));clear hbs hO b5)
   |(go_at_call 39;(refine KA5.out.mono ?_);rintro e2 w6 ⟨rfl,M',hA,hok',hc',hm',hg'⟩))
  all_goals
   have M6:=hi9 hm';have B6:=hi9 (B5.out.grown hg' B5.out.size (fun g hg=>by cases hg;exact HBM.out));obtain⟨f0,f1,-,-⟩:=Q5.out.but hg' (by intro h;injection h with h;have:=HZ3.out;rw [h] at this;exact Nat.lt_irrefl _ this);have HAA:=hi9 (zqQ hA b);have HKB:=hi9 (zbE b HBO.out);unfold udV at HKB;have HAM:=hi9 (zeR (zi9 M') b HBO.out (.int .i64 0) (zla hok'));rw [zgc] at HAM;clear hA hok' hc' hm' hg' d0 d1 KA5 KA P5 Q5 PD QD c0 c1
  all_goals
   by_cases hp:b∈M'
   ·rw [if_pos (jZ.2 hp)] at HAM;have HE2:=hi9 (HIN1.out (HAA.out.1 hp));clear hp;go_wp2_with (at_lookup;refine jX _ rfl _ _ 85 rfl 24 3 zau Tryz.underlying85 (zc6 _) bm M'.length _ rfl M6.out _ _ rfl HKB.out _ HAM.out ?_);go_wp2_with fail;go_ret2;exact⟨by rw [HE2.out,HSE.out];rfl,B6.out⟩
   ·rw [if_neg (fun e=>hp (jZ.1 e))] at HAM;have HE2:=hi9 (HIN0.out (fun h=>hp (HAA.out.2 h)));clear hp;go_wp2_with (at_lookup;refine jX _ rfl _ _ 85 rfl 24 3 zau Tryz.underlying85 (zc6 _) bm M'.length _ rfl M6.out _ _ rfl HKB.out _ HAM.out ?_);go_wp2_with fail;go_ret2;exact⟨by rw [HE2.out,HSE.out];rfl,B6.out⟩
 ·have hse:=hi9 hs;rw [zC hs];clear hs;go_wp2_with fail;go_ret2;exact⟨by rw [zC hse.out,ztd hse.out];rfl,B2.out⟩
end Go.Proofs.YtkfgabdnppmglaaGreatDoor
