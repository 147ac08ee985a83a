/-
  The document's KindAt, whole; TypeOf. (gen_reftyo.py)
-/
import Derived.Test.YtjcdeikbghjpkaaGreatDoorQ25
import Derived.Test.YtjcdeikbghjpkaaGreatDoorQ29
import Derived.Test.YtjcdeikbghjpkaaGreatDoorQ36
import Derived.Test.YtjcdeikbghjpkaaGreatDoorQ37
import Derived.Test.YtjcdeikbghjpkaaGreatDoorQ38
set_option maxRecDepth 100000
set_option maxHeartbeats 8000000
namespace Go.Proofs.YtjcdeikbghjpkaaGreatDoor
open Go.RowKit Go.Wk Go.Sort
theorem zrv{ps:Exs}(h:ps.len=2):∃a b,ps = .cons a (.cons b .nil):=by
 match ps,h with
 | .cons a (.cons b .nil),_=>exact⟨a,b,rfl⟩
theorem zoQ{ps:Exs}(h:ps.len=3):∃a b c,ps = .cons a (.cons b (.cons c .nil)):=by
 match ps,h with
 | .cons a (.cons b (.cons c .nil)),_=>exact⟨a,b,c,rfl⟩
theorem zp3(W:World)(k:Kx)(hCW:zfD W k)(hk:k.n≤4000):∀N,KaC W k N
 | 0=>fun x p FA fn fc L w h hb hx hN hF=>by
  obtain⟨n,ps⟩:=x;simp [Ex.flat] at hN
 | N+1=>fun x p FA fn fc L w h hb hx hN hF=>by
  have IH:=zp3 W k hCW hk N;obtain⟨n,ps⟩:=x;have hN':ps.flat.length≤N:=by simpa [Ex.flat] using hN
  have hF':zdg W w FA fn fc L (ps.flat.length+1):=by simpa [Ex.flat] using hF
  have hl:=hx.valid.2.1;by_cases h6:n.op=6
  ·exact zsH W k N IH n ps p FA fn fc L w hCW h hb hk hx hN' hF' h6
  by_cases h11:n.op=11
  ·obtain⟨a,b,hps⟩:=zrv (ps:=ps) (by
    unfold zp at hl
    repeat' split at hl
    all_goals omega)
   exact zsQ W k N IH n ps p FA fn fc L w hCW h hb hk hx hN' hF' h11 a b hps
  by_cases h13:n.op=13
  ·obtain⟨a,b,c,hps⟩:=zoQ (ps:=ps) (by
    unfold zp at hl
    repeat' split at hl
    all_goals omega)
   exact zs5 W k N IH n ps p FA fn fc L w hCW h hb hk hx hN' hF' h13 a b c hps
  exact zq2 W k N IH n ps p FA fn fc L w hCW h hb hk hx hN' hF' h6 h11 h13
theorem znv(s:Sc)(who act what:ByteArray)(A:Option Addr)(n c:Nat)(P:List Nd)(w:World)(hs:zcO w s)(h1:who.size≤maxLen)(h3:what.size≤maxLen)(hP:Ns w A n c P):
 Calls Tryz.prog 5 #[s.v,.string who,.string act,.string what,.slice A n c] w (zR (fun b=>b<w.heap.size) w (zcD s.k s.a who act what P)):=by
 have b1:=za w (.cells #[.slice s.KA s.kn s.kc,.slice s.AA s.an s.ac] 25);have B0:=hi9 (b1.trans ((za (w.alloc (.cells #[.slice s.KA s.kn s.kc,.slice s.AA s.an s.ac] 25)) (.cells #[.slice none 0 0,.int .i64 0] 30)).mono b1.size));have V0:=hi9 ((zb9 w s 25).keep (za _ (.cells #[.slice none 0 0,.int .i64 0] 30)));have R0:=hi9 (zeH w (.cells #[.slice s.KA s.kn s.kc,.slice s.AA s.an s.ac] 25) 30);have C1:=hi9 (fun w' (hb:Below w.heap.size w w')=>zhk s w' (hs.keep hb));have C3:=hi9 (fun w' (hb:Below w.heap.size w w')=>zok A n c P w' (hP.keep hb));have C4:=hi9 (fun w' (hb:Below w.heap.size w w')=>zoP s act w' (hs.keep hb));have HS:=hi9 hs;have HP:=hi9 hP;have HW:=hi9 (And.intro h1 h3);obtain⟨RR,hRR⟩:∃RR,RR=zcD s.k s.a who act what P:=⟨_,rfl⟩
 rw [←hRR];have HX1:=hi9 (show zaa s.k s.a≠0→RR = .error (zaa s.k s.a) from fun h=>by have h0:=zB (y:=zT P) h;rw [hRR,zdd (by rw [h0];exact h),h0]);have HX2:=hi9 (show zaa s.k s.a=0→zT P≠0→RR = .error (zT P) from fun h g=>by rw [hRR,zdd (by rw [h,zs];exact g),h,zs]);have HX3:=hi9 (show zaa s.k s.a=0→zT P=0→zbx s.a act=none→RR = .error 3 from fun h g e=>by rw [hRR,zeX (jk.2 ⟨h,g⟩) e]);have HX4:=hi9 (show zaa s.k s.a=0→zT P=0→∀a,zbx s.a act=some a→¬(jS a.who who && jS a.what what)=true→RR = .error 2 from fun h g a e hh=>by rw [hRR,zgn (jk.2 ⟨h,g⟩) e hh]);have HX5:=hi9 (show zaa s.k s.a=0→zT P=0→∀a,zbx s.a act=some a→(jS a.who who && jS a.what what)=true→∃x:Ex,x.valid false∧P=x.flat∧P.length≤200∧zcF ⟨s.k,a,who,what⟩∧RR=tyX ⟨s.k,a,who,what⟩ x [] from fun h g a e hh=>by
  obtain⟨hl,x,hx,hPx⟩:=zcd.1 g
  exact⟨x,hx,hPx,hl,zpV h (List.mem_of_find?_eq_some e) hh,by rw [hRR,zfK (jk.2 ⟨h,g⟩) e hh hx hPx]⟩)
 have HKIN:=hi9 (show zaa s.k s.a=0→(∀y∈s.K,∀a,y.NA=some a→a.block<w.heap.size)∧∀y∈s.L,∀a,y.NA=some a→a.block<w.heap.size from fun h=>by
  obtain⟨-,-,q1,q2⟩:=zjW.1 h
  refine⟨fun y hy a e=>?_,fun y hy a e=>?_⟩
  ·obtain⟨i,hi,rfl⟩:=List.getElem_of_mem hy
   obtain⟨ka,-,-,-,-,hok⟩:=hs.k.at_ i _ (List.getElem?_eq_getElem hi)
   obtain⟨f,hf⟩:=zew (zir _ _ q1 _ (List.mem_map_of_mem hy)).1
   have hn:=hok.ns
   rw [e] at hn
   exact zbv hn (by rw [hf.e];simp [Kd.flat])
  ·obtain⟨i,hi,rfl⟩:=List.getElem_of_mem hy
   obtain⟨ka,-,-,-,-,-,hok⟩:=hs.a.at_ i _ (List.getElem?_eq_getElem hi)
   obtain⟨f,hf⟩:=zew (ziI _ _ q2 _ (List.mem_map_of_mem hy))
   have hn:=hok.ns
   rw [e] at hn
   exact zbv hn (by rw [hf.e];simp [Kd.flat]))
 unfold Sc.v at C1 C4 ⊢;generalize zaa s.k s.a=f1 at *;generalize zT P=f3 at *;clear b1 hs hP h1 h3 hRR;obtain⟨v0,v1⟩:=V0.out;go_enter Tryz.func5,Tryz.ntmps5;go_wp2_with fail;refine(C1.out _ B0.out).mono ?_;rintro e w1 ⟨rfl,b1⟩;have B1:=bh B0 b1;have R1:=hi9 (R0.out.keep b1);have V1:=hi9 (V0.out.keep b1);clear b1;clear v0 v1;obtain⟨v0,v1⟩:=V1.out;by_cases q1:f1=0
 case neg =>
  have g1:(f1==0)=false:=beq_eq_false_iff_ne.2 q1;have g2:(f1 != 0)=true:=by simpa using q1
  have HR:=hi9 (HX1.out q1);clear HX1 HX2 HX3 HX4 HX5 HKIN C1 C3 C4 q1;go_wp2_with fail;refine(zH _ _).mono ?_;rintro e w2 ⟨rfl,b2⟩;have B2:=bh B1 b2;have R2:=hi9 (R1.out.keep b2);clear b2;have RS:=R2.out.set (.slice none 0 0) (.int .i64 f1);obtain⟨s0,s1,-,-⟩:=RS;have GF:=hi9 (zq (S:=fun b=>b<w.heap.size) (r := .error f1) (zY _) (zI (S:=fun b=>b<w.heap.size)) B2.out (show w.heap.size≤w.heap.size+1 by omega));obtain⟨r0,r1,z0,z1⟩:=R2.out;go_wp2_with fail;exact bodyPost_ret (v := .agg #[.slice none 0 0,.int .i64 f1]) (by simp [results,Tryz.results5,go_sem,s0,s1]) rfl (by rw [HR.out];exact GF.out)
 subst q1;go_wp2_with fail;refine(C3.out _ B1.out).mono ?_;rintro e w2 ⟨rfl,b2⟩;have B2:=bh B1 b2;have R2:=hi9 (R1.out.keep b2);have V2:=hi9 (V1.out.keep b2);clear b2;clear v0 v1;obtain⟨v0,v1⟩:=V2.out;by_cases q3:f3=0
 case neg =>
  have g2:(f3 != 0)=true:=by simpa using q3
  have HR:=hi9 (HX2.out (by first|rfl|trivial) q3);clear HX1 HX2 HX3 HX4 HX5 HKIN C1 C3 C4 q3;go_wp2_with fail;refine(zH _ _).mono ?_;rintro e w3 ⟨rfl,b3⟩;have B3:=bh B2 b3;have R3:=hi9 (R2.out.keep b3);clear b3;have RS:=R3.out.set (.slice none 0 0) (.int .i64 f3);obtain⟨s0,s1,-,-⟩:=RS;have GF:=hi9 (zq (S:=fun b=>b<w.heap.size) (r := .error f3) (zY _) (zI (S:=fun b=>b<w.heap.size)) B3.out (show w.heap.size≤w.heap.size+1 by omega));obtain⟨r0,r1,z0,z1⟩:=R3.out;go_wp2_with fail;exact bodyPost_ret (v := .agg #[.slice none 0 0,.int .i64 f3]) (by simp [results,Tryz.results5,go_sem,s0,s1]) rfl (by rw [HR.out];exact GF.out)
 subst q3;go_wp2_with fail;refine(C4.out _ B2.out).mono ?_;rintro e w3 ⟨hao,b3⟩;have B3:=bh B2 b3;have R3:=hi9 (R2.out.keep b3);have V3:=hi9 (V2.out.keep b3);clear b3 v0 v1 C1 C3 C4;obtain⟨v0,v1⟩:=V3.out;rcases hao with ⟨ha,rfl⟩|⟨i,hi,ha,rfl⟩
 ·have HR:=hi9 (HX3.out (by first|rfl|trivial) (by first|rfl|trivial) ha);clear HX1 HX2 HX3 HX4 HX5 HKIN ha;go_wp2_with fail;refine(zH _ _).mono ?_;rintro e w4 ⟨rfl,b4⟩;have B4:=bh B3 b4;have R4:=hi9 (R3.out.keep b4);clear b4;have RS:=R4.out.set (.slice none 0 0) (.int .i64 3);obtain⟨s0,s1,-,-⟩:=RS;have GF:=hi9 (zq (S:=fun b=>b<w.heap.size) (r := .error 3) (zY _) (zI (S:=fun b=>b<w.heap.size)) B4.out (show w.heap.size≤w.heap.size+1 by omega));obtain⟨r0,r1,z0,z1⟩:=R4.out;go_wp2_with fail;exact bodyPost_ret (v := .agg #[.slice none 0 0,.int .i64 3]) (by simp [results,Tryz.results5,go_sem,s0,s1]) rfl (by rw [HR.out];exact GF.out)
 have HA:=hi9 ha;obtain⟨aa,eaa,d0,d1,d2,d3,hok⟩:=(HS.out.a.keep B3.out).at_ i _ (List.getElem?_eq_getElem hi);have hil:i<s.an:=by rw [HS.out.a.len];exact hi
 have hii:(i:Int)<(s.an:Int):=by omega
 have hmx:=HS.out.a.max;unfold maxLen at hmx;have HI:=hi9 hi;have K1:=hi9 (zjH who s.L[i].WA s.L[i].wn s.L[i].wc s.L[i].d.who w3 hok.ws);have K2:=hi9 (zjH what s.L[i].TA s.L[i].tn s.L[i].tc s.L[i].d.what w3 hok.ts);have HX6:=hi9 (HX4.out (by first|rfl|trivial) (by first|rfl|trivial) s.L[i].d ha);have HX7:=hi9 (HX5.out (by first|rfl|trivial) (by first|rfl|trivial) s.L[i].d ha);have HLI:=hi9 (List.getElem?_eq_getElem hi);generalize s.L[i]=y at *;have hneg:decide ((i:Int)<0)=false:=decide_eq_false (by omega);clear ha hi hok HX1 HX2 HX3 HX4 HX5;rw [eaa] at v1;go_wp2_with fail;refine K1.out.mono ?_;rintro e w4 ⟨rfl,rfl⟩;rcases hb1:jS y.d.who who with _|_
 ·have HR:=hi9 (HX6.out (by rw [hb1];simp));clear HX6 HX7 HKIN;go_wp2_with fail;refine(zH _ _).mono ?_;rintro e w4 ⟨rfl,b4⟩;have B4:=bh B3 b4;have R4:=hi9 (R3.out.keep b4);clear b4;have RS:=R4.out.set (.slice none 0 0) (.int .i64 2);obtain⟨s0,s1,-,-⟩:=RS;have GF:=hi9 (zq (S:=fun b=>b<w.heap.size) (r := .error 2) (zY _) (zI (S:=fun b=>b<w.heap.size)) B4.out (show w.heap.size≤w.heap.size+1 by omega));obtain⟨r0,r1,z0,z1⟩:=R4.out;go_wp2_with fail;exact bodyPost_ret (v := .agg #[.slice none 0 0,.int .i64 2]) (by simp [results,Tryz.results5,go_sem,s0,s1]) rfl (by rw [HR.out];exact GF.out)
 go_wp2_with fail;refine K2.out.mono ?_;rintro e w5 ⟨rfl,rfl⟩;rcases hb2:jS y.d.what what with _|_
 ·have HR:=hi9 (HX6.out (by rw [hb1,hb2];simp));clear HX6 HX7 HKIN;go_wp2_with fail;refine(zH _ _).mono ?_;rintro e w4 ⟨rfl,b4⟩;have B4:=bh B3 b4;have R4:=hi9 (R3.out.keep b4);clear b4;have RS:=R4.out.set (.slice none 0 0) (.int .i64 2);obtain⟨s0,s1,-,-⟩:=RS;have GF:=hi9 (zq (S:=fun b=>b<w.heap.size) (r := .error 2) (zY _) (zI (S:=fun b=>b<w.heap.size)) B4.out (show w.heap.size≤w.heap.size+1 by omega));obtain⟨r0,r1,z0,z1⟩:=R4.out;go_wp2_with fail;exact bodyPost_ret (v := .agg #[.slice none 0 0,.int .i64 2]) (by simp [results,Tryz.results5,go_sem,s0,s1]) rfl (by rw [HR.out];exact GF.out)
 obtain⟨x,hx,hPx,hl,hst,hrr⟩:=HX7.out (by rw [hb1,hb2];rfl);obtain⟨k1,k2⟩:=HKIN.out (by first|rfl|trivial);have hn4:n≤4000:=by rw [HP.out.len];omega
 have hKW:zfD w ⟨⟨s,who,what,i,y,w.heap.size⟩,A,n,c,P⟩:=⟨⟨HS.out,HLI.out,HW.out.1,HW.out.2,hst,Nat.le_refl _,fun a e=>k2 y (List.mem_of_getElem? HLI.out) a e,k1⟩,HP.out⟩
 have KA:=hi9 (zp3 w ⟨⟨s,who,what,i,y,w.heap.size⟩,A,n,c,P⟩ hKW hn4 _ x 0 none 0 0 [] w3 (hKW.keep B3.out) B3.out (by rw [hPx];exact XAt.all hx) (Nat.le_refl _) ⟨zlh w3,fun _=>⟨rfl,rfl⟩,by rw [hPx] at hl;simp only [List.length_nil];omega,fun z hz=>(by cases hz)⟩);rw [show tyX (Rs.t ⟨s,who,what,i,y,w.heap.size⟩) x (ftK [])=RR from hrr.symm] at KA;unfold zR Rs.v at KA;dsimp only at KA;rw [eaa] at KA;clear hx hPx hl hst hrr k1 k2 hn4 hKW HX6 HX7 HKIN d0 d1 d2 d3;go_wp2_with fail;refine KA.out.mono ?_;rintro e w6 ⟨A6,n6,c6,rfl,hN6,hf6,b6⟩;have B6:=bh B3 b6;have R6:=hi9 (R3.out.keep b6);have N6:=hi9 hN6;have FX:=hi9 (show∀a,A6=some a→(a.block<w.heap.size∨w.heap.size≤a.block)∧a.block≠w.heap.size+1 from fun a e=>by
  have h1:w.heap.size+1<w3.heap.size:=block_lt_of_cell R3.out.c0
  rcases hf6 a e with h|h
  ·exact⟨.inl h,by omega⟩
  ·exact⟨.inr (by omega),by omega⟩)
 clear b6 hN6 hf6;have RS:=R6.out.set (.slice A6 n6 c6) (.int .i64 (tyE RR));obtain⟨s0,s1,-,-⟩:=RS;have GF:=hi9 (zq (S:=fun b=>b<w.heap.size) (r:=RR) N6.out FX.out B6.out (show w.heap.size≤w.heap.size+1 by omega));obtain⟨r0,r1,z0,z1⟩:=R6.out;go_wp2_with fail;exact bodyPost_ret (v := .agg #[.slice A6 n6 c6,.int .i64 (tyE RR)]) (by simp [results,Tryz.results5,go_sem,s0,s1]) rfl GF.out
end Go.Proofs.YtjcdeikbghjpkaaGreatDoor
