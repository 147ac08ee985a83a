/-
  fold.Better, ahead of worth's contract. fold: is an entity among nodes ..
-/
import Derived.Test.YtokiogmfgpidmaaGreatDoorQ27
set_option maxRecDepth 100000
set_option maxHeartbeats 4000000
namespace Go.Proofs.YtokiogmfgpidmaaGreatDoor
open Go.RowKit Go.Wk Go.Sort
def l8(w:World)(P:List Nd)(e:Ending)(w':World):Prop :=
 ∃(A:Option Addr) (n c:Nat),e = .returned (.tuple #[.slice A n c,jr (jc P)])/\(∀x:Ex,x.valid false->P=x.flat->P.length<=200->Ns w' A n c (jC [] false x).flat)/\Below w.heap.size w w'
theorem CG(hw:Ee)(A:Option Addr)(n c:Nat)(x:Ex)(w:World)(hv:x.valid false)(hl:x.flat.length<=200)(h:Ns w A n c x.flat)(hd:aD w):
 Calls Tryz.prog 5 #[.slice A n c] w (l8 w x.flat):=by
 have h0:jc x.flat=0:=jO.2 ⟨hl,x,hv,rfl⟩;have K1:=O (de A n c x.flat w h);rw [h0,zk] at K1;have vS:=O h;have HD:=O hd;have HV:=O hv;have HL:=O hl;have H0:=O h0;have HW:=O hw;have Oc:=O (show(jC [] false x).flat.length<=200 from Nat.le_trans (nt cN x false hv) hl);clear h hd hv hl h0 hw;go_enter Tryz.func5,Tryz.ntmps5;go_wp2_with fail;refine K1.o.mono ?_;rintro e w1 ⟨rfl,b1⟩;have B1:=O b1;have KR:=O (rm x.flat.length x false A n c [] w1 (Nat.le_refl _) (Nat.le_trans HL.o (by decide)) HV.o (by rw [List.append_nil];exact vS.o.keep b1));clear b1 K1;go_wp2_with fail;refine KR.o.mono ?_;rintro e w2 ⟨o,n',s,t,A1,m,k,A2,n2,c2,rfl,hx,-,b2⟩;have b3:=zb w2 (.cells #[.int .i64 o,.int .i64 n',.string s,.string t,.slice A1 m k] 49);have B3:=O (B1.o.trans ((b2.trans (b3.mono b2.size)).mono B1.o.size));have KB:=O (yN HW.o x.flat.length x false (Nat.le_refl _) HL.o HV.o _ (w2.alloc (.cells #[.int .i64 o,.int .i64 n',.string s,.string t,.slice A1 m k] 49)) (λb=>w1.heap.size<=b/\b<w2.heap.size) (λb hb=>Nat.lt_of_lt_of_le hb.2 b3.size) (PAt.cong (λb hb=>b3.block b hb.2) _ _ (PAt.mono (λb h1 h2=>⟨h1,h2⟩) _ _ hx)) (HD.o.keep B3.o));clear hx b2 b3 KR;go_wp2_with fail;refine KB.o.mono ?_;rintro e w4 ⟨o4,n4,s4,t4,A4,m4,c4,rfl,On,b4⟩;have B4:=O (B3.o.trans (b4.mono B3.o.size));have h4:=PAt.mono (B':=λb=>b<w4.heap.size) (λb h1 h2=>h2) _ _ On;have C4:=O (PAt.ok _ _ On);have KF:=O (l9 200 (jC [] false x) _ w4 (λb=>b<w4.heap.size) w4.heap.size (.slice none 0 0) [] Oc.o (by have:=Oc.o;simp;omega) h4 (mU _ _) (Nat.le_refl _) (λb hb=>hb));clear On b4 h4 KB;go_wp2_with fail;refine KF.o.mono ?_;rintro e w5 ⟨v5,rfl,r5,g5,-⟩;rw [List.nil_append] at r5;obtain⟨A5,n5,c5,rfl,-,hns5⟩:=r5.ns C4.o (Nat.le_trans Oc.o (by decide));have N5:=O hns5;have B5:=O (show Below w.heap.size w w5 from B4.o.trans ⟨g5.os,g5.tape,g5.output,g5.size,λi hi=>g5.block i (Nat.lt_of_lt_of_le hi B4.o.size) (λe=>nomatch e)⟩);clear r5 g5 hns5 KF;go_wp2_with fail;go_ret2;refine⟨A5,n5,c5,by rw [H0.o,zk];rfl,λy hy e _=>?_,B5.o⟩;rw [<-sX HV.o hy e];exact N5.o
theorem we(A:Option Addr)(n c:Nat)(P:List Nd)(w:World)(h:Ns w A n c P)(h0:jc P≠0):
 Calls Tryz.prog 5 #[.slice A n c] w (l8 w P):=by
 have K1:=O (de A n c P w h);have H0:=O h0;have HX:=O (show∀x:Ex,x.valid false->P=x.flat->P.length<=200->False from λx hv e hl=>h0 (jO.2 ⟨hl,x,hv,e⟩));rw [zn h0] at K1;clear h h0;go_enter Tryz.func5,Tryz.ntmps5;go_wp2_with fail;refine K1.o.mono ?_;rintro e w1 ⟨rfl,b1⟩;have B1:=O b1;clear b1 K1;go_wp2_with fail;go_ret2;exact⟨none,0,0,by rw [zn H0.o];rfl,λx hv e hl=>(HX.o x hv e hl).elim,B1.o⟩
theorem kY(hw:Ee)(A:Option Addr)(n c:Nat)(P:List Nd)(w:World)(h:Ns w A n c P)(hd:aD w):
 Calls Tryz.prog 5 #[.slice A n c] w (l8 w P):=by
 by_cases h0:jc P=0
 ·obtain⟨hl,x,hv,rfl⟩:=jO.1 h0;exact CG hw A n c x w hv hl h hd
 ·exact we A n c P w h h0
theorem Ft(x:Nd)(w:World):
 Calls Tryz.prog 67 #[.agg #[.int .i64 x.op,.int .i64 x.n,.string x.s,.string x.t]] w λe w'=>e = .returned (.bool (x.op==4))/\Below w.heap.size w w':=by
 go_enter Tryz.func67,Tryz.ntmps67;go_wp2_with fail;go_ret;exact⟨rfl,zb _ _⟩
def dh(P:List Nd):Bool:=P.any λm=>m.op==4
theorem xz{P:List Nd}{k:Nat}(h:k<P.length):dh (P.take (k+1))=(dh (P.take k)||(P[k].op==4)):=by
 unfold dh;rw [List.take_succ_eq_append_getElem h,List.any_append];simp
theorem oL(A:Option Addr)(n c:Nat)(P:List Nd)(w:World)(h:Ns w A n c P):
 Calls Tryz.prog 115 #[.slice A n c,.func (.func 67) #[] #[]] w
  λr w'=>(∃k:Int,r = .returned (.int .i64 k)/\(0<=k↔dh P=true))/\Below w.heap.size w w':=by
 have eg:∀args w,(callFunc 67 args).run Tryz.prog w = .ok (.enter 67 args) w:=enters_of Tryz.func67 (by kernel_rfl) rfl;have K:=O (λx (w':World)=>Ft x w');have HL:=O h.len;have HM:=h.max;unfold maxLen at HM;have HA:=O h;clear h;go_enter Tryz.func115,Tryz.ntmps115;go_wp2_with fail;go_loopw [5,8] (λ_ i wr=>∃k:Nat,k<=n/\i = .int .i64 k/\Hid (dh (P.take k)=false)/\Hid (Below w.heap.size w wr)) (λ_ i _=>n-(intOf i).toNat)
 case atStart=>exact⟨0,Nat.zero_le _,rfl,O rfl,O (Below.refl _ _)⟩
 case round =>
  obtain⟨k,hk,rfl,hN,hB⟩:=hrel;by_cases hlt:k<n
  ·have aR:k<P.length:=by rw [<-HL.o];exact hlt
   have HT:=O (xz aR);obtain⟨a,rfl,q0,q1,q2,q3⟩:=(HA.o.keep hB.o).at_ k _ (List.getElem?_eq_getElem aR);have KX:=O (K.o P[k] wr);have HY:=O (show(P[k].op==4)=true->dh P=true from λhe=>List.any_eq_true.2 ⟨_,List.getElem_mem aR,he⟩);generalize P[k]=x at *;rcases hd:(x.op==4) with _|_
   ·rw [hd,Bool.or_false,hN.o] at HT;rw [hd] at KX;clear hd;go_wp2_with (go_at_fn 67;refine KX.o.mono ?_;rintro e w1 ⟨rfl,b1⟩);have B1:=bh hB b1;clear q0 q1 q2 q3 hB b1 KX;go_wp2_with fail;go_roundw
    case rel=>exact⟨k+1,by omega,by go_num,HT,B1⟩
    case measure=>simp [intOf];omega
   ·rw [hd] at KX;have HZ:=O (HY.o hd);clear hd HT;go_wp2_with (go_at_fn 67;refine KX.o.mono ?_;rintro e w1 ⟨rfl,b1⟩);have B1:=bh hB b1;clear q0 q1 q2 q3 hB b1 KX;go_wp2_with fail;go_ret;exact⟨⟨k,rfl,by rw [HZ.o];simp⟩,B1.o⟩
  ·have HN:=O (show dh P=false by rw [<-hN.o,List.take_of_length_le (by rw [<-HL.o];omega)]);go_wp2_with fail;go_ret;exact⟨⟨-1,rfl,by rw [HN.o];simp⟩,hB.o⟩
theorem dS(A:Option Addr)(n c:Nat)(P:List Nd)(w:World)(h:Ns w A n c P):
 Calls Tryz.prog 66 #[.slice A n c,.func (.func 67) #[] #[]] w
  λr w'=>r = .returned (.bool (dh P))/\Below w.heap.size w w':=by
 have K:=O (oL A n c P w h);clear h;go_enter Tryz.func66,Tryz.ntmps66;go_wp2_with fail;refine K.o.mono ?_;rintro e w1 ⟨⟨k,rfl,hk⟩,b1⟩;have HK:=O hk;clear hk K;go_wp2_with fail;go_ret;refine⟨?_,b1⟩;cases hE:dh P
 ·have:¬0<=k:=λh=>by rw [HK.o.1 h] at hE;cases hE
  simp [this]
 ·have:=HK.o.2 hE;simp [this]
theorem wU{nd:Nd}{ps:Exs}(h:(ps.len=0/\nd.op≠5/\nd.op≠6)\/nd.op=7):jN [] false (.node nd ps)=none:=by
 simp only [jN];rw [if_pos (h.elim .inl λh => .inr (.inl h))]
theorem Fj(nd:Nd)(ps:Exs)(A:Option Addr)(c:Nat)(w:World)(B:Nat->Prop)(h:(ps.len=0/\nd.op≠5/\nd.op≠6)\/nd.op=7):
 Calls Tryz.prog 35 #[.agg #[.slice none 0 0,.bool false],.agg #[.int .i64 nd.op,.int .i64 nd.n,.string nd.s,.string nd.t,.slice A ps.len c]] w (ie w B (.node nd ps)):=by
 have HN:=O (wU h);obtain⟨o,n,s,t⟩:=nd;dsimp only at h ⊢;obtain⟨m,hm⟩:∃m,m=ps.len:=⟨_,rfl⟩
 rw [<-hm] at h ⊢;clear hm;have b0:=zb w (.cells #[.slice none 0 0,.bool false] 53);have b1:=zb (w.alloc (.cells #[.slice none 0 0,.bool false] 53)) (.cells #[.int .i64 o,.int .i64 n,.string s,.string t,.slice A m c] 49);have b2:=zb ((w.alloc (.cells #[.slice none 0 0,.bool false] 53)).alloc (.cells #[.int .i64 o,.int .i64 n,.string s,.string t,.slice A m c] 49)) (.cells #[.int .i64 o,.int .i64 n,.string s,.string t,.slice A m c] 49);have B3:=O (b0.trans ((b1.trans (b2.mono b1.size)).mono b0.size));have x2:=jp ((w.alloc (.cells #[.slice none 0 0,.bool false] 53)).alloc (.cells #[.int .i64 o,.int .i64 n,.string s,.string t,.slice A m c] 49)) (.int .i64 o) (.int .i64 n) (.string s) (.string t) (.slice A m c) 49;rw [show((w.alloc (.cells #[.slice none 0 0,.bool false] 53)).alloc (.cells #[.int .i64 o,.int .i64 n,.string s,.string t,.slice A m c] 49)).heap.size=w.heap.size+2 by simp] at x2;have X2:=O x2;clear b0 b1 b2 x2;rcases h with ⟨rfl,h5,h6⟩|rfl
 ·have e5:(o != 5)=true:=by simp [h5]
  have e6:(o != 6)=true:=by simp [h6]
  go_enter Tryz.func35,Tryz.ntmps35;go_wp2_with fail;obtain⟨s0,s1,s2,s3,s4,-,-,-,-,-⟩:=X2.o;exact bodyPost_ret (v := .tuple #[.agg #[.int .i64 o,.int .i64 n,.string s,.string t,.slice A 0 c],.bool false]) (by simp [results,Tryz.results35,go_sem,s0,s1,s2,s3,s4]) rfl ⟨_,_,_,_,_,_,_,false,rfl,λhb=>(nomatch hb),λ_=>HN.o,B3.o⟩
 ·by_cases hm:m=0
  ·subst hm;go_enter Tryz.func35,Tryz.ntmps35;go_wp2_with fail;obtain⟨s0,s1,s2,s3,s4,-,-,-,-,-⟩:=X2.o;exact bodyPost_ret (v := .tuple #[.agg #[.int .i64 7,.int .i64 n,.string s,.string t,.slice A 0 c],.bool false]) (by simp [results,Tryz.results35,go_sem,s0,s1,s2,s3,s4]) rfl ⟨_,_,_,_,_,_,_,false,rfl,λhb=>(nomatch hb),λ_=>HN.o,B3.o⟩
  ·have em:((m:Int)==0)=false:=by simp [hm]
   go_enter Tryz.func35,Tryz.ntmps35;go_wp2_with fail;obtain⟨s0,s1,s2,s3,s4,-,-,-,-,-⟩:=X2.o;exact bodyPost_ret (v := .tuple #[.agg #[.int .i64 7,.int .i64 n,.string s,.string t,.slice A m c],.bool false]) (by simp [results,Tryz.results35,go_sem,s0,s1,s2,s3,s4]) rfl ⟨_,_,_,_,_,_,_,false,rfl,λhb=>(nomatch hb),λ_=>HN.o,B3.o⟩
theorem Aw(nd:Nd)(ps:Exs)(A:Option Addr)(c:Nat)(w:World)(B:Nat->Prop)(hB:∀b,B b->b<w.heap.size)(hl:(Ex.node nd ps).flat.length<=200)(hx:PAt w B (.node nd ps) [.int .i64 nd.op,.int .i64 nd.n,.string nd.s,.string nd.t,.slice A ps.len c])(hk:¬((ps.len=0/\nd.op≠5/\nd.op≠6)\/nd.op=7))(hv:zc (Ex.node nd ps).flat=0):
 Calls Tryz.prog 35 #[.agg #[.slice none 0 0,.bool false],.agg #[.int .i64 nd.op,.int .i64 nd.n,.string nd.s,.string nd.t,.slice A ps.len c]] w (ie w B (.node nd ps)):=by
 have HN:=O (show jN [] false (.node nd ps)=none from by simp only [jN];rw [if_pos (.inr (.inr hv))]);have C4:=O (PAt.ok _ _ hx);have HL:=O hl;have HV:=O hv;have h7:nd.op≠7:=λe=>hk (.inr e);have v7:ps.len≠0\/nd.op=5\/nd.op=6:=by
  by_cases h0:ps.len=0
  ·by_cases h5:nd.op=5
   ·exact .inr (.inl h5)
   ·by_cases h6:nd.op=6
    ·exact .inr (.inr h6)
    ·exact(hk (.inl ⟨h0,h5,h6⟩)).elim
  ·exact .inl h0
 obtain⟨xx,LU⟩:∃xx,xx=Ex.node nd ps:=⟨_,rfl⟩
 rw [<-LU] at HN C4 HL HV hx ⊢;clear LU hk hl hv;obtain⟨o,n,s,t⟩:=nd;dsimp only at hx h7 v7 ⊢;obtain⟨m,hm⟩:∃m,m=ps.len:=⟨_,rfl⟩
 rw [<-hm] at hx v7 ⊢;clear hm;have b0:=zb w (.cells #[.slice none 0 0,.bool false] 53);have b1:=zb (w.alloc (.cells #[.slice none 0 0,.bool false] 53)) (.cells #[.int .i64 o,.int .i64 n,.string s,.string t,.slice A m c] 49);have b2:=zb ((w.alloc (.cells #[.slice none 0 0,.bool false] 53)).alloc (.cells #[.int .i64 o,.int .i64 n,.string s,.string t,.slice A m c] 49)) (.cells #[.int .i64 0,.int .i64 0,.string ⟨#[]⟩,.string ⟨#[]⟩,.slice none 0 0] 49);have B3:=O (b0.trans ((b1.trans (b2.mono b1.size)).mono b0.size));have x1:=jp (w.alloc (.cells #[.slice none 0 0,.bool false] 53)) (.int .i64 o) (.int .i64 n) (.string s) (.string t) (.slice A m c) 49;have x2:=jp ((w.alloc (.cells #[.slice none 0 0,.bool false] 53)).alloc (.cells #[.int .i64 o,.int .i64 n,.string s,.string t,.slice A m c] 49)) (.int .i64 0) (.int .i64 0) (.string ⟨#[]⟩) (.string ⟨#[]⟩) (.slice none 0 0) 49;rw [show(w.alloc (.cells #[.slice none 0 0,.bool false] 53)).heap.size=w.heap.size+1 by simp] at x1;rw [show((w.alloc (.cells #[.slice none 0 0,.bool false] 53)).alloc (.cells #[.int .i64 o,.int .i64 n,.string s,.string t,.slice A m c] 49)).heap.size=w.heap.size+2 by simp] at x2;have X1:=O (x1.keep b2);have X2:=O x2;have KF:=O (l9 200 xx _ (((w.alloc (.cells #[.slice none 0 0,.bool false] 53)).alloc (.cells #[.int .i64 o,.int .i64 n,.string s,.string t,.slice A m c] 49)).alloc (.cells #[.int .i64 0,.int .i64 0,.string ⟨#[]⟩,.string ⟨#[]⟩,.slice none 0 0] 49)) B (((w.alloc (.cells #[.slice none 0 0,.bool false] 53)).alloc (.cells #[.int .i64 o,.int .i64 n,.string s,.string t,.slice A m c] 49)).alloc (.cells #[.int .i64 0,.int .i64 0,.string ⟨#[]⟩,.string ⟨#[]⟩,.slice none 0 0] 49)).heap.size (.slice none 0 0) [] HL.o (by have:=HL.o;simp;omega) (PAt.cong (λb hb=>B3.o.block b (hB b hb)) _ _ hx) (mU _ _) (Nat.le_refl _) (λb hb=>Nat.lt_of_lt_of_le (hB b hb) B3.o.size));clear b0 b1 b2 x1 x2 hx hB;have e7:(o==7)=false:=by simp [h7]
 obtain⟨oo,LQ⟩:∃oo,oo=o:=⟨_,rfl⟩
 obtain⟨mm,Gt⟩:∃mm,mm=m:=⟨_,rfl⟩
 have Kf:=O LQ;have HMM:=O Gt;clear LQ Gt;rcases (show m≠0\/(m=0/\o=5)\/(m=0/\o=6) by omega) with hm|⟨rfl,rfl⟩|⟨rfl,rfl⟩
 case' inl=>have em:((m:Int)==0)=false:=by simp [hm]
 all_goals
  clear v7 h7;go_enter Tryz.func35,Tryz.ntmps35;go_wp2_with fail;refine KF.o.mono ?_;rintro e w4 ⟨v4,rfl,r4,g4,-⟩;rw [List.nil_append] at r4;obtain⟨A4,n4,c4,rfl,-,gh⟩:=r4.ns C4.o (Nat.le_trans HL.o (by decide));have b4:Below w.heap.size w w4:=B3.o.trans ⟨g4.os,g4.tape,g4.output,g4.size,λi hi=>g4.block i (Nat.lt_of_lt_of_le hi B3.o.size) (λe=>nomatch e)⟩;have K4:=O (d5 A4 n4 c4 _ w4 gh.len gh.cap gh.max gh.at_ gh.ok);rw [HV.o,zk] at K4;have Y1:=O (X1.o.but g4 (λe=>nomatch e));have Y2:=O (X2.o.but g4 (λe=>nomatch e));have B4:=O b4;clear r4 g4 gh b4 KF;go_wp2_with fail;refine K4.o.mono ?_;rintro e w5 ⟨rfl,b5⟩;have B5:=O (B4.o.trans (b5.mono B4.o.size));have Z1:=O (Y1.o.keep b5);have Z2:=O (Y2.o.keep b5);clear b5 K4 Y1 Y2 B4;obtain⟨x0,x1,x2,x3,x4,-,-,-,-,-⟩:=Z1.o;obtain⟨y0,y1,y2,y3,y4,z0,z1,z2,z3,z4⟩:=Z2.o;have r5:=Z2.o.set (.int .i64 oo) (.int .i64 n) (.string s) (.string t) (.slice A mm c);have f5:=jH B5.o (Nat.le_add_right w.heap.size 2) (.int .i64 oo) (.int .i64 n) (.string s) (.string t) (.slice A mm c);rw [Kf.o,HMM.o] at r5 f5;have R5:=O r5;have F5:=O f5;clear r5 f5;go_wp2_with fail;obtain⟨s0,s1,s2,s3,s4,-,-,-,-,-⟩:=R5.o;exact bodyPost_ret (v := .tuple #[.agg #[.int .i64 oo,.int .i64 n,.string s,.string t,.slice A mm c],.bool false]) (by simp [results,Tryz.results35,go_sem,s0,s1,s2,s3,s4,Kf.o,HMM.o]) rfl ⟨_,_,_,_,_,_,_,false,rfl,λhb=>(nomatch hb),λ_=>HN.o,F5.o⟩
end Go.Proofs.YtokiogmfgpidmaaGreatDoor
namespace Go.Proofs.YtokiogmfgpidmaaGreatDoor
open Go.RowKit Go.Wk
theorem nN{V:List Nd}(h:jK false V=true):zc V=0:=by
 unfold jK at h;rw [Bool.and_eq_true] at h;exact of_decide_eq_true h.1
theorem EZ{n:Nd}{ps:Exs}(h:(∃q∈exL ps,jK false (zN q)=false)\/(n.op=11\/n.op=12\/n.op=13)):jN [] false (.node n ps)=none:=by
 rw [jN];by_cases c1:(ps.len=0/\n.op≠5/\n.op≠6)\/n.op=7\/zc (Ex.node n ps).flat=0
 ·rw [if_pos c1]
 rw [if_neg c1];by_cases c2:(exL ps).all (λq=>jK false (zN q))=false
 ·rw [if_pos c2]
 rw [if_neg c2];rcases h with ⟨q,hq,h⟩|h
 ·refine(c2 ?_).elim;cases hb:(exL ps).all (λq=>jK false (zN q))
  ·rfl
  ·rw [List.all_eq_true.1 hb q hq] at h;cases h
 ·rw [if_pos h]
theorem uL{n:Nd}{ps:Exs}(hv:(Ex.node n ps).valid false)(c1:¬((ps.len=0/\n.op≠5/\n.op≠6)\/n.op=7))(c0:zc (Ex.node n ps).flat≠0)(c3:¬(n.op=11\/n.op=12\/n.op=13))(hall:∀q∈exL ps,jK false (zN q)=true):
 bo [] n ((exL ps).map λq=>q.head.s) ((exL ps).map zN)≠ .error 0/\
 (∀e,bo [] n ((exL ps).map λq=>q.head.s) ((exL ps).map zN)= .error e->jN [] false (.node n ps)=none)/\
 (∀V,bo [] n ((exL ps).map λq=>q.head.s) ((exL ps).map zN)= .ok V->∃y,jN [] false (.node n ps)=some y/\y.valid false/\y.flat=V/\V.length<=200):=by
 have c2:¬((ps.len=0/\n.op≠5/\n.op≠6)\/n.op=7\/zc (Ex.node n ps).flat=0):=λh=>h.elim (λh=>c1 (.inl h)) λh=>h.elim (λh=>c1 (.inr h)) c0;have e:=Df DN hv c2 c3 (λq hq=>nN (hall q hq));have hw:jN [] false (.node n ps)=match bo [] n ((exL ps).map λq=>q.head.s) ((exL ps).map zN) with
  | .error _=>none
  | .ok V=>fi V:=by
  rw [jN,if_neg c2,if_neg (λh=>(by rw [List.all_eq_true.2 hall] at h;cases h)),if_neg c3]
  rcases bo [] n ((exL ps).map λq=>q.head.s) ((exL ps).map zN) with _|_ <;> rfl
 refine⟨?_,λu h=>?_,λV h=>?_⟩
 ·rw [show bo [] n ((exL ps).map λq=>q.head.s) ((exL ps).map zN)=evX DN (.node n ps) from e.symm];exact gC _ hv
 ·rw [hw,h]
 ·have hV:=dD cN _ false hv V (e.trans h);obtain⟨y,hy,rfl,-⟩:=uA DN hV;exact⟨y,by rw [hw,h];exact bH.2 ⟨hy,rfl⟩,hy,rfl,(zH.1 hV).1⟩
theorem Ak{n:Nd}{ps:Exs}(hv:(Ex.node n ps).valid false)(c1:¬((ps.len=0/\n.op≠5/\n.op≠6)\/n.op=7))(c3:¬(n.op=11\/n.op=12\/n.op=13)):
 (n.op=5\/n.op=6)\/(n.op≠5/\n.op≠6/\ps.len=1/\(n.op=9\/n.op=10\/n.op=21\/n.op=22\/n.op=23\/n.op=24))\/(n.op≠5/\n.op≠6/\ps.len=2):=by
 have h:=hv.2.1;unfold zt at h
 repeat' split at h
 all_goals omega
theorem EM{x:Ex}(hv:x.valid true):x.head.op=7/\∃h r,x.flat=h :: r/\h.s=x.head.s/\r≠ []/\zN x=r:=by
 obtain⟨n,ps⟩:=x;obtain⟨h1,hl,-⟩:=hv;unfold jA at h1;rw [Bool.and_eq_true] at h1;have h7:n.op=7:=by simpa using h1.2
 have h2:ps.len=1:=by
  unfold zt at hl
  repeat' split at hl
  all_goals omega
 refine⟨h7,n,ps.flat,rfl,rfl,λh=>?_,?_⟩
 ·have:=am ps;rw [h] at this;simp at this;omega
 ·unfold zN;rw [if_pos (show(Ex.node n ps).head.op=7 from h7)];rfl
theorem xu{x:Ex}(hv:x.valid false):x.head.op≠7:=by
 obtain⟨n,ps⟩:=x;have h1:=hv.1;unfold jA at h1;rw [Bool.and_eq_true] at h1;have h7:n.op≠7:=by simpa using h1.2
 exact h7
end Go.Proofs.YtokiogmfgpidmaaGreatDoor
namespace Go.Proofs.YtokiogmfgpidmaaGreatDoor
open Go.RowKit Go.Wk Go.Sort
theorem sO(x:Ex)(u:List Value)(w:World)(B:Nat->Prop)(hl:x.flat.length<=200)(hx:PAt w B x u)(hB:∀b,B b->b<w.heap.size):
 Calls Tryz.prog 18 #[.agg u.toArray,.slice none 0 0] w λe w'=>∃a n c,e = .returned (.slice (some a) n c)/\Ns w' (some a) n c x.flat/\w.heap.size<=a.block/\Below w.heap.size w w':=by
 refine(l9 200 x u w B w.heap.size (.slice none 0 0) [] hl (by simp;omega) hx (mU _ _) (Nat.le_refl _) hB).mono ?_;rintro e w' ⟨v,rfl,r,g,-⟩;rw [List.nil_append] at r;obtain⟨A,c,rfl,h1,h2,h3⟩:=aT r.own
 cases A with
 | none =>
  have hp:=jh x
  obtain⟨a,e,-⟩:=h2 0 _ (List.getElem?_eq_getElem hp)
  cases e
 | some a=>exact⟨a,_,c,rfl,⟨rfl,h1,by unfold maxLen;omega,h2,PAt.ok _ _ hx⟩,h3 a rfl,⟨g.os,g.tape,g.output,g.size,λi hi=>g.block i hi (λe=>nomatch e)⟩⟩
structure WLp(w wr:World)(o n:Int)(s t:ByteArray)(A:Option Addr)(m c:Nat)(nv v:Value)(V:List Sl)(N:List ByteArray):Prop where
 F0:wr.cell? ⟨w.heap.size,0,none⟩=some (.slice none 0 0)
 F1:wr.cell? ⟨w.heap.size,1,none⟩=some (.bool false)
 X1:Bx5 wr (w.heap.size+1) (.int .i64 o) (.int .i64 n) (.string s) (.string t) (.slice A m c)
 X2:Bx5 wr (w.heap.size+2) (.int .i64 0) (.int .i64 0) (.string ⟨#[]⟩) (.string ⟨#[]⟩) (.slice none 0 0)
 T:jv wr (w.heap.size+3) v nv V N
 G:Below w.heap.size w wr
 z:w.heap.size+3<=wr.heap.size
section
variable {w wr w':World} {o n:Int} {s t:ByteArray} {A:Option Addr} {m c:Nat} {nv v:Value} {V:List Sl} {N:List ByteArray}
theorem WLp.keep(h:WLp w wr o n s t A m c nv v V N)(hb:Below wr.heap.size wr w'):WLp w w' o n s t A m c nv v V N :=
 ⟨za hb h.F0,za hb h.F1,h.X1.keep hb,h.X2.keep hb,h.T.keep hb,h.G.trans (hb.mono h.G.size),Nat.le_trans h.z hb.size⟩
theorem WLp.row{g:Option Nat}{nv' v':Value}{V':List Sl}{N':List ByteArray}(h:WLp w wr o n s t A m c nv v V N)(hg:wr.grownBy w' g)(hr:∀k,g=some k->w.heap.size+3<=k)(hT:jv w' (w.heap.size+3) v' nv' V' N'):WLp w w' o n s t A m c nv' v' V' N':=by
 have hn:∀b,b<w.heap.size+3->some b≠g:=λb hb e=>by have:=hr b e.symm;omega
 refine⟨hg.cell h.F0 (hn w.heap.size (by omega)),hg.cell h.F1 (hn w.heap.size (by omega)),h.X1.but hg (hn _ (by omega)),h.X2.but hg (hn _ (by omega)),hT,?_,Nat.le_trans h.z hg.size⟩;refine h.G.trans ?_;rcases g with _|k
 ·exact⟨hg.os,hg.tape,hg.output,hg.size,λi hi=>hg.block i (Nat.lt_of_lt_of_le hi h.G.size) (λe=>nomatch e)⟩
 ·exact jj hg (by have:=hr k rfl;omega) h.G.size
theorem WLp.left(h:WLp w wr o n s t A m c nv v V N)(B:Nat->Prop)(x:Ex)(hw:jN [] false x=none)(o' n':Int)(s' t':ByteArray)(A':Option Addr)(m' c':Nat):
 ie w B x (.returned (.tuple #[.agg #[.int .i64 o',.int .i64 n',.string s',.string t',.slice A' m' c'],.bool false])) (((((wr.setCell ⟨w.heap.size+2,0,none⟩ (.int .i64 o)).setCell ⟨w.heap.size+2,1,none⟩ (.int .i64 n)).setCell ⟨w.heap.size+2,2,none⟩ (.string s)).setCell ⟨w.heap.size+2,3,none⟩ (.string t)).setCell ⟨w.heap.size+2,4,none⟩ (.slice A m c)):=
 ⟨_,_,_,_,_,_,_,false,rfl,λhb=>(nomatch hb),λ_=>hw,jH h.G (Nat.le_add_right w.heap.size 2) _ _ _ _ _⟩
end
theorem xq{E:List En}{n:Nd}{N M:List ByteArray}{vs:List (List Nd)}(h:n.op=6->N=M):bo E n N vs=bo E n M vs:=by
 unfold bo;by_cases h6:n.op=6
 ·rw [h h6]
 ·rw [if_neg h6,if_neg h6]
theorem ci{V:List Nd}:jK false V=(decide (zc V=0)&& !dh V):=by
 unfold jK dh;rw [Bool.false_or];congr 1
 induction V with
 | nil=>rfl
 | cons a r ih=>simp only [List.all_cons,List.any_cons,ih,Bool.not_or];congr 1;by_cases h:a.op=4 <;> simp [h]
theorem FU{w9:World}{x:Ex}{u:List Value}{fb lo:Nat}(hk:PAt w9 (λb=>lo<=b) x u)(hfb:fb<lo)(o:Obj)(y0 y1 y2 y3 y4:Value):
 PAt ((((((w9.alloc o).setCell ⟨fb,0,none⟩ y0).setCell ⟨fb,1,none⟩ y1).setCell ⟨fb,2,none⟩ y2).setCell ⟨fb,3,none⟩ y3).setCell ⟨fb,4,none⟩ y4) (λb=>lo<=b) x u:=by
 have h1:=PAt.mono (B':=λb=>lo<=b/\b<w9.heap.size) (λb h1 h2=>⟨h1,h2⟩) _ _ hk;refine PAt.mono (λb hb _=>hb.1) _ _ (PAt.cong (λb hb=>?_) _ _ h1);exact(cV (w9.alloc o) fb y0 y1 y2 y3 y4 (by have:=hb.1;omega)).trans ((zb w9 o).block b hb.2)
end Go.Proofs.YtokiogmfgpidmaaGreatDoor
namespace Go.Proofs.YtokiogmfgpidmaaGreatDoor
open Go.Wk Go.ChangeShapes Go.WideShapes Go.RowKit
theorem p':Tryz.prog.cellsOf 96=4:=by kernel_rfl
theorem BM:Tryz.prog.cellsOf 94=1:=by kernel_rfl
theorem iq:Tryz.prog.cellsOf 22=1:=by kernel_rfl
theorem JA{w:World}{cs:List Value}(h:Rd Tryz.prog w 94 cs):∃(A:Option Addr) (n c:Nat) (P:List Ud),cs = [.slice A n c]/\Us w A n c P:=by
 obtain⟨A,n,c,rfl,h1,h2,h3⟩:=nj Tryz.underlying94 h;rw [bF] at h3;obtain⟨P,hl,hr⟩:=rW n (λk (x:Ud)=>(∃a,A=some a/\w.cell? (a.add (k*2))=some (.string x.1)/\w.cell? (a.add (k*2+1))=some (.string x.2))/\x.1.size<=maxLen/\x.2.size<=maxLen) (λi hi=>by
  obtain⟨a,rfl,cs',hl,hc,hr⟩:=h3 i hi
  obtain⟨s,t,rfl,q1,q2⟩:=nC hr
  exact⟨(s,t),⟨a,rfl,hc 0 (by omega),hc 1 (by omega)⟩,q1,q2⟩)
 refine⟨A,n,c,P,rfl,hl.symm,h1,by omega,λk x hx=>?_,λx hx=>?_⟩
 ·obtain⟨⟨a,e,q1,q2⟩,-⟩:=hr k x hx;refine⟨a,e,q1,?_⟩;rw [<-add_add] at q2;unfold Addr.add at q2 ⊢;simpa using q2
 ·obtain⟨k,hk,rfl⟩:=List.getElem_of_mem hx;exact(hr k _ (List.getElem?_eq_getElem hk)).2
theorem J4{w:World}{cs:List Value}(h:Rd Tryz.prog w 96 cs):∃x:En,cs = [.string x.u.1,.string x.u.2,.slice x.UA x.un x.uc,.slice x.NA x.nn x.nc]/\vd w x:=by
 have hl:=(dX Tryz.underlying96 h).1;rw [p'] at hl
 match cs,hl with
 | [c0,c1,c2,c3],_ =>
  have h0:Rd Tryz.prog w 36 [c0,c1]:=az Tryz.underlying96 h 0 36 0 2 rfl bF
  have h2:Rd Tryz.prog w 94 [c2]:=az Tryz.underlying96 h 1 94 2 1 rfl BM
  have h3:Rd Tryz.prog w 22 [c3]:=az Tryz.underlying96 h 2 22 3 1 rfl iq
  obtain⟨s,t,e0,s1,s2⟩:=nC h0
  obtain⟨UA,un,uc,ups,e2,hu⟩:=JA h2
  obtain⟨NA,nn,nc,P,e3,n1,n2,n3,n4,n5⟩:=mC h3
  simp only [List.cons.injEq,and_true] at e0 e2 e3
  exact⟨⟨(s,t),UA,un,uc,ups,NA,nn,nc,P⟩,by rw [e0.1,e0.2,e2,e3],s1,s2,hu,n1,n2,n3,n4,n5⟩
theorem BG{H:Type}{enc:TypeId × Value->H}{w:World}{b b0:Nat}{sp:Nat->Bool}{hd:Bool}{v:Value}{d:DataW H}{ps:List MemPlace}{r:Reach}
 (hv:Value.okWide Tryz.prog w r b0 34 v) (h:DataW.Trod enc Tryz.prog w b sp hd 34 v d ps):
 ∃(A:Option Addr) (n c:Nat) (E:List En),v = .slice A n c/\Es w A n c E:=by
 obtain⟨A',n',c',rfl⟩:=okWide_slice Tryz.underlying34 hv;obtain⟨A,n,c,e,h1,h2,h3⟩:=nj Tryz.underlying34 (gI h);rw [p'] at h3;have e':(Value.slice A' n' c')= .slice A n c:=by simpa [Value.cells] using e
 obtain⟨E,hl,hr⟩:=rW n (λk (x:En)=>(∃a,A=some a/\w.cell? (a.add (k*4))=some (.string x.u.1)/\w.cell? (a.add (k*4+1))=some (.string x.u.2)/\w.cell? (a.add (k*4+2))=some (.slice x.UA x.un x.uc)/\w.cell? (a.add (k*4+3))=some (.slice x.NA x.nn x.nc))/\vd w x) (λi hi=>by
  obtain⟨a,rfl,cs',hl,hc,hr⟩:=h3 i hi
  obtain⟨x,rfl,hx⟩:=J4 hr
  exact⟨x,⟨a,rfl,hc 0 (by omega),hc 1 (by omega),hc 2 (by omega),hc 3 (by omega)⟩,hx⟩)
 refine⟨A,n,c,E,e',hl.symm,h1,by omega,λk x hx=>?_⟩;obtain⟨⟨a,e,q1,q2,q3,q4⟩,hx⟩:=hr k x hx;refine⟨a,e,q1,?_,?_,?_,hx⟩
 all_goals
  rw [<-add_add] at q2 q3 q4;unfold Addr.add at q2 q3 q4 ⊢
  first|(simpa using q2)|(simpa using q3)|(simpa using q4)
end Go.Proofs.YtokiogmfgpidmaaGreatDoor
namespace Go.Wk
open Go.ChangeShapes Go.WideShapes Go.RowKit Go.Deep
section
variable {P:Program} {w:World} {t e:TypeId}
end
end Go.Wk
namespace Go.Proofs.YtokiogmfgpidmaaGreatDoor
open Go.Wk Go.ChangeShapes Go.WideShapes Go.RowKit
def mx(w:World)(A:Option Addr)(N:List ByteArray):Prop:=∀(k:Nat) (x:ByteArray),N[k]?=some x->∃a,A=some a/\w.cell? (a.add k)=some (.string x)
theorem mx.keep{w w':World}{A:Option Addr}{N:List ByteArray}(h:mx w A N)(hb:Below w.heap.size w w'):mx w' A N :=
 λk x hk=>let ⟨a,h1,h2⟩:=h k x hk;⟨a,h1,za hb h2⟩
structure Txs(w:World)(A:Option Addr)(n c:Nat)(N:List ByteArray):Prop where
 len:n=N.length
 cap:n<=c
 max:n<=maxLen
 at_:mx w A N
 ok:∀x∈N,x.size<=maxLen
theorem Txs.keep{w w':World}{A:Option Addr}{n c:Nat}{N:List ByteArray}(h:Txs w A n c N)(hb:Below w.heap.size w w'):Txs w' A n c N:=⟨h.len,h.cap,h.max,h.at_.keep hb,h.ok⟩
structure An where
 d:AD
 WA:Option Addr
 wn:Nat
 wc:Nat
 TA:Option Addr
 tn:Nat
 tc:Nat
 NA:Option Addr
 nn:Nat
 nc:Nat
def An.cs(x:An):List Value := [.string x.d.id,.slice x.WA x.wn x.wc,.slice x.TA x.tn x.tc,.slice x.NA x.nn x.nc]
def An.v(x:An):Value := .agg #[.string x.d.id,.slice x.WA x.wn x.wc,.slice x.TA x.tn x.tc,.slice x.NA x.nn x.nc]
structure GX(w:World)(x:An):Prop where
 s:x.d.id.size<=maxLen
 ws:Txs w x.WA x.wn x.wc x.d.who
 ts:Txs w x.TA x.tn x.tc x.d.what
 ns:Ns w x.NA x.nn x.nc x.d.P
theorem GX.keep{w w':World}{x:An}(h:GX w x)(hb:Below w.heap.size w w'):GX w' x:=⟨h.s,h.ws.keep hb,h.ts.keep hb,h.ns.keep hb⟩
structure As(w:World)(A:Option Addr)(n c:Nat)(L:List An):Prop where
 len:n=L.length
 cap:n<=c
 max:n<=maxLen
 at_:∀(k:Nat) (x:An),L[k]?=some x->∃a,A=some a/\w.cell? (a.add (k*4))=some (.string x.d.id)/\w.cell? ⟨(a.add (k*4)).block,(a.add (k*4)).off+1,none⟩=some (.slice x.WA x.wn x.wc)/\
  w.cell? ⟨(a.add (k*4)).block,(a.add (k*4)).off+2,none⟩=some (.slice x.TA x.tn x.tc)/\w.cell? ⟨(a.add (k*4)).block,(a.add (k*4)).off+3,none⟩=some (.slice x.NA x.nn x.nc)/\GX w x
theorem As.keep{w w':World}{A:Option Addr}{n c:Nat}{L:List An}(h:As w A n c L)(hb:Below w.heap.size w w'):As w' A n c L :=
 ⟨h.len,h.cap,h.max,λk x hx=>let ⟨a,h1,h2,h3,h4,h5,h6⟩:=h.at_ k x hx;⟨a,h1,za hb h2,za hb h3,za hb h4,za hb h5,h6.keep hb⟩⟩
structure Rq where
 who:Ud
 act:Ud
 what:Ud
 NA:Option Addr
 nn:Nat
 nc:Nat
 P:List Nd
def Rq.v(q:Rq):Value := .agg #[.string q.who.1,.string q.who.2,.string q.act.1,.string q.act.2,.string q.what.1,.string q.what.2,.slice q.NA q.nn q.nc]
structure oV(w:World)(q:Rq):Prop where
 w1:q.who.1.size<=maxLen
 w2:q.who.2.size<=maxLen
 a1:q.act.1.size<=maxLen
 a2:q.act.2.size<=maxLen
 t1:q.what.1.size<=maxLen
 t2:q.what.2.size<=maxLen
 ns:Ns w q.NA q.nn q.nc q.P
theorem oV.keep{w w':World}{q:Rq}(h:oV w q)(hb:Below w.heap.size w w'):oV w' q:=⟨h.w1,h.w2,h.a1,h.a2,h.t1,h.t2,h.ns.keep hb⟩
theorem pj:Tryz.prog.cellsOf 38=7:=by kernel_rfl
theorem rZ{H:Type}{enc:TypeId × Value->H}{w:World}{b b0:Nat}{sp:Nat->Bool}{hd:Bool}{v:Value}{d:DataW H}{ps:List MemPlace}{r:Reach}
 (hv:Value.okWide Tryz.prog w r b0 38 v) (h:DataW.Trod enc Tryz.prog w b sp hd 38 v d ps):∃x:Rq,v=x.v/\oV w x:=by
 obtain⟨cs,rfl,_⟩:=okWide_struct Tryz.underlying38 hv;have hr:=gI h;have hl:=(dX Tryz.underlying38 hr).1;rw [pj] at hl;obtain⟨l⟩:=cs;simp only [Value.cells] at hl hr
 match l,hl with
 | [c0,c1,c2,c3,c4,c5,c6],_ =>
  have h0:Rd Tryz.prog w 36 [c0,c1]:=az Tryz.underlying38 hr 0 36 0 2 rfl bF
  have h1:Rd Tryz.prog w 36 [c2,c3]:=az Tryz.underlying38 hr 1 36 2 2 rfl bF
  have h2:Rd Tryz.prog w 36 [c4,c5]:=az Tryz.underlying38 hr 2 36 4 2 rfl bF
  have h3:Rd Tryz.prog w 22 [c6]:=az Tryz.underlying38 hr 3 22 6 1 rfl iq
  obtain⟨s1,t1,e0,p1,p2⟩:=nC h0
  obtain⟨s2,t2,e1,p3,p4⟩:=nC h1
  obtain⟨s3,t3,e2,p5,p6⟩:=nC h2
  obtain⟨NA,nn,nc,P,e3,n1,n2,n3,n4,n5⟩:=mC h3
  simp only [List.cons.injEq,and_true] at e0 e1 e2 e3
  exact⟨⟨(s1,t1),(s2,t2),(s3,t3),NA,nn,nc,P⟩,by rw [e0.1,e0.2,e1.1,e1.2,e2.1,e2.2,e3];rfl,p1,p2,p3,p4,p5,p6,n1,n2,n3,n4,n5⟩
end Go.Proofs.YtokiogmfgpidmaaGreatDoor
namespace Go.Proofs.YtokiogmfgpidmaaGreatDoor
open Go.RowKit Go.Wk Go.Sort
structure Vq(w:World)(b:Nat)(q:Rq):Prop where
 c0:w.cell? ⟨b,0,none⟩=some (.string q.who.1)
 c1:w.cell? ⟨b,1,none⟩=some (.string q.who.2)
 c2:w.cell? ⟨b,2,none⟩=some (.string q.act.1)
 c3:w.cell? ⟨b,3,none⟩=some (.string q.act.2)
 c4:w.cell? ⟨b,4,none⟩=some (.string q.what.1)
 c5:w.cell? ⟨b,5,none⟩=some (.string q.what.2)
 c6:w.cell? ⟨b,6,none⟩=some (.slice q.NA q.nn q.nc)
theorem Vq.keep{w w':World}{b:Nat}{x:Rq}(h:Vq w b x)(hb:Below w.heap.size w w'):Vq w' b x:=⟨za hb h.c0,za hb h.c1,za hb h.c2,za hb h.c3,za hb h.c4,za hb h.c5,za hb h.c6⟩
theorem xH(w:World)(q:Rq)(t:TypeId):Vq (w.alloc (.cells #[.string q.who.1,.string q.who.2,.string q.act.1,.string q.act.2,.string q.what.1,.string q.what.2,.slice q.NA q.nn q.nc] t)) w.heap.size q :=
 ⟨zV (heap_alloc_last w _) rfl,zV (heap_alloc_last w _) rfl,zV (heap_alloc_last w _) rfl,zV (heap_alloc_last w _) rfl,zV (heap_alloc_last w _) rfl,zV (heap_alloc_last w _) rfl,zV (heap_alloc_last w _) rfl⟩
theorem JY{w:World}{A:Option Addr}{n c:Nat}{P:List Nd}(h:Ns w A n c P)(hp:0<P.length):∃a,A=some a/\1<=n/\w.cell? a=some (.int .i64 (zf P))/\w.cell? ⟨a.block,a.off+2,none⟩=some (.string P[0].s):=by
 obtain⟨a,ha,D⟩:=h.at_.nd hp;rw [show a.add (0*4)=a from rfl] at D;refine⟨a,ha,by rw [h.len];exact hp,?_,D.c2⟩;rw [jB hp];exact D.c0
theorem Fb(s1 t1 s2 t2 s3 t3:ByteArray)(w:World):(Instr.index 107 (.agg #[.string s1,.string t1,.string s2,.string t2,.string s3,.string t3]) (.int .i64 0)).run Tryz.prog w = .ok (.agg #[.string s1,.string t1]) w:=by kernel_rfl
theorem Ed(s1 t1 s2 t2 s3 t3:ByteArray)(w:World):(Instr.index 107 (.agg #[.string s1,.string t1,.string s2,.string t2,.string s3,.string t3]) (.int .i64 1)).run Tryz.prog w = .ok (.agg #[.string s2,.string t2]) w:=by kernel_rfl
theorem Ds(s1 t1 s2 t2 s3 t3:ByteArray)(w:World):(Instr.index 107 (.agg #[.string s1,.string t1,.string s2,.string t2,.string s3,.string t3]) (.int .i64 2)).run Tryz.prog w = .ok (.agg #[.string s3,.string t3]) w:=by kernel_rfl
def Fy(r1 r2 r3 R:Int)(k:Nat):Int:=if k=0 then or2 r1 (or2 r2 (or2 r3 R)) else if k=1 then or2 r2 (or2 r3 R) else if k=2 then or2 r3 R else R
theorem tl(q:Rq)(w:World)(h:oV w q):
 Calls Tryz.prog 27 #[q.v] w λe w'=>e = .returned (jr (qn q.who q.act q.what q.P))/\Below w.heap.size w w':=by
 obtain⟨⟨s1,t1⟩,⟨s2,t2⟩,⟨s3,t3⟩,NA,nn,nc,P⟩:=q;have V0:=O (xH w ⟨(s1,t1),(s2,t2),(s3,t3),NA,nn,nc,P⟩ 38);have B0:=O (zb w (.cells #[.string s1,.string t1,.string s2,.string t2,.string s3,.string t3,.slice NA nn nc] 38));have C1:=O (λw=>dj s1 t1 w h.w1 h.w2);have C2:=O (λw=>dj s2 t2 w h.a1 h.a2);have C3:=O (λw=>dj s3 t3 w h.t1 h.t2);have HN:=O h.ns;have KV:=O (λw' hb=>zJ (h.ns.keep (w':=w') hb));dsimp only at HN KV;have HR:=O (show qn (s1,t1) (s2,t2) (s3,t3) P=Fy (zI (s1,t1)) (zI (s2,t2)) (zI (s3,t3)) (or2 (zc P) (if zf P=6 then 0 else 2)) 0 from rfl);unfold Rq.v;dsimp only;generalize qn (s1,t1) (s2,t2) (s3,t3) P=F at *;generalize zI (s1,t1)=r1 at *;generalize zI (s2,t2)=r2 at *;generalize zI (s3,t3)=r3 at *;generalize wb (s1,t1)=u1 at *;generalize wb (s2,t2)=u2 at *;generalize wb (s3,t3)=u3 at *;have MA:=h.ns.max;have Nc:=h.ns.cap;unfold maxLen at MA;dsimp only at MA Nc;clear h;go_enter Tryz.func27,Tryz.ntmps27;go_wp2_with fail;go_loopw [15] (λi wr=>∃k:Nat,i = .int .i64 k/\k<=3/\Hid (F=Fy r1 r2 r3 (or2 (zc P) (if zf P=6 then 0 else 2)) k)/\Hid (Below w.heap.size w wr)/\Hid (Vq wr w.heap.size ⟨(s1,t1),(s2,t2),(s3,t3),NA,nn,nc,P⟩)) (λi _=>3-(intOf i).toNat)
 case atStart=>exact⟨0,rfl,by omega,HR,B0,V0⟩
 case round =>
  obtain⟨k,rfl,hk,hF,hB,hV⟩:=hrel;clear HR B0 V0;have hcase:k=0\/k=1\/k=2\/k=3:=by omega
  rcases hcase with rfl|rfl|rfl|rfl
  ·have hix:=Fb s1 t1 s2 t2 s3 t3;have HF:=O (show F=or2 r1 (or2 r2 (or2 r3 (or2 (zc P) (if zf P=6 then 0 else 2)))) from hF.o);have BB:=O (zb wr (.cells #[.string s1,.string t1] 36));clear hF;go_wp2_with fail;refine(C1.o _).mono ?_;rintro e w1 ⟨rfl,b1⟩;have BW:=O (BB.o.trans (b1.mono BB.o.size));have B1:=O (hB.o.trans (BW.o.mono hB.o.size));have V1:=O (hV.o.keep BW.o);clear b1 BB BW hB hV;by_cases g:r1=0
   ·have vT:=O (show F=Fy r1 r2 r3 (or2 (zc P) (if zf P=6 then 0 else 2)) 1 by rw [HF.o,g,zS];rfl);rw [g,zk];clear HF g;go_wp2_with fail;go_roundw
    case rel=>exact⟨1,by go_num,by omega,vT,B1,V1⟩
    case measure=>simp [intOf]
   ·have hJ:=O (zn g);have HE:=O (show F=r1 by rw [HF.o,jt g]);rw [hJ.o];clear g;go_wp2_with fail;go_ret;exact⟨by rw [HE.o,hJ.o];rfl,B1.o⟩
  ·have hix:=Ed s1 t1 s2 t2 s3 t3;have HF:=O (show F=or2 r2 (or2 r3 (or2 (zc P) (if zf P=6 then 0 else 2))) from hF.o);have BB:=O (zb wr (.cells #[.string s2,.string t2] 36));clear hF;go_wp2_with fail;refine(C2.o _).mono ?_;rintro e w1 ⟨rfl,b1⟩;have BW:=O (BB.o.trans (b1.mono BB.o.size));have B1:=O (hB.o.trans (BW.o.mono hB.o.size));have V1:=O (hV.o.keep BW.o);clear b1 BB BW hB hV;by_cases g:r2=0
   ·have vT:=O (show F=Fy r1 r2 r3 (or2 (zc P) (if zf P=6 then 0 else 2)) 2 by rw [HF.o,g,zS];rfl);rw [g,zk];clear HF g;go_wp2_with fail;go_roundw
    case rel=>exact⟨2,by go_num,by omega,vT,B1,V1⟩
    case measure=>simp [intOf]
   ·have hJ:=O (zn g);have HE:=O (show F=r2 by rw [HF.o,jt g]);rw [hJ.o];clear g;go_wp2_with fail;go_ret;exact⟨by rw [HE.o,hJ.o];rfl,B1.o⟩
  ·have hix:=Ds s1 t1 s2 t2 s3 t3;have HF:=O (show F=or2 r3 (or2 (zc P) (if zf P=6 then 0 else 2)) from hF.o);have BB:=O (zb wr (.cells #[.string s3,.string t3] 36));clear hF;go_wp2_with fail;refine(C3.o _).mono ?_;rintro e w1 ⟨rfl,b1⟩;have BW:=O (BB.o.trans (b1.mono BB.o.size));have B1:=O (hB.o.trans (BW.o.mono hB.o.size));have V1:=O (hV.o.keep BW.o);clear b1 BB BW hB hV;by_cases g:r3=0
   ·have vT:=O (show F=Fy r1 r2 r3 (or2 (zc P) (if zf P=6 then 0 else 2)) 3 by rw [HF.o,g,zS];rfl);rw [g,zk];clear HF g;go_wp2_with fail;go_roundw
    case rel=>exact⟨3,by go_num,by omega,vT,B1,V1⟩
    case measure=>simp [intOf]
   ·have hJ:=O (zn g);have HE:=O (show F=r3 by rw [HF.o,jt g]);rw [hJ.o];clear g;go_wp2_with fail;go_ret;exact⟨by rw [HE.o,hJ.o];rfl,B1.o⟩
  ·have HF:=O (show F=or2 (zc P) (if zf P=6 then 0 else 2) from hF.o);obtain⟨c0,c1,c2,c3,c4,c5,c6⟩:=hV.o;dsimp only at c0 c1 c2 c3 c4 c5 c6;clear hF;go_wp2_with fail;refine(KV.o _ hB.o).mono ?_;rintro e w4 ⟨rfl,b4⟩;have B4:=O (hB.o.trans (b4.mono hB.o.size));have V4:=O (hV.o.keep b4);clear b4 hB hV c0 c1 c2 c3 c4 c5 c6;obtain⟨c0,c1,c2,c3,c4,c5,c6⟩:=V4.o;dsimp only at c0 c1 c2 c3 c4 c5 c6;by_cases g4:zc P=0
   ·obtain⟨a,rfl,hn1,d0,-⟩:=JY (HN.o.keep B4.o) (zH.1 g4).2.pos;rw [g4,zS] at HF;rw [g4,zk];by_cases g5:zf P=6
    ·rw [if_pos g5] at HF;rw [g5] at d0;clear g5 g4;go_wp2_with fail;go_ret;exact⟨by rw [HF.o];rfl,B4.o⟩
    ·rw [if_neg g5] at HF;have f1:(zf P != 6)=true:=by rw [bne_iff_ne];exact g5
     generalize zf P=o at *;clear g5 g4;go_wp2_with fail;go_ret;exact⟨by rw [HF.o];rfl,B4.o⟩
   ·rw [jt g4] at HF;have hJ:=O (zn g4);rw [hJ.o];generalize zc P=r4 at *;clear g4;go_wp2_with fail;go_ret;exact⟨by rw [HF.o,hJ.o];rfl,B4.o⟩
structure ke(w w':World):Prop where
 b:Below w.heap.size w w'
 d:w.drawn<=w'.drawn
theorem ke.grow{w w':World}(h:ke w w'):∃q os,w'=grow (w.drewN q) os:=by
 obtain⟨p,hp⟩:=regrown_of_below h.b;have e:p.d=w'.drawn:=by rw [hp];rfl
 refine⟨w'.drawn-w.drawn,p.os,?_⟩;have e2:redrawn w p.d=w.drewN (w'.drawn-w.drawn):=by
  unfold redrawn World.drewN;rw [e,show w.drawn+(w'.drawn-w.drawn)=w'.drawn by have:=h.d;omega]
 rw [<-e2];exact hp
theorem sB(x y:Nd)(w:World):
 Calls Tryz.prog 161 #[ndV x,ndV y] w λe w'=>e = .returned (.int .i64 (gn x y))/\ke w w':=by
 unfold ndV;go_enter Tryz.func161,Tryz.ntmps161;go_wp2;refine mH 20 (by kernel_rfl) (by kernel_rfl) ?_;simp only [List.take_succ_cons,List.take_zero,List.drop_succ_cons,List.drop_zero]
 iterate 4 still_step
 still_call (cmp_Compare_int _ _ _)
 iterate 4 still_step
 still_call (cmp_Compare_int _ _ _)
 iterate 4 still_step
 still_call (strings_Compare _ _ _)
 iterate 4 still_step
 still_call (strings_Compare _ _ _);refine wpStill_nil ?_;go_wp2_with (go_at_call 177;refine(yt (cZ x.op y.op) (cZ x.n y.n) (js x.s y.s) (js x.t y.t) _ _ (by go_simp) (by go_simp) (by go_simp) (by go_simp)).mono ?_;rintro e w' ⟨rfl,rfl⟩);go_ret;exact⟨rfl,((((Below.refl _ _).alloc (Nat.le_refl _) _).alloc (by simp) _).alloc (by simp;omega) _).drew,Nat.le_succ _⟩
theorem ko(A B:Option Addr)(n m c d:Nat)(P Q:List Nd)(w:World)(hn:n=P.length)(hm:m=Q.length)(hln:n<=maxLen)(_hlm:m<=maxLen)(hP:jo w A P)(hQ:jo w B Q):
 Calls Tryz.prog 160 #[.slice A n c,.slice B m d,.func (.func 161) #[] #[]] w λe w'=>e = .returned (.int .i64 (zC P Q))/\ke w w':=by
 unfold maxLen at hln _hlm;have HP:=O hP;have HQ:=O hQ;have HN:=O hn;have HM:=O hm;clear hP hQ hn hm;go_enter Tryz.func160,Tryz.ntmps160;go_wp2;go_loopw [7,8,9,10,13] (λ_ _ _ _ i wr=>∃k:Nat,k<=n/\k<=m/\i = .int .i64 k/\Hid (zC P Q=zC (P.drop k) (Q.drop k))/\Hid (w.drawn<=wr.drawn)/\Below w.heap.size w wr) (λ_ _ _ _ i _=>n-(intOf i).toNat)
 case atStart=>exact⟨0,Nat.zero_le _,Nat.zero_le _,rfl,rfl,Nat.le_refl _,Below.refl _ _⟩
 case round =>
  obtain⟨k,Ov,MP,rfl,hc,hdr,bJ⟩:=hrel;obtain⟨wo,rfl⟩:∃wo:World,wo=wr:=⟨_,rfl⟩
  by_cases h1:k<n
  ·have CN:k<P.length:=by rw [<-HN.o];exact h1
   obtain⟨a,rfl,a1,a2,a3,a4⟩:=(HP.o.keep bJ) k P[k] (List.getElem?_eq_getElem CN);by_cases h2:k<m
   ·have Gj:k<Q.length:=by rw [<-HM.o];exact h2
    obtain⟨b,rfl,b1,b2,b3,b4⟩:=(HQ.o.keep bJ) k Q[k] (List.getElem?_eq_getElem Gj);have HA:=O (hc.o.trans (cU CN Gj));have g:∀(o:Obj) (x:Addr) (v:Value),wo.cell? x=some v->(wo.alloc o).cell? x=some v:=λo x v h=>za ((Below.refl _ _).alloc (Nat.le_refl _) o) h;replace b1:=λo=>g o _ _ b1;replace b2:=λo=>g o _ _ b2;replace b3:=λo=>g o _ _ b3;replace b4:=λo=>g o _ _ b4;clear hc g;go_wp2_with fail;refine(sB P[k] Q[k] _).mono ?_;rintro e w1 ⟨rfl,hb1,hd1⟩;have hdw:=O (Nat.le_trans hdr.o hd1);clear hd1;have J':=O ((bJ.alloc (by have:=bJ.size;omega) _).alloc (by have:=bJ.size;simp;omega) _ |>.trans (hb1.mono (by have:=bJ.size;simp;omega)));clear hb1 b1 b2 b3 b4 a1 a2 a3 a4;by_cases h0:gn P[k] Q[k]=0
    ·have HC:=O (HA.o.trans (by rw [h0];rfl:_=zC (P.drop (k+1)) (Q.drop (k+1))));rw [h0];clear h0 HA;go_wp2;go_roundw
     case rel=>exact⟨k+1,by omega,by omega,by go_num,HC,hdw,J'.o⟩
     case measure=>simp [intOf];omega
    ·have HC:=O (HA.o.trans (jt h0 _));have h0':(gn P[k] Q[k]==0)=false:=beq_eq_false_iff_ne.2 h0;clear HA;go_wp2;go_ret;exact⟨jE HC.o.symm,J'.o,hdw.o⟩
   ·have HA:=O (hc.o.trans (lv CN (by rw [<-HM.o];omega)));clear hc;go_wp2;go_ret;exact⟨jE HA.o.symm,bJ.alloc (by have:=bJ.size;omega) _,hdr.o⟩
  ·obtain rfl:k=n:=by omega
   by_cases h2:k<m
   ·have HA:=O (hc.o.trans (kV (by rw [<-HN.o];omega) (by rw [<-HM.o];exact h2)));clear hc;go_wp2;go_ret;exact⟨jE HA.o.symm,bJ,hdr.o⟩
   ·have HA:=O (hc.o.trans (cA (by rw [<-HN.o];omega) (by rw [<-HM.o];omega)));clear hc;go_wp2;go_ret;exact⟨jE HA.o.symm,bJ,hdr.o⟩
theorem ye(A B:Option Addr)(n m c d:Nat)(P Q:List Nd)(w:World)(hn:n=P.length)(hm:m=Q.length)(hln:n<=maxLen)(yj:m<=maxLen)(hP:jo w A P)(hQ:jo w B Q):
 Calls Tryz.prog 136 #[.slice A n c,.slice B m d] w λe w'=>e = .returned (.int .i64 (zC P Q))/\ke w w':=by
 have H:=ko A B n m c d P Q w hn hm hln yj hP hQ;clear hn hm hP hQ;go_enter Tryz.func136,Tryz.ntmps136;go_wp2_with fail;refine H.mono ?_;rintro e w1 ⟨rfl,hb1⟩;go_wp2;go_ret;exact⟨rfl,hb1⟩
end Go.Proofs.YtokiogmfgpidmaaGreatDoor
