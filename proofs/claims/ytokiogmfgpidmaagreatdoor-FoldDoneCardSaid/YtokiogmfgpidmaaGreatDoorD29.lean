/-
  fold.Better, ahead of worth's contract. fold: is an entity among nodes ..
-/
import Derived.Test.YtokiogmfgpidmaaGreatDoorD28
set_option maxRecDepth 100000
set_option maxHeartbeats 4000000
namespace Go.Proofs.YtokiogmfgpidmaaGreatDoor
open Go.RowKit Go.Wk Go.Sort
def Qg(w:World)(P:List Nd)(e:Ending)(w':World):Prop :=
 ∃(A:Option Addr) (n c:Nat),e = .returned (.tuple #[.slice A n c,fa (vR P)])/\(∀x:Ex,x.valid false->P=x.flat->P.length<=200->Ns w' A n c (jV [] false x).flat)/\Below w.heap.size w w'
theorem zgm(hw:zjk)(A:Option Addr)(n c:Nat)(x:Ex)(w:World)(hv:x.valid false)(hl:x.flat.length<=200)(h:Ns w A n c x.flat)(hd:CQ w):
 Calls Tryz.prog 5 #[.slice A n c] w (Qg w x.flat):=by
 have h0:vR x.flat=0:=Db.2 ⟨hl,x,hv,rfl⟩;have K1:=O (UM A n c x.flat w h);rw [h0,zm] at K1;have Tj:=O h;have HD:=O hd;have HV:=O hv;have HL:=O hl;have H0:=O h0;have HW:=O hw;have HBL:=O (show(jV [] false x).flat.length<=200 from Nat.le_trans (Tm vS x false hv) hl);clear h hd hv hl h0 hw;go_enter Tryz.func5,Tryz.ntmps5;go_wp2_with fail;refine K1.o.mono ?_;rintro e w1 ⟨rfl,b1⟩;have B1:=O b1;have KR:=O (XF x.flat.length x false A n c [] w1 (Nat.le_refl _) (Nat.le_trans HL.o (by decide)) HV.o (by rw [List.append_nil];exact Tj.o.keep b1));clear b1 K1;go_wp2_with fail;refine KR.o.mono ?_;rintro e w2 ⟨o,n',s,t,A1,m,k,A2,n2,c2,rfl,hx,-,b2⟩;have b3:=zb w2 (.cells #[.int .i64 o,.int .i64 n',.string s,.string t,.slice A1 m k] 49);have B3:=O (B1.o.trans ((b2.trans (b3.mono b2.size)).mono B1.o.size));have KB:=O (ze5 HW.o x.flat.length x false (Nat.le_refl _) HL.o HV.o _ (w2.alloc (.cells #[.int .i64 o,.int .i64 n',.string s,.string t,.slice A1 m k] 49)) (λb=>w1.heap.size<=b/\b<w2.heap.size) (λb hb=>Nat.lt_of_lt_of_le hb.2 b3.size) (PAt.cong (λb hb=>b3.block b hb.2) _ _ (PAt.mono (λb h1 h2=>⟨h1,h2⟩) _ _ hx)) (HD.o.keep B3.o));clear hx b2 b3 KR;go_wp2_with fail;refine KB.o.mono ?_;rintro e w4 ⟨o4,n4,s4,t4,A4,m4,c4,rfl,hx4,b4⟩;have B4:=O (B3.o.trans (b4.mono B3.o.size));have h4:=PAt.mono (B':=λb=>b<w4.heap.size) (λb h1 h2=>h2) _ _ hx4;have SX:=O (PAt.ok _ _ hx4);have KF:=O (Ta 200 (jV [] false x) _ w4 (λb=>b<w4.heap.size) w4.heap.size (.slice none 0 0) [] HBL.o (by have:=HBL.o;simp;omega) h4 (Ut _ _) (Nat.le_refl _) (λb hb=>hb));clear hx4 b4 h4 KB;go_wp2_with fail;refine KF.o.mono ?_;rintro e w5 ⟨v5,rfl,r5,g5,-⟩;rw [List.nil_append] at r5;obtain⟨A5,n5,c5,rfl,-,hns5⟩:=r5.ns SX.o (Nat.le_trans HBL.o (by decide));have N5:=O hns5;have B5:=O (show Below w.heap.size w w5 from B4.o.trans ⟨g5.os,g5.tape,g5.output,g5.size,λi hi=>g5.block i (Nat.lt_of_lt_of_le hi B4.o.size) (λe=>nomatch e)⟩);clear r5 g5 hns5 KF;go_wp2_with fail;go_ret2;refine⟨A5,n5,c5,by rw [H0.o,zm];rfl,λy hy e _=>?_,B5.o⟩;rw [<-Ui HV.o hy e];exact N5.o
theorem zdx(A:Option Addr)(n c:Nat)(P:List Nd)(w:World)(h:Ns w A n c P)(h0:vR P≠0):
 Calls Tryz.prog 5 #[.slice A n c] w (Qg w P):=by
 have K1:=O (UM A n c P w h);have H0:=O h0;have HX:=O (show∀x:Ex,x.valid false->P=x.flat->P.length<=200->False from λx hv e hl=>h0 (Db.2 ⟨hl,x,hv,e⟩));rw [zy h0] at K1;clear h h0;go_enter Tryz.func5,Tryz.ntmps5;go_wp2_with fail;refine K1.o.mono ?_;rintro e w1 ⟨rfl,b1⟩;have B1:=O b1;clear b1 K1;go_wp2_with fail;go_ret2;exact⟨none,0,0,by rw [zy H0.o];rfl,λx hv e hl=>(HX.o x hv e hl).elim,B1.o⟩
theorem Nx(hw:zjk)(A:Option Addr)(n c:Nat)(P:List Nd)(w:World)(h:Ns w A n c P)(hd:CQ w):
 Calls Tryz.prog 5 #[.slice A n c] w (Qg w P):=by
 by_cases h0:vR P=0
 ·obtain⟨hl,x,hv,rfl⟩:=Db.1 h0;exact zgm hw A n c x w hv hl h hd
 ·exact zdx A n c P w h h0
theorem ziI(x:Nd)(w:World):
 Calls Tryz.prog 67 #[.agg #[.int .i64 x.op,.int .i64 x.n,.string x.s,.string x.t]] w λe w'=>e = .returned (.bool (x.op==4))/\Below w.heap.size w w':=by
 go_enter Tryz.func67,Tryz.ntmps67;go_wp2_with fail;go_ret;exact⟨rfl,zb _ _⟩
def IC(P:List Nd):Bool:=P.any λm=>m.op==4
theorem Vl{P:List Nd}{k:Nat}(h:k<P.length):IC (P.take (k+1))=(IC (P.take k)||(P[k].op==4)):=by
 unfold IC;rw [List.take_succ_eq_append_getElem h,List.any_append];simp
theorem Wv(A:Option Addr)(n c:Nat)(P:List Nd)(w:World)(h:Ns w A n c P):
 Calls Tryz.prog 115 #[.slice A n c,.func (.func 67) #[] #[]] w
  λr w'=>(∃k:Int,r = .returned (.int .i64 k)/\(0<=k↔IC P=true))/\Below w.heap.size w w':=by
 have eg:∀args w,(callFunc 67 args).run Tryz.prog w = .ok (.enter 67 args) w:=enters_of Tryz.func67 (by kernel_rfl) rfl;have K:=O (λx (w':World)=>ziI x w');have HL:=O h.len;have HM:=h.max;unfold maxLen at HM;have HA:=O h;clear h;go_enter Tryz.func115,Tryz.ntmps115;go_wp2_with fail;go_loopw [5,8] (λ_ i wr=>∃k:Nat,k<=n/\i = .int .i64 k/\Hid (IC (P.take k)=false)/\Hid (Below w.heap.size w wr)) (λ_ i _=>n-(intOf i).toNat)
 case atStart=>exact⟨0,Nat.zero_le _,rfl,O rfl,O (Below.refl _ _)⟩
 case round =>
  obtain⟨k,hk,rfl,hN,hB⟩:=hrel;by_cases hlt:k<n
  ·have ve:k<P.length:=by rw [<-HL.o];exact hlt
   have HT:=O (Vl ve);obtain⟨a,rfl,q0,q1,q2,q3⟩:=(HA.o.keep hB.o).at_ k _ (List.getElem?_eq_getElem ve);have KX:=O (K.o P[k] wr);have HY:=O (show(P[k].op==4)=true->IC P=true from λhe=>List.any_eq_true.2 ⟨_,List.getElem_mem ve,he⟩);generalize P[k]=x at *;rcases hd:(x.op==4) with _|_
   ·rw [hd,Bool.or_false,hN.o] at HT;rw [hd] at KX;clear hd;go_wp2_with (go_at_fn 67;refine KX.o.mono ?_;rintro e w1 ⟨rfl,b1⟩);have B1:=bh hB b1;clear q0 q1 q2 q3 hB b1 KX;go_wp2_with fail;go_roundw
    case rel=>exact⟨k+1,by omega,by go_num,HT,B1⟩
    case measure=>simp [intOf];omega
   ·rw [hd] at KX;have HZ:=O (HY.o hd);clear hd HT;go_wp2_with (go_at_fn 67;refine KX.o.mono ?_;rintro e w1 ⟨rfl,b1⟩);have B1:=bh hB b1;clear q0 q1 q2 q3 hB b1 KX;go_wp2_with fail;go_ret;exact⟨⟨k,rfl,by rw [HZ.o];simp⟩,B1.o⟩
  ·have HN:=O (show IC P=false by rw [<-hN.o,List.take_of_length_le (by rw [<-HL.o];omega)]);go_wp2_with fail;go_ret;exact⟨⟨-1,rfl,by rw [HN.o];simp⟩,hB.o⟩
theorem Mp(A:Option Addr)(n c:Nat)(P:List Nd)(w:World)(h:Ns w A n c P):
 Calls Tryz.prog 66 #[.slice A n c,.func (.func 67) #[] #[]] w
  λr w'=>r = .returned (.bool (IC P))/\Below w.heap.size w w':=by
 have K:=O (Wv A n c P w h);clear h;go_enter Tryz.func66,Tryz.ntmps66;go_wp2_with fail;refine K.o.mono ?_;rintro e w1 ⟨⟨k,rfl,hk⟩,b1⟩;have HK:=O hk;clear hk K;go_wp2_with fail;go_ret;refine⟨?_,b1⟩;cases hE:IC P
 ·have:¬0<=k:=λh=>by rw [HK.o.1 h] at hE;cases hE
  simp [this]
 ·have:=HK.o.2 hE;simp [this]
theorem zdU{nd:Nd}{ps:Exs}(h:(ps.len=0/\nd.op≠5/\nd.op≠6)\/nd.op=7):jJ [] false (.node nd ps)=none:=by
 simp only [jJ];rw [if_pos (h.elim .inl λh => .inr (.inl h))]
theorem zju(nd:Nd)(ps:Exs)(A:Option Addr)(c:Nat)(w:World)(B:Nat->Prop)(h:(ps.len=0/\nd.op≠5/\nd.op≠6)\/nd.op=7):
 Calls Tryz.prog 35 #[.agg #[.slice none 0 0,.bool false],.agg #[.int .i64 nd.op,.int .i64 nd.n,.string nd.s,.string nd.t,.slice A ps.len c]] w (P8 w B (.node nd ps)):=by
 have HN:=O (zdU h);obtain⟨o,n,s,t⟩:=nd;dsimp only at h ⊢;obtain⟨m,hm⟩:∃m,m=ps.len:=⟨_,rfl⟩
 rw [<-hm] at h ⊢;clear hm;have b0:=zb w (.cells #[.slice none 0 0,.bool false] 53);have b1:=zb (w.alloc (.cells #[.slice none 0 0,.bool false] 53)) (.cells #[.int .i64 o,.int .i64 n,.string s,.string t,.slice A m c] 49);have b2:=zb ((w.alloc (.cells #[.slice none 0 0,.bool false] 53)).alloc (.cells #[.int .i64 o,.int .i64 n,.string s,.string t,.slice A m c] 49)) (.cells #[.int .i64 o,.int .i64 n,.string s,.string t,.slice A m c] 49);have B3:=O (b0.trans ((b1.trans (b2.mono b1.size)).mono b0.size));have x2:=jR ((w.alloc (.cells #[.slice none 0 0,.bool false] 53)).alloc (.cells #[.int .i64 o,.int .i64 n,.string s,.string t,.slice A m c] 49)) (.int .i64 o) (.int .i64 n) (.string s) (.string t) (.slice A m c) 49;rw [show((w.alloc (.cells #[.slice none 0 0,.bool false] 53)).alloc (.cells #[.int .i64 o,.int .i64 n,.string s,.string t,.slice A m c] 49)).heap.size=w.heap.size+2 by simp] at x2;have X2:=O x2;clear b0 b1 b2 x2;rcases h with ⟨rfl,h5,h6⟩|rfl
 ·have e5:(o != 5)=true:=by simp [h5]
  have e6:(o != 6)=true:=by simp [h6]
  go_enter Tryz.func35,Tryz.ntmps35;go_wp2_with fail;obtain⟨s0,s1,s2,s3,s4,-,-,-,-,-⟩:=X2.o;exact bodyPost_ret (v := .tuple #[.agg #[.int .i64 o,.int .i64 n,.string s,.string t,.slice A 0 c],.bool false]) (by simp [results,Tryz.results35,go_sem,s0,s1,s2,s3,s4]) rfl ⟨_,_,_,_,_,_,_,false,rfl,λhb=>(nomatch hb),λ_=>HN.o,B3.o⟩
 ·by_cases hm:m=0
  ·subst hm;go_enter Tryz.func35,Tryz.ntmps35;go_wp2_with fail;obtain⟨s0,s1,s2,s3,s4,-,-,-,-,-⟩:=X2.o;exact bodyPost_ret (v := .tuple #[.agg #[.int .i64 7,.int .i64 n,.string s,.string t,.slice A 0 c],.bool false]) (by simp [results,Tryz.results35,go_sem,s0,s1,s2,s3,s4]) rfl ⟨_,_,_,_,_,_,_,false,rfl,λhb=>(nomatch hb),λ_=>HN.o,B3.o⟩
  ·have em:((m:Int)==0)=false:=by simp [hm]
   go_enter Tryz.func35,Tryz.ntmps35;go_wp2_with fail;obtain⟨s0,s1,s2,s3,s4,-,-,-,-,-⟩:=X2.o;exact bodyPost_ret (v := .tuple #[.agg #[.int .i64 7,.int .i64 n,.string s,.string t,.slice A m c],.bool false]) (by simp [results,Tryz.results35,go_sem,s0,s1,s2,s3,s4]) rfl ⟨_,_,_,_,_,_,_,false,rfl,λhb=>(nomatch hb),λ_=>HN.o,B3.o⟩
theorem zg1(nd:Nd)(ps:Exs)(A:Option Addr)(c:Nat)(w:World)(B:Nat->Prop)(hB:∀b,B b->b<w.heap.size)(hl:(Ex.node nd ps).flat.length<=200)(hx:PAt w B (.node nd ps) [.int .i64 nd.op,.int .i64 nd.n,.string nd.s,.string nd.t,.slice A ps.len c])(hk:¬((ps.len=0/\nd.op≠5/\nd.op≠6)\/nd.op=7))(hv:zc (Ex.node nd ps).flat=0):
 Calls Tryz.prog 35 #[.agg #[.slice none 0 0,.bool false],.agg #[.int .i64 nd.op,.int .i64 nd.n,.string nd.s,.string nd.t,.slice A ps.len c]] w (P8 w B (.node nd ps)):=by
 have HN:=O (show jJ [] false (.node nd ps)=none from by simp only [jJ];rw [if_pos (.inr (.inr hv))]);have SX:=O (PAt.ok _ _ hx);have HL:=O hl;have HV:=O hv;have h7:nd.op≠7:=λe=>hk (.inr e);have hm0:ps.len≠0\/nd.op=5\/nd.op=6:=by
  by_cases h0:ps.len=0
  ·by_cases h5:nd.op=5
   ·exact .inr (.inl h5)
   ·by_cases h6:nd.op=6
    ·exact .inr (.inr h6)
    ·exact(hk (.inl ⟨h0,h5,h6⟩)).elim
  ·exact .inl h0
 obtain⟨xx,hxx⟩:∃xx,xx=Ex.node nd ps:=⟨_,rfl⟩
 rw [<-hxx] at HN SX HL HV hx ⊢;clear hxx hk hl hv;obtain⟨o,n,s,t⟩:=nd;dsimp only at hx h7 hm0 ⊢;obtain⟨m,hm⟩:∃m,m=ps.len:=⟨_,rfl⟩
 rw [<-hm] at hx hm0 ⊢;clear hm;have b0:=zb w (.cells #[.slice none 0 0,.bool false] 53);have b1:=zb (w.alloc (.cells #[.slice none 0 0,.bool false] 53)) (.cells #[.int .i64 o,.int .i64 n,.string s,.string t,.slice A m c] 49);have b2:=zb ((w.alloc (.cells #[.slice none 0 0,.bool false] 53)).alloc (.cells #[.int .i64 o,.int .i64 n,.string s,.string t,.slice A m c] 49)) (.cells #[.int .i64 0,.int .i64 0,.string ⟨#[]⟩,.string ⟨#[]⟩,.slice none 0 0] 49);have B3:=O (b0.trans ((b1.trans (b2.mono b1.size)).mono b0.size));have x1:=jR (w.alloc (.cells #[.slice none 0 0,.bool false] 53)) (.int .i64 o) (.int .i64 n) (.string s) (.string t) (.slice A m c) 49;have x2:=jR ((w.alloc (.cells #[.slice none 0 0,.bool false] 53)).alloc (.cells #[.int .i64 o,.int .i64 n,.string s,.string t,.slice A m c] 49)) (.int .i64 0) (.int .i64 0) (.string ⟨#[]⟩) (.string ⟨#[]⟩) (.slice none 0 0) 49;rw [show(w.alloc (.cells #[.slice none 0 0,.bool false] 53)).heap.size=w.heap.size+1 by simp] at x1;rw [show((w.alloc (.cells #[.slice none 0 0,.bool false] 53)).alloc (.cells #[.int .i64 o,.int .i64 n,.string s,.string t,.slice A m c] 49)).heap.size=w.heap.size+2 by simp] at x2;have X1:=O (x1.keep b2);have X2:=O x2;have KF:=O (Ta 200 xx _ (((w.alloc (.cells #[.slice none 0 0,.bool false] 53)).alloc (.cells #[.int .i64 o,.int .i64 n,.string s,.string t,.slice A m c] 49)).alloc (.cells #[.int .i64 0,.int .i64 0,.string ⟨#[]⟩,.string ⟨#[]⟩,.slice none 0 0] 49)) B (((w.alloc (.cells #[.slice none 0 0,.bool false] 53)).alloc (.cells #[.int .i64 o,.int .i64 n,.string s,.string t,.slice A m c] 49)).alloc (.cells #[.int .i64 0,.int .i64 0,.string ⟨#[]⟩,.string ⟨#[]⟩,.slice none 0 0] 49)).heap.size (.slice none 0 0) [] HL.o (by have:=HL.o;simp;omega) (PAt.cong (λb hb=>B3.o.block b (hB b hb)) _ _ hx) (Ut _ _) (Nat.le_refl _) (λb hb=>Nat.lt_of_lt_of_le (hB b hb) B3.o.size));clear b0 b1 b2 x1 x2 hx hB;have e7:(o==7)=false:=by simp [h7]
 obtain⟨oo,hoo⟩:∃oo,oo=o:=⟨_,rfl⟩
 obtain⟨mm,hmm⟩:∃mm,mm=m:=⟨_,rfl⟩
 have HOO:=O hoo;have HMM:=O hmm;clear hoo hmm;rcases (show m≠0\/(m=0/\o=5)\/(m=0/\o=6) by omega) with hm|⟨rfl,rfl⟩|⟨rfl,rfl⟩
 case' inl=>have em:((m:Int)==0)=false:=by simp [hm]
 all_goals
  clear hm0 h7;go_enter Tryz.func35,Tryz.ntmps35;go_wp2_with fail;refine KF.o.mono ?_;rintro e w4 ⟨v4,rfl,r4,g4,-⟩;rw [List.nil_append] at r4;obtain⟨A4,n4,c4,rfl,-,ON⟩:=r4.ns SX.o (Nat.le_trans HL.o (by decide));have b4:Below w.heap.size w w4:=B3.o.trans ⟨g4.os,g4.tape,g4.output,g4.size,λi hi=>g4.block i (Nat.lt_of_lt_of_le hi B3.o.size) (λe=>nomatch e)⟩;have K4:=O (Mi A4 n4 c4 _ w4 ON.len ON.cap ON.max ON.at_ ON.ok);rw [HV.o,zm] at K4;have Y1:=O (X1.o.but g4 (λe=>nomatch e));have Y2:=O (X2.o.but g4 (λe=>nomatch e));have B4:=O b4;clear r4 g4 ON b4 KF;go_wp2_with fail;refine K4.o.mono ?_;rintro e w5 ⟨rfl,b5⟩;have B5:=O (B4.o.trans (b5.mono B4.o.size));have Z1:=O (Y1.o.keep b5);have Z2:=O (Y2.o.keep b5);clear b5 K4 Y1 Y2 B4;obtain⟨x0,x1,x2,x3,x4,-,-,-,-,-⟩:=Z1.o;obtain⟨y0,y1,y2,y3,y4,z0,z1,z2,z3,z4⟩:=Z2.o;have r5:=Z2.o.set (.int .i64 oo) (.int .i64 n) (.string s) (.string t) (.slice A mm c);have f5:=ed B5.o (Nat.le_add_right w.heap.size 2) (.int .i64 oo) (.int .i64 n) (.string s) (.string t) (.slice A mm c);rw [HOO.o,HMM.o] at r5 f5;have R5:=O r5;have F5:=O f5;clear r5 f5;go_wp2_with fail;obtain⟨s0,s1,s2,s3,s4,-,-,-,-,-⟩:=R5.o;exact bodyPost_ret (v := .tuple #[.agg #[.int .i64 oo,.int .i64 n,.string s,.string t,.slice A mm c],.bool false]) (by simp [results,Tryz.results35,go_sem,s0,s1,s2,s3,s4,HOO.o,HMM.o]) rfl ⟨_,_,_,_,_,_,_,false,rfl,λhb=>(nomatch hb),λ_=>HN.o,F5.o⟩
end Go.Proofs.YtokiogmfgpidmaaGreatDoor
namespace Go.Proofs.YtokiogmfgpidmaaGreatDoor
open Go.RowKit Go.Wk
theorem Nc{V:List Nd}(h:eZ false V=true):zc V=0:=by
 unfold eZ at h;rw [Bool.and_eq_true] at h;exact of_decide_eq_true h.1
theorem zh5{n:Nd}{ps:Exs}(h:(∃q∈exL ps,eZ false (zP q)=false)\/(n.op=11\/n.op=12\/n.op=13)):jJ [] false (.node n ps)=none:=by
 rw [jJ];by_cases c1:(ps.len=0/\n.op≠5/\n.op≠6)\/n.op=7\/zc (Ex.node n ps).flat=0
 ·rw [if_pos c1]
 rw [if_neg c1];by_cases c2:(exL ps).all (λq=>eZ false (zP q))=false
 ·rw [if_pos c2]
 rw [if_neg c2];rcases h with ⟨q,hq,h⟩|h
 ·refine(c2 ?_).elim;cases hb:(exL ps).all (λq=>eZ false (zP q))
  ·rfl
  ·rw [List.all_eq_true.1 hb q hq] at h;cases h
 ·rw [if_pos h]
theorem zbv{n:Nd}{ps:Exs}(hv:(Ex.node n ps).valid false)(c1:¬((ps.len=0/\n.op≠5/\n.op≠6)\/n.op=7))(c0:zc (Ex.node n ps).flat≠0)(c3:¬(n.op=11\/n.op=12\/n.op=13))(hall:∀q∈exL ps,eZ false (zP q)=true):
 Gc [] n ((exL ps).map λq=>q.head.s) ((exL ps).map zP)≠ .error 0/\
 (∀e,Gc [] n ((exL ps).map λq=>q.head.s) ((exL ps).map zP)= .error e->jJ [] false (.node n ps)=none)/\
 (∀V,Gc [] n ((exL ps).map λq=>q.head.s) ((exL ps).map zP)= .ok V->∃y,jJ [] false (.node n ps)=some y/\y.valid false/\y.flat=V/\V.length<=200):=by
 have c2:¬((ps.len=0/\n.op≠5/\n.op≠6)\/n.op=7\/zc (Ex.node n ps).flat=0):=λh=>h.elim (λh=>c1 (.inl h)) λh=>h.elim (λh=>c1 (.inr h)) c0;have e:=zdu zhE hv c2 c3 (λq hq=>Nc (hall q hq));have hw:jJ [] false (.node n ps)=match Gc [] n ((exL ps).map λq=>q.head.s) ((exL ps).map zP) with
  | .error _=>none
  | .ok V=>QF V:=by
  rw [jJ,if_neg c2,if_neg (λh=>(by rw [List.all_eq_true.2 hall] at h;cases h)),if_neg c3]
  rcases Gc [] n ((exL ps).map λq=>q.head.s) ((exL ps).map zP) with _|_ <;> rfl
 refine⟨?_,λu h=>?_,λV h=>?_⟩
 ·rw [show Gc [] n ((exL ps).map λq=>q.head.s) ((exL ps).map zP)=evX zhE (.node n ps) from e.symm];exact Mv _ hv
 ·rw [hw,h]
 ·have hV:=Jm vS _ false hv V (e.trans h);obtain⟨y,hy,rfl,-⟩:=ZU zhE hV;exact⟨y,by rw [hw,h];exact IW.2 ⟨hy,rfl⟩,hy,rfl,(zH.1 hV).1⟩
theorem zg3{n:Nd}{ps:Exs}(hv:(Ex.node n ps).valid false)(c1:¬((ps.len=0/\n.op≠5/\n.op≠6)\/n.op=7))(c3:¬(n.op=11\/n.op=12\/n.op=13)):
 (n.op=5\/n.op=6)\/(n.op≠5/\n.op≠6/\ps.len=1/\(n.op=9\/n.op=10\/n.op=21\/n.op=22\/n.op=23\/n.op=24))\/(n.op≠5/\n.op≠6/\ps.len=2):=by
 have h:=hv.2.1;unfold zC at h
 repeat' split at h
 all_goals omega
theorem zb0{x:Ex}(hv:x.valid true):x.head.op=7/\∃h r,x.flat=h :: r/\h.s=x.head.s/\r≠ []/\zP x=r:=by
 obtain⟨n,ps⟩:=x;obtain⟨h1,hl,-⟩:=hv;unfold jC at h1;rw [Bool.and_eq_true] at h1;have h7:n.op=7:=by simpa using h1.2
 have h2:ps.len=1:=by
  unfold zC at hl
  repeat' split at hl
  all_goals omega
 refine⟨h7,n,ps.flat,rfl,rfl,λh=>?_,?_⟩
 ·have:=gY ps;rw [h] at this;simp at this;omega
 ·unfold zP;rw [if_pos (show(Ex.node n ps).head.op=7 from h7)];rfl
theorem Ph{x:Ex}(hv:x.valid false):x.head.op≠7:=by
 obtain⟨n,ps⟩:=x;have h1:=hv.1;unfold jC at h1;rw [Bool.and_eq_true] at h1;have h7:n.op≠7:=by simpa using h1.2
 exact h7
end Go.Proofs.YtokiogmfgpidmaaGreatDoor
namespace Go.Proofs.YtokiogmfgpidmaaGreatDoor
open Go.RowKit Go.Wk Go.Sort
theorem zbK(x:Ex)(u:List Value)(w:World)(B:Nat->Prop)(hl:x.flat.length<=200)(hx:PAt w B x u)(hB:∀b,B b->b<w.heap.size):
 Calls Tryz.prog 18 #[.agg u.toArray,.slice none 0 0] w λe w'=>∃a n c,e = .returned (.slice (some a) n c)/\Ns w' (some a) n c x.flat/\w.heap.size<=a.block/\Below w.heap.size w w':=by
 refine(Ta 200 x u w B w.heap.size (.slice none 0 0) [] hl (by simp;omega) hx (Ut _ _) (Nat.le_refl _) hB).mono ?_;rintro e w' ⟨v,rfl,r,g,-⟩;rw [List.nil_append] at r;obtain⟨A,c,rfl,h1,h2,h3⟩:=vl r.own
 cases A with
 | none =>
  have hp:=jp x
  obtain⟨a,e,-⟩:=h2 0 _ (List.getElem?_eq_getElem hp)
  cases e
 | some a=>exact⟨a,_,c,rfl,⟨rfl,h1,by unfold maxLen;omega,h2,PAt.ok _ _ hx⟩,h3 a rfl,⟨g.os,g.tape,g.output,g.size,λi hi=>g.block i hi (λe=>nomatch e)⟩⟩
structure WLp(w wr:World)(o n:Int)(s t:ByteArray)(A:Option Addr)(m c:Nat)(nv v:Value)(V:List Sl)(N:List ByteArray):Prop where
 F0:wr.cell? ⟨w.heap.size,0,none⟩=some (.slice none 0 0)
 F1:wr.cell? ⟨w.heap.size,1,none⟩=some (.bool false)
 X1:Bx5 wr (w.heap.size+1) (.int .i64 o) (.int .i64 n) (.string s) (.string t) (.slice A m c)
 X2:Bx5 wr (w.heap.size+2) (.int .i64 0) (.int .i64 0) (.string ⟨#[]⟩) (.string ⟨#[]⟩) (.slice none 0 0)
 T:jI wr (w.heap.size+3) v nv V N
 G:Below w.heap.size w wr
 z:w.heap.size+3<=wr.heap.size
section
variable {w wr w':World} {o n:Int} {s t:ByteArray} {A:Option Addr} {m c:Nat} {nv v:Value} {V:List Sl} {N:List ByteArray}
theorem WLp.keep(h:WLp w wr o n s t A m c nv v V N)(hb:Below wr.heap.size wr w'):WLp w w' o n s t A m c nv v V N :=
 ⟨za hb h.F0,za hb h.F1,h.X1.keep hb,h.X2.keep hb,h.T.keep hb,h.G.trans (hb.mono h.G.size),Nat.le_trans h.z hb.size⟩
theorem WLp.row{g:Option Nat}{nv' v':Value}{V':List Sl}{N':List ByteArray}(h:WLp w wr o n s t A m c nv v V N)(hg:wr.grownBy w' g)(hr:∀k,g=some k->w.heap.size+3<=k)(hT:jI w' (w.heap.size+3) v' nv' V' N'):WLp w w' o n s t A m c nv' v' V' N':=by
 have hn:∀b,b<w.heap.size+3->some b≠g:=λb hb e=>by have:=hr b e.symm;omega
 refine⟨hg.cell h.F0 (hn w.heap.size (by omega)),hg.cell h.F1 (hn w.heap.size (by omega)),h.X1.but hg (hn _ (by omega)),h.X2.but hg (hn _ (by omega)),hT,?_,Nat.le_trans h.z hg.size⟩;refine h.G.trans ?_;rcases g with _|k
 ·exact⟨hg.os,hg.tape,hg.output,hg.size,λi hi=>hg.block i (Nat.lt_of_lt_of_le hi h.G.size) (λe=>nomatch e)⟩
 ·exact j7 hg (by have:=hr k rfl;omega) h.G.size
theorem WLp.left(h:WLp w wr o n s t A m c nv v V N)(B:Nat->Prop)(x:Ex)(hw:jJ [] false x=none)(o' n':Int)(s' t':ByteArray)(A':Option Addr)(m' c':Nat):
 P8 w B x (.returned (.tuple #[.agg #[.int .i64 o',.int .i64 n',.string s',.string t',.slice A' m' c'],.bool false])) (((((wr.setCell ⟨w.heap.size+2,0,none⟩ (.int .i64 o)).setCell ⟨w.heap.size+2,1,none⟩ (.int .i64 n)).setCell ⟨w.heap.size+2,2,none⟩ (.string s)).setCell ⟨w.heap.size+2,3,none⟩ (.string t)).setCell ⟨w.heap.size+2,4,none⟩ (.slice A m c)):=
 ⟨_,_,_,_,_,_,_,false,rfl,λhb=>(nomatch hb),λ_=>hw,ed h.G (Nat.le_add_right w.heap.size 2) _ _ _ _ _⟩
end
theorem zcD{E:List En}{n:Nd}{N M:List ByteArray}{vs:List (List Nd)}(h:n.op=6->N=M):Gc E n N vs=Gc E n M vs:=by
 unfold Gc;by_cases h6:n.op=6
 ·rw [h h6]
 ·rw [if_neg h6,if_neg h6]
theorem Gi{V:List Nd}:eZ false V=(decide (zc V=0)&& !IC V):=by
 unfold eZ IC;rw [Bool.false_or];congr 1
 induction V with
 | nil=>rfl
 | cons a r ih=>simp only [List.all_cons,List.any_cons,ih,Bool.not_or];congr 1;by_cases h:a.op=4 <;> simp [h]
theorem zjT{w9:World}{x:Ex}{u:List Value}{fb lo:Nat}(hk:PAt w9 (λb=>lo<=b) x u)(hfb:fb<lo)(o:Obj)(y0 y1 y2 y3 y4:Value):
 PAt ((((((w9.alloc o).setCell ⟨fb,0,none⟩ y0).setCell ⟨fb,1,none⟩ y1).setCell ⟨fb,2,none⟩ y2).setCell ⟨fb,3,none⟩ y3).setCell ⟨fb,4,none⟩ y4) (λb=>lo<=b) x u:=by
 have h1:=PAt.mono (B':=λb=>lo<=b/\b<w9.heap.size) (λb h1 h2=>⟨h1,h2⟩) _ _ hk;refine PAt.mono (λb hb _=>hb.1) _ _ (PAt.cong (λb hb=>?_) _ _ h1);exact(Km (w9.alloc o) fb y0 y1 y2 y3 y4 (by have:=hb.1;omega)).trans ((zb w9 o).block b hb.2)
end Go.Proofs.YtokiogmfgpidmaaGreatDoor
namespace Go.Proofs.YtokiogmfgpidmaaGreatDoor
open Go.Wk Go.ChangeShapes Go.WideShapes Go.RowKit
end Go.Proofs.YtokiogmfgpidmaaGreatDoor
namespace Go.Wk
open Go.ChangeShapes Go.WideShapes Go.RowKit Go.Deep
section
variable {P:Program} {w:World} {t e:TypeId}
end
end Go.Wk
namespace Go.Proofs.YtokiogmfgpidmaaGreatDoor
open Go.Wk Go.ChangeShapes Go.WideShapes Go.RowKit
def Sy(w:World)(A:Option Addr)(N:List ByteArray):Prop:=∀(k:Nat) (x:ByteArray),N[k]?=some x->∃a,A=some a/\w.cell? (a.add k)=some (.string x)
theorem Sy.keep{w w':World}{A:Option Addr}{N:List ByteArray}(h:Sy w A N)(hb:Below w.heap.size w w'):Sy w' A N :=
 λk x hk=>let ⟨a,h1,h2⟩:=h k x hk;⟨a,h1,za hb h2⟩
structure Txs(w:World)(A:Option Addr)(n c:Nat)(N:List ByteArray):Prop where
 len:n=N.length
 cap:n<=c
 max:n<=maxLen
 at_:Sy w A N
 ok:∀x∈N,x.size<=maxLen
theorem Txs.keep{w w':World}{A:Option Addr}{n c:Nat}{N:List ByteArray}(h:Txs w A n c N)(hb:Below w.heap.size w w'):Txs w' A n c N:=⟨h.len,h.cap,h.max,h.at_.keep hb,h.ok⟩
structure An where
 d:AD
 WA:Option Addr
 wn:Nat
 wc:Nat
 TA:Option Addr
 tn:Nat
 tc:Nat
 NA:Option Addr
 nn:Nat
 nc:Nat
def An.cs(x:An):List Value := [.string x.d.id,.slice x.WA x.wn x.wc,.slice x.TA x.tn x.tc,.slice x.NA x.nn x.nc]
def An.v(x:An):Value := .agg #[.string x.d.id,.slice x.WA x.wn x.wc,.slice x.TA x.tn x.tc,.slice x.NA x.nn x.nc]
structure zkU(w:World)(x:An):Prop where
 s:x.d.id.size<=maxLen
 ws:Txs w x.WA x.wn x.wc x.d.who
 ts:Txs w x.TA x.tn x.tc x.d.what
 ns:Ns w x.NA x.nn x.nc x.d.P
theorem zkU.keep{w w':World}{x:An}(h:zkU w x)(hb:Below w.heap.size w w'):zkU w' x:=⟨h.s,h.ws.keep hb,h.ts.keep hb,h.ns.keep hb⟩
structure As(w:World)(A:Option Addr)(n c:Nat)(L:List An):Prop where
 len:n=L.length
 cap:n<=c
 max:n<=maxLen
 at_:∀(k:Nat) (x:An),L[k]?=some x->∃a,A=some a/\w.cell? (a.add (k*4))=some (.string x.d.id)/\w.cell? ⟨(a.add (k*4)).block,(a.add (k*4)).off+1,none⟩=some (.slice x.WA x.wn x.wc)/\
  w.cell? ⟨(a.add (k*4)).block,(a.add (k*4)).off+2,none⟩=some (.slice x.TA x.tn x.tc)/\w.cell? ⟨(a.add (k*4)).block,(a.add (k*4)).off+3,none⟩=some (.slice x.NA x.nn x.nc)/\zkU w x
theorem As.keep{w w':World}{A:Option Addr}{n c:Nat}{L:List An}(h:As w A n c L)(hb:Below w.heap.size w w'):As w' A n c L :=
 ⟨h.len,h.cap,h.max,λk x hx=>let ⟨a,h1,h2,h3,h4,h5,h6⟩:=h.at_ k x hx;⟨a,h1,za hb h2,za hb h3,za hb h4,za hb h5,h6.keep hb⟩⟩
structure Rq where
 who:Ud
 act:Ud
 what:Ud
 NA:Option Addr
 nn:Nat
 nc:Nat
 P:List Nd
def Rq.v(q:Rq):Value := .agg #[.string q.who.1,.string q.who.2,.string q.act.1,.string q.act.2,.string q.what.1,.string q.what.2,.slice q.NA q.nn q.nc]
structure zjG(w:World)(q:Rq):Prop where
 w1:q.who.1.size<=maxLen
 w2:q.who.2.size<=maxLen
 a1:q.act.1.size<=maxLen
 a2:q.act.2.size<=maxLen
 t1:q.what.1.size<=maxLen
 t2:q.what.2.size<=maxLen
 ns:Ns w q.NA q.nn q.nc q.P
theorem zjG.keep{w w':World}{q:Rq}(h:zjG w q)(hb:Below w.heap.size w w'):zjG w' q:=⟨h.w1,h.w2,h.a1,h.a2,h.t1,h.t2,h.ns.keep hb⟩
end Go.Proofs.YtokiogmfgpidmaaGreatDoor
namespace Go.Proofs.YtokiogmfgpidmaaGreatDoor
open Go.RowKit Go.Wk Go.Sort
structure Vq(w:World)(b:Nat)(q:Rq):Prop where
 c0:w.cell? ⟨b,0,none⟩=some (.string q.who.1)
 c1:w.cell? ⟨b,1,none⟩=some (.string q.who.2)
 c2:w.cell? ⟨b,2,none⟩=some (.string q.act.1)
 c3:w.cell? ⟨b,3,none⟩=some (.string q.act.2)
 c4:w.cell? ⟨b,4,none⟩=some (.string q.what.1)
 c5:w.cell? ⟨b,5,none⟩=some (.string q.what.2)
 c6:w.cell? ⟨b,6,none⟩=some (.slice q.NA q.nn q.nc)
theorem Vq.keep{w w':World}{b:Nat}{x:Rq}(h:Vq w b x)(hb:Below w.heap.size w w'):Vq w' b x:=⟨za hb h.c0,za hb h.c1,za hb h.c2,za hb h.c3,za hb h.c4,za hb h.c5,za hb h.c6⟩
theorem Pi(w:World)(q:Rq)(t:TypeId):Vq (w.alloc (.cells #[.string q.who.1,.string q.who.2,.string q.act.1,.string q.act.2,.string q.what.1,.string q.what.2,.slice q.NA q.nn q.nc] t)) w.heap.size q :=
 ⟨jk (heap_alloc_last w _) rfl,jk (heap_alloc_last w _) rfl,jk (heap_alloc_last w _) rfl,jk (heap_alloc_last w _) rfl,jk (heap_alloc_last w _) rfl,jk (heap_alloc_last w _) rfl,jk (heap_alloc_last w _) rfl⟩
structure Rz(w w':World):Prop where
 b:Below w.heap.size w w'
 d:w.drawn<=w'.drawn
theorem Rz.grow{w w':World}(h:Rz w w'):∃q os,w'=grow (w.drewN q) os:=by
 obtain⟨p,hp⟩:=regrown_of_below h.b;have e:p.d=w'.drawn:=by rw [hp];rfl
 refine⟨w'.drawn-w.drawn,p.os,?_⟩;have e2:redrawn w p.d=w.drewN (w'.drawn-w.drawn):=by
  unfold redrawn World.drewN;rw [e,show w.drawn+(w'.drawn-w.drawn)=w'.drawn by have:=h.d;omega]
 rw [<-e2];exact hp
theorem Yu(x y:Nd)(w:World):
 Calls Tryz.prog 161 #[ndV x,ndV y] w λe w'=>e = .returned (.int .i64 (NH x y))/\Rz w w':=by
 unfold ndV;go_enter Tryz.func161,Tryz.ntmps161;go_wp2;refine T9 20 (by kernel_rfl) (by kernel_rfl) ?_;simp only [List.take_succ_cons,List.take_zero,List.drop_succ_cons,List.drop_zero]
 iterate 4 still_step
 still_call (cmp_Compare_int _ _ _)
 iterate 4 still_step
 still_call (cmp_Compare_int _ _ _)
 iterate 4 still_step
 still_call (strings_Compare _ _ _)
 iterate 4 still_step
 still_call (strings_Compare _ _ _);refine wpStill_nil ?_;go_wp2_with (go_at_call 177;refine(ze2 (Gl x.op y.op) (Gl x.n y.n) (jh x.s y.s) (jh x.t y.t) _ _ (by go_simp) (by go_simp) (by go_simp) (by go_simp)).mono ?_;rintro e w' ⟨rfl,rfl⟩);go_ret;exact⟨rfl,((((Below.refl _ _).alloc (Nat.le_refl _) _).alloc (by simp) _).alloc (by simp;omega) _).drew,Nat.le_succ _⟩
theorem Ra(A B:Option Addr)(n m c d:Nat)(P Q:List Nd)(w:World)(hn:n=P.length)(hm:m=Q.length)(hln:n<=maxLen)(_hlm:m<=maxLen)(hP:jt w A P)(hQ:jt w B Q):
 Calls Tryz.prog 160 #[.slice A n c,.slice B m d,.func (.func 161) #[] #[]] w λe w'=>e = .returned (.int .i64 (zu P Q))/\Rz w w':=by
 unfold maxLen at hln _hlm;have HP:=O hP;have HQ:=O hQ;have HN:=O hn;have HM:=O hm;clear hP hQ hn hm;go_enter Tryz.func160,Tryz.ntmps160;go_wp2;go_loopw [7,8,9,10,13] (λ_ _ _ _ i wr=>∃k:Nat,k<=n/\k<=m/\i = .int .i64 k/\Hid (zu P Q=zu (P.drop k) (Q.drop k))/\Hid (w.drawn<=wr.drawn)/\Below w.heap.size w wr) (λ_ _ _ _ i _=>n-(intOf i).toNat)
 case atStart=>exact⟨0,Nat.zero_le _,Nat.zero_le _,rfl,rfl,Nat.le_refl _,Below.refl _ _⟩
 case round =>
  obtain⟨k,hkn,hkm,rfl,hc,hdr,yj⟩:=hrel;obtain⟨wo,rfl⟩:∃wo:World,wo=wr:=⟨_,rfl⟩
  by_cases h1:k<n
  ·have XC:k<P.length:=by rw [<-HN.o];exact h1
   obtain⟨a,rfl,a1,a2,a3,a4⟩:=(HP.o.keep yj) k P[k] (List.getElem?_eq_getElem XC);by_cases h2:k<m
   ·have h2':k<Q.length:=by rw [<-HM.o];exact h2
    obtain⟨b,rfl,b1,b2,b3,b4⟩:=(HQ.o.keep yj) k Q[k] (List.getElem?_eq_getElem h2');have HA:=O (hc.o.trans (IR XC h2'));have g:∀(o:Obj) (x:Addr) (v:Value),wo.cell? x=some v->(wo.alloc o).cell? x=some v:=λo x v h=>za ((Below.refl _ _).alloc (Nat.le_refl _) o) h;replace b1:=λo=>g o _ _ b1;replace b2:=λo=>g o _ _ b2;replace b3:=λo=>g o _ _ b3;replace b4:=λo=>g o _ _ b4;clear hc g;go_wp2_with fail;refine(Yu P[k] Q[k] _).mono ?_;rintro e w1 ⟨rfl,hb1,hd1⟩;have hdw:=O (Nat.le_trans hdr.o hd1);clear hd1;have hbw:=O ((yj.alloc (by have:=yj.size;omega) _).alloc (by have:=yj.size;simp;omega) _ |>.trans (hb1.mono (by have:=yj.size;simp;omega)));clear hb1 b1 b2 b3 b4 a1 a2 a3 a4;by_cases h0:NH P[k] Q[k]=0
    ·have HC:=O (HA.o.trans (by rw [h0];rfl:_=zu (P.drop (k+1)) (Q.drop (k+1))));rw [h0];clear h0 HA;go_wp2;go_roundw
     case rel=>exact⟨k+1,by omega,by omega,by go_num,HC,hdw,hbw.o⟩
     case measure=>simp [intOf];omega
    ·have HC:=O (HA.o.trans (jw h0 _));have h0':(NH P[k] Q[k]==0)=false:=beq_eq_false_iff_ne.2 h0;clear HA;go_wp2;go_ret;exact⟨jb HC.o.symm,hbw.o,hdw.o⟩
   ·have HA:=O (hc.o.trans (NR XC (by rw [<-HM.o];omega)));clear hc;go_wp2;go_ret;exact⟨jb HA.o.symm,yj.alloc (by have:=yj.size;omega) _,hdr.o⟩
  ·obtain rfl:k=n:=by omega
   by_cases h2:k<m
   ·have HA:=O (hc.o.trans (Np (by rw [<-HN.o];omega) (by rw [<-HM.o];exact h2)));clear hc;go_wp2;go_ret;exact⟨jb HA.o.symm,yj,hdr.o⟩
   ·have HA:=O (hc.o.trans (Gv (by rw [<-HN.o];omega) (by rw [<-HM.o];omega)));clear hc;go_wp2;go_ret;exact⟨jb HA.o.symm,yj,hdr.o⟩
theorem zcJ(A B:Option Addr)(n m c d:Nat)(P Q:List Nd)(w:World)(hn:n=P.length)(hm:m=Q.length)(hln:n<=maxLen)(hlm:m<=maxLen)(hP:jt w A P)(hQ:jt w B Q):
 Calls Tryz.prog 136 #[.slice A n c,.slice B m d] w λe w'=>e = .returned (.int .i64 (zu P Q))/\Rz w w':=by
 have H:=Ra A B n m c d P Q w hn hm hln hlm hP hQ;clear hn hm hP hQ;go_enter Tryz.func136,Tryz.ntmps136;go_wp2_with fail;refine H.mono ?_;rintro e w1 ⟨rfl,hb1⟩;go_wp2;go_ret;exact⟨rfl,hb1⟩
end Go.Proofs.YtokiogmfgpidmaaGreatDoor
