/-
  pol.scope: what is wrong with a scope. Plain: names of variables in an ..
-/
import Derived.Test.YthidiimbeaabhaaGreatDoorQ24
set_option maxRecDepth 100000
set_option maxHeartbeats 16000000
namespace Go.Proofs.YthidiimbeaabhaaGreatDoor
open Go.RowKit Go.Wk Go.Sort
theorem vO(a b:ByteArray):(a.toList=b.toList)=(a=b):=propext ⟨toList_inj,λh=>by rw [h]⟩
theorem bS(o1 o2:Int)(t1 a1 b1 t2 a2 b2:ByteArray)(h:¬(o1=o2/\t1=t2/\a1=a2/\b1=b2))(w:World):(binOp .neq 26 (.agg #[.int .i64 o1,.string t1,.string a1,.string b1]) (.agg #[.int .i64 o2,.string t2,.string a2,.string b2])).run Tryz.prog w = .ok (.bool true) w:=by
 go_simp;simp only [vO];exact λh1 h2 h3 h4=>h ⟨h1,h2,h3,h4⟩
theorem be(o:Int)(t a b:ByteArray)(w:World):(binOp .neq 26 (.agg #[.int .i64 o,.string t,.string a,.string b]) (.agg #[.int .i64 o,.string t,.string a,.string b])).run Tryz.prog w = .ok (.bool false) w:=by
 go_simp
theorem aZ{s:Scp}(b:Bool)(h:nj s=false):zV s b=1:=by
 unfold zV;rw [h,if_neg (by simp)]
theorem li{s:Scp}(h:s.op=5\/s.op=6):zV s false=1:=by
 unfold zV;rw [if_neg (by rw [decide_eq_true h];simp)]
theorem EN(t a b:ByteArray)(w:World)(sl:Bool):
 Calls Tryz.prog 48 #[.agg #[.int .i64 0,.string t,.string a,.string b],.bool sl] w λe w'=>e = .returned (zM (zV ⟨0,t,(a,b)⟩ sl))/\Below w.heap.size w w':=by
 have hz:(w.alloc (.cells #[.int .i64 0,.string t,.string a,.string b] 26)).heap.size=w.heap.size+1:=by simp
 have b1:=za w (.cells #[.int .i64 0,.string t,.string a,.string b] 26);have B2:=O (b1.trans ((za (w.alloc (.cells #[.int .i64 0,.string t,.string a,.string b] 26)) (.cells #[.int .i64 0,.string ⟨#[]⟩,.string ⟨#[]⟩,.string ⟨#[]⟩] 26)).mono b1.size));have X:=O ((jF w #[.int .i64 0,.string t,.string a,.string b] 26).keep (za (w.alloc (.cells #[.int .i64 0,.string t,.string a,.string b] 26)) (.cells #[.int .i64 0,.string ⟨#[]⟩,.string ⟨#[]⟩,.string ⟨#[]⟩] 26)));obtain⟨q0,q1,q2,q3⟩:=X.o.sc;clear hz b1;by_cases g:t=⟨#[]⟩/\a=⟨#[]⟩/\b=⟨#[]⟩
 case neg =>
  have l5:=bS 0 0 t a b ⟨#[]⟩ ⟨#[]⟩ ⟨#[]⟩ (λh=>g ⟨h.2.1,h.2.2.1,h.2.2.2⟩);have HE:=O (aZ (s:=⟨0,t,(a,b)⟩) sl (show decide (t=emp/\(a,b)=noU)=false from decide_eq_false (λq=>g ⟨q.1,congrArg Prod.fst q.2,congrArg Prod.snd q.2⟩)));rw [HE.o];clear g;go_enter Tryz.func48,Tryz.ntmps48;go_wp2_with fail;go_ret;exact⟨rfl,B2.o⟩
 obtain⟨rfl,rfl,rfl⟩:=g;have l5:=be 0 ⟨#[]⟩ ⟨#[]⟩ ⟨#[]⟩;have HE:=O (show zV ⟨0,⟨#[]⟩,(⟨#[]⟩,⟨#[]⟩)⟩ sl=0 by
  cases sl <;> decide +kernel)
 rw [HE.o];go_enter Tryz.func48,Tryz.ntmps48;go_wp2_with fail;go_ret;exact⟨rfl,B2.o⟩
theorem Ds(t a b:ByteArray)(w:World):
 Calls Tryz.prog 48 #[.agg #[.int .i64 5,.string t,.string a,.string b],.bool false] w λe w'=>e = .returned (zM (zV ⟨5,t,(a,b)⟩ false))/\Below w.heap.size w w':=by
 have hz:(w.alloc (.cells #[.int .i64 5,.string t,.string a,.string b] 26)).heap.size=w.heap.size+1:=by simp
 have b1:=za w (.cells #[.int .i64 5,.string t,.string a,.string b] 26);have B2:=O (b1.trans ((za (w.alloc (.cells #[.int .i64 5,.string t,.string a,.string b] 26)) (.cells #[.int .i64 5,.string ⟨#[]⟩,.string ⟨#[]⟩,.string ⟨#[]⟩] 26)).mono b1.size));have X:=O ((jF w #[.int .i64 5,.string t,.string a,.string b] 26).keep (za (w.alloc (.cells #[.int .i64 5,.string t,.string a,.string b] 26)) (.cells #[.int .i64 5,.string ⟨#[]⟩,.string ⟨#[]⟩,.string ⟨#[]⟩] 26)));obtain⟨q0,q1,q2,q3⟩:=X.o.sc;clear hz b1;have HE:=O (li (s:=⟨5,t,(a,b)⟩) (.inl rfl));rw [HE.o];go_enter Tryz.func48,Tryz.ntmps48;go_wp2_with fail;go_ret;exact⟨rfl,B2.o⟩
theorem DD(t a b:ByteArray)(w:World):
 Calls Tryz.prog 48 #[.agg #[.int .i64 6,.string t,.string a,.string b],.bool false] w λe w'=>e = .returned (zM (zV ⟨6,t,(a,b)⟩ false))/\Below w.heap.size w w':=by
 have hz:(w.alloc (.cells #[.int .i64 6,.string t,.string a,.string b] 26)).heap.size=w.heap.size+1:=by simp
 have b1:=za w (.cells #[.int .i64 6,.string t,.string a,.string b] 26);have B2:=O (b1.trans ((za (w.alloc (.cells #[.int .i64 6,.string t,.string a,.string b] 26)) (.cells #[.int .i64 6,.string ⟨#[]⟩,.string ⟨#[]⟩,.string ⟨#[]⟩] 26)).mono b1.size));have X:=O ((jF w #[.int .i64 6,.string t,.string a,.string b] 26).keep (za (w.alloc (.cells #[.int .i64 6,.string t,.string a,.string b] 26)) (.cells #[.int .i64 6,.string ⟨#[]⟩,.string ⟨#[]⟩,.string ⟨#[]⟩] 26)));obtain⟨q0,q1,q2,q3⟩:=X.o.sc;clear hz b1;have HE:=O (li (s:=⟨6,t,(a,b)⟩) (.inr rfl));rw [HE.o];go_enter Tryz.func48,Tryz.ntmps48;go_wp2_with fail;go_ret;exact⟨rfl,B2.o⟩
theorem C9(t a b:ByteArray)(w:World):
 Calls Tryz.prog 48 #[.agg #[.int .i64 5,.string t,.string a,.string b],.bool true] w λe w'=>e = .returned (zM (zV ⟨5,t,(a,b)⟩ true))/\Below w.heap.size w w':=by
 have hz:(w.alloc (.cells #[.int .i64 5,.string t,.string a,.string b] 26)).heap.size=w.heap.size+1:=by simp
 have b1:=za w (.cells #[.int .i64 5,.string t,.string a,.string b] 26);have B2:=O (b1.trans ((za (w.alloc (.cells #[.int .i64 5,.string t,.string a,.string b] 26)) (.cells #[.int .i64 5,.string ⟨#[]⟩,.string ⟨#[]⟩,.string ⟨#[]⟩] 26)).mono b1.size));have X:=O ((jF w #[.int .i64 5,.string t,.string a,.string b] 26).keep (za (w.alloc (.cells #[.int .i64 5,.string t,.string a,.string b] 26)) (.cells #[.int .i64 5,.string ⟨#[]⟩,.string ⟨#[]⟩,.string ⟨#[]⟩] 26)));obtain⟨q0,q1,q2,q3⟩:=X.o.sc;clear hz b1;by_cases g:t=⟨#[]⟩/\a=⟨#[]⟩/\b=⟨#[]⟩
 case neg =>
  have l5:=bS 5 5 t a b ⟨#[]⟩ ⟨#[]⟩ ⟨#[]⟩ (λh=>g ⟨h.2.1,h.2.2.1,h.2.2.2⟩);have HE:=O (aZ (s:=⟨5,t,(a,b)⟩) true (show decide (t=emp/\(a,b)=noU)=false from decide_eq_false (λq=>g ⟨q.1,congrArg Prod.fst q.2,congrArg Prod.snd q.2⟩)));rw [HE.o];clear g;go_enter Tryz.func48,Tryz.ntmps48;go_wp2_with fail;go_ret;exact⟨rfl,B2.o⟩
 obtain⟨rfl,rfl,rfl⟩:=g;have l5:=be 5 ⟨#[]⟩ ⟨#[]⟩ ⟨#[]⟩;have HE:=O (show zV ⟨5,⟨#[]⟩,(⟨#[]⟩,⟨#[]⟩)⟩ true=0 by
  decide +kernel)
 rw [HE.o];go_enter Tryz.func48,Tryz.ntmps48;go_wp2_with fail;go_ret;exact⟨rfl,B2.o⟩
theorem Dy(t a b:ByteArray)(w:World):
 Calls Tryz.prog 48 #[.agg #[.int .i64 6,.string t,.string a,.string b],.bool true] w λe w'=>e = .returned (zM (zV ⟨6,t,(a,b)⟩ true))/\Below w.heap.size w w':=by
 have hz:(w.alloc (.cells #[.int .i64 6,.string t,.string a,.string b] 26)).heap.size=w.heap.size+1:=by simp
 have b1:=za w (.cells #[.int .i64 6,.string t,.string a,.string b] 26);have B2:=O (b1.trans ((za (w.alloc (.cells #[.int .i64 6,.string t,.string a,.string b] 26)) (.cells #[.int .i64 6,.string ⟨#[]⟩,.string ⟨#[]⟩,.string ⟨#[]⟩] 26)).mono b1.size));have X:=O ((jF w #[.int .i64 6,.string t,.string a,.string b] 26).keep (za (w.alloc (.cells #[.int .i64 6,.string t,.string a,.string b] 26)) (.cells #[.int .i64 6,.string ⟨#[]⟩,.string ⟨#[]⟩,.string ⟨#[]⟩] 26)));obtain⟨q0,q1,q2,q3⟩:=X.o.sc;clear hz b1;by_cases g:t=⟨#[]⟩/\a=⟨#[]⟩/\b=⟨#[]⟩
 case neg =>
  have l5:=bS 6 6 t a b ⟨#[]⟩ ⟨#[]⟩ ⟨#[]⟩ (λh=>g ⟨h.2.1,h.2.2.1,h.2.2.2⟩);have HE:=O (aZ (s:=⟨6,t,(a,b)⟩) true (show decide (t=emp/\(a,b)=noU)=false from decide_eq_false (λq=>g ⟨q.1,congrArg Prod.fst q.2,congrArg Prod.snd q.2⟩)));rw [HE.o];clear g;go_enter Tryz.func48,Tryz.ntmps48;go_wp2_with fail;go_ret;exact⟨rfl,B2.o⟩
 obtain⟨rfl,rfl,rfl⟩:=g;have l5:=be 6 ⟨#[]⟩ ⟨#[]⟩ ⟨#[]⟩;have HE:=O (show zV ⟨6,⟨#[]⟩,(⟨#[]⟩,⟨#[]⟩)⟩ true=0 by
  decide +kernel)
 rw [HE.o];go_enter Tryz.func48,Tryz.ntmps48;go_wp2_with fail;go_ret;exact⟨rfl,B2.o⟩
theorem Fj(t a b:ByteArray)(w:World)(ht:t.size<=maxLen)(ha:a.size<=maxLen)(hb:b.size<=maxLen)(sl:Bool):
 Calls Tryz.prog 48 #[.agg #[.int .i64 1,.string t,.string a,.string b],.bool sl] w λe w'=>e = .returned (zM (zV ⟨1,t,(a,b)⟩ sl))/\Below w.heap.size w w':=by
 have hz:(w.alloc (.cells #[.int .i64 1,.string t,.string a,.string b] 26)).heap.size=w.heap.size+1:=by simp
 have b1:=za w (.cells #[.int .i64 1,.string t,.string a,.string b] 26);have B2:=O (b1.trans ((za (w.alloc (.cells #[.int .i64 1,.string t,.string a,.string b] 26)) (.cells #[.int .i64 1,.string ⟨#[]⟩,.string a,.string b] 26)).mono b1.size));have X:=O ((jF w #[.int .i64 1,.string t,.string a,.string b] 26).keep (za (w.alloc (.cells #[.int .i64 1,.string t,.string a,.string b] 26)) (.cells #[.int .i64 1,.string ⟨#[]⟩,.string a,.string b] 26)));obtain⟨q0,q1,q2,q3⟩:=X.o.sc;clear hz b1;by_cases g:t=⟨#[]⟩
 case neg =>
  have l5:=bS 1 1 t a b ⟨#[]⟩ a b (λh=>g h.2.1);have HE:=O (aZ (s:=⟨1,t,(a,b)⟩) sl (show decide (t=emp)=false from decide_eq_false (λq=>g q)));rw [HE.o];clear g;go_enter Tryz.func48,Tryz.ntmps48;go_wp2_with fail;go_ret;exact⟨rfl,B2.o⟩
 obtain rfl:=g;have l5:=be 1 ⟨#[]⟩ a b;have HE:=O (show zV ⟨1,⟨#[]⟩,(a,b)⟩ sl=if zq (a,b)=0 then 0 else 1 by
  unfold zV nj
  cases sl <;> by_cases q:zq (a,b)=0 <;> simp [q,emp])
 have CW:=O (λw'=>jP a b w' ha hb);generalize zV ⟨1,⟨#[]⟩,(a,b)⟩ sl=R at *;clear ht ha hb;generalize zq (a,b)=F at *;generalize pr (a,b)=wv at *;go_enter Tryz.func48,Tryz.ntmps48;go_wp2_with fail;refine(CW.o _).mono ?_;rintro e w3 ⟨rfl,b3⟩;have B3:=bh B2 b3;clear b3 CW;by_cases g:F=0
 ·have HR:=O (HE.o.trans (if_pos g));rw [g,zf];clear g;go_wp2_with fail;go_ret;exact⟨by rw [HR.o];rfl,B3.o⟩
 ·have j7:=O (zl g);have HR:=O (HE.o.trans (if_neg g));rw [j7.o];clear g;go_wp2_with fail;go_ret;exact⟨by rw [HR.o];rfl,B3.o⟩
theorem Gc(t a b:ByteArray)(w:World)(ht:t.size<=maxLen)(ha:a.size<=maxLen)(hb:b.size<=maxLen)(sl:Bool):
 Calls Tryz.prog 48 #[.agg #[.int .i64 2,.string t,.string a,.string b],.bool sl] w λe w'=>e = .returned (zM (zV ⟨2,t,(a,b)⟩ sl))/\Below w.heap.size w w':=by
 have hz:(w.alloc (.cells #[.int .i64 2,.string t,.string a,.string b] 26)).heap.size=w.heap.size+1:=by simp
 have b1:=za w (.cells #[.int .i64 2,.string t,.string a,.string b] 26);have B2:=O (b1.trans ((za (w.alloc (.cells #[.int .i64 2,.string t,.string a,.string b] 26)) (.cells #[.int .i64 2,.string ⟨#[]⟩,.string a,.string b] 26)).mono b1.size));have X:=O ((jF w #[.int .i64 2,.string t,.string a,.string b] 26).keep (za (w.alloc (.cells #[.int .i64 2,.string t,.string a,.string b] 26)) (.cells #[.int .i64 2,.string ⟨#[]⟩,.string a,.string b] 26)));obtain⟨q0,q1,q2,q3⟩:=X.o.sc;clear hz b1;by_cases g:t=⟨#[]⟩
 case neg =>
  have l5:=bS 2 2 t a b ⟨#[]⟩ a b (λh=>g h.2.1);have HE:=O (aZ (s:=⟨2,t,(a,b)⟩) sl (show decide (t=emp)=false from decide_eq_false (λq=>g q)));rw [HE.o];clear g;go_enter Tryz.func48,Tryz.ntmps48;go_wp2_with fail;go_ret;exact⟨rfl,B2.o⟩
 obtain rfl:=g;have l5:=be 2 ⟨#[]⟩ a b;have HE:=O (show zV ⟨2,⟨#[]⟩,(a,b)⟩ sl=if zq (a,b)=0 then 0 else 1 by
  unfold zV nj
  cases sl <;> by_cases q:zq (a,b)=0 <;> simp [q,emp])
 have CW:=O (λw'=>jP a b w' ha hb);generalize zV ⟨2,⟨#[]⟩,(a,b)⟩ sl=R at *;clear ht ha hb;generalize zq (a,b)=F at *;generalize pr (a,b)=wv at *;go_enter Tryz.func48,Tryz.ntmps48;go_wp2_with fail;refine(CW.o _).mono ?_;rintro e w3 ⟨rfl,b3⟩;have B3:=bh B2 b3;clear b3 CW;by_cases g:F=0
 ·have HR:=O (HE.o.trans (if_pos g));rw [g,zf];clear g;go_wp2_with fail;go_ret;exact⟨by rw [HR.o];rfl,B3.o⟩
 ·have j7:=O (zl g);have HR:=O (HE.o.trans (if_neg g));rw [j7.o];clear g;go_wp2_with fail;go_ret;exact⟨by rw [HR.o];rfl,B3.o⟩
theorem FX(t a b:ByteArray)(w:World)(ht:t.size<=maxLen)(ha:a.size<=maxLen)(hb:b.size<=maxLen)(sl:Bool):
 Calls Tryz.prog 48 #[.agg #[.int .i64 3,.string t,.string a,.string b],.bool sl] w λe w'=>e = .returned (zM (zV ⟨3,t,(a,b)⟩ sl))/\Below w.heap.size w w':=by
 have hz:(w.alloc (.cells #[.int .i64 3,.string t,.string a,.string b] 26)).heap.size=w.heap.size+1:=by simp
 have b1:=za w (.cells #[.int .i64 3,.string t,.string a,.string b] 26);have B2:=O (b1.trans ((za (w.alloc (.cells #[.int .i64 3,.string t,.string a,.string b] 26)) (.cells #[.int .i64 3,.string t,.string ⟨#[]⟩,.string ⟨#[]⟩] 26)).mono b1.size));have X:=O ((jF w #[.int .i64 3,.string t,.string a,.string b] 26).keep (za (w.alloc (.cells #[.int .i64 3,.string t,.string a,.string b] 26)) (.cells #[.int .i64 3,.string t,.string ⟨#[]⟩,.string ⟨#[]⟩] 26)));obtain⟨q0,q1,q2,q3⟩:=X.o.sc;clear hz b1;by_cases g:a=⟨#[]⟩/\b=⟨#[]⟩
 case neg =>
  have l5:=bS 3 3 t a b t ⟨#[]⟩ ⟨#[]⟩ (λh=>g ⟨h.2.2.1,h.2.2.2⟩);have HE:=O (aZ (s:=⟨3,t,(a,b)⟩) sl (show decide ((a,b)=noU)=false from decide_eq_false (λq=>g ⟨congrArg Prod.fst q,congrArg Prod.snd q⟩)));rw [HE.o];clear g;go_enter Tryz.func48,Tryz.ntmps48;go_wp2_with fail;go_ret;exact⟨rfl,B2.o⟩
 obtain⟨rfl,rfl⟩:=g;have l5:=be 3 t ⟨#[]⟩ ⟨#[]⟩;have HE:=O (show zV ⟨3,t,(⟨#[]⟩,⟨#[]⟩)⟩ sl=if zk t=0 then 0 else 1 by
  unfold zV nj
  cases sl <;> by_cases q:zk t=0 <;> simp [q,noU,emp])
 have CW:=O (λw'=>aj t w' ht);generalize zV ⟨3,t,(⟨#[]⟩,⟨#[]⟩)⟩ sl=R at *;clear ht ha hb;generalize zk t=F at *;go_enter Tryz.func48,Tryz.ntmps48;go_wp2_with fail;refine(CW.o _).mono ?_;rintro e w3 ⟨rfl,b3⟩;have B3:=bh B2 b3;have X3:=O (X.o.keep b3);clear b3 CW;obtain⟨q0',q1',q2',q3'⟩:=X3.o.sc;by_cases g:F=0
 ·have HR:=O (HE.o.trans (if_pos g));rw [g,zf];clear g;go_wp2_with fail;go_ret;exact⟨by rw [HR.o];rfl,B3.o⟩
 ·have j7:=O (zl g);have HR:=O (HE.o.trans (if_neg g));rw [j7.o];clear g;go_wp2_with fail;go_ret;exact⟨by rw [HR.o];rfl,B3.o⟩
theorem Gt(t a b:ByteArray)(w:World)(ht:t.size<=maxLen)(ha:a.size<=maxLen)(hb:b.size<=maxLen)(sl:Bool):
 Calls Tryz.prog 48 #[.agg #[.int .i64 4,.string t,.string a,.string b],.bool sl] w λe w'=>e = .returned (zM (zV ⟨4,t,(a,b)⟩ sl))/\Below w.heap.size w w':=by
 have hz:(w.alloc (.cells #[.int .i64 4,.string t,.string a,.string b] 26)).heap.size=w.heap.size+1:=by simp
 have b1:=za w (.cells #[.int .i64 4,.string t,.string a,.string b] 26);have B2:=O (b1.trans ((za (w.alloc (.cells #[.int .i64 4,.string t,.string a,.string b] 26)) (.cells #[.int .i64 4,.string t,.string a,.string b] 26)).mono b1.size));have X:=O ((jF w #[.int .i64 4,.string t,.string a,.string b] 26).keep (za (w.alloc (.cells #[.int .i64 4,.string t,.string a,.string b] 26)) (.cells #[.int .i64 4,.string t,.string a,.string b] 26)));obtain⟨q0,q1,q2,q3⟩:=X.o.sc;clear hz b1;have l5:=be 4 t a b;have HE:=O (show zV ⟨4,t,(a,b)⟩ sl=if zk t=0 then(if zq (a,b)=0 then 0 else 1) else 1 by
  unfold zV nj
  cases sl <;> by_cases q:zk t=0 <;> by_cases q2:zq (a,b)=0 <;> simp [q,q2])
 have CN:=O (λw'=>aj t w' ht);have CW:=O (λw'=>jP a b w' ha hb);generalize zV ⟨4,t,(a,b)⟩ sl=R at *;clear ht ha hb;generalize zk t=F at *;generalize zq (a,b)=G at *;generalize pr (a,b)=wv at *;go_enter Tryz.func48,Tryz.ntmps48;go_wp2_with fail;refine(CN.o _).mono ?_;rintro e w3 ⟨rfl,b3⟩;have B3:=bh B2 b3;have X3:=O (X.o.keep b3);clear b3 CN;obtain⟨q0',q1',q2',q3'⟩:=X3.o.sc;by_cases g:F=0
 case neg =>
  have j7:=O (zl g);have HR:=O (HE.o.trans (if_neg g));rw [j7.o];clear g;go_wp2_with fail;go_ret;exact⟨by rw [HR.o];rfl,B3.o⟩
 replace HE:=O (HE.o.trans (if_pos g));rw [g,zf];clear g;go_wp2_with fail;refine(CW.o _).mono ?_;rintro e w4 ⟨rfl,b4⟩;have B4:=bh B3 b4;clear b4 CW;by_cases g:G=0
 ·have HR:=O (HE.o.trans (if_pos g));rw [g,zf];clear g;go_wp2_with fail;go_ret;exact⟨by rw [HR.o];rfl,B4.o⟩
 ·have j7:=O (zl g);have HR:=O (HE.o.trans (if_neg g));rw [j7.o];clear g;go_wp2_with fail;go_ret;exact⟨by rw [HR.o];rfl,B4.o⟩
theorem kU(s:Scp)(sl:Bool)(w:World)(h:lF s):
 Calls Tryz.prog 48 #[s.v,.bool sl] w λe w'=>e = .returned (zM (zV s sl))/\Below w.heap.size w w':=by
 obtain⟨o,t,⟨a,b⟩⟩:=s;obtain⟨ht,ha,hb⟩:=h;unfold Scp.v;dsimp only at ht ha hb ⊢;by_cases g0:o=0
 ·subst g0;exact EN t a b w sl
 by_cases g5:o=5
 ·subst g5;cases sl
  ·exact Ds t a b w
  ·exact C9 t a b w
 by_cases g6:o=6
 ·subst g6;cases sl
  ·exact DD t a b w
  ·exact Dy t a b w
 by_cases g1:o=1
 ·subst g1;exact Fj t a b w ht ha hb sl
 by_cases g2:o=2
 ·subst g2;exact Gc t a b w ht ha hb sl
 by_cases g3:o=3
 ·subst g3;exact FX t a b w ht ha hb sl
 by_cases g4:o=4
 ·subst g4;exact Gt t a b w ht ha hb sl
 have hz:(w.alloc (.cells #[.int .i64 o,.string t,.string a,.string b] 26)).heap.size=w.heap.size+1:=by simp
 have b1:=za w (.cells #[.int .i64 o,.string t,.string a,.string b] 26);have B2:=O (b1.trans ((za (w.alloc (.cells #[.int .i64 o,.string t,.string a,.string b] 26)) (.cells #[.int .i64 o,.string ⟨#[]⟩,.string ⟨#[]⟩,.string ⟨#[]⟩] 26)).mono b1.size));have X:=O ((jF w #[.int .i64 o,.string t,.string a,.string b] 26).keep (za (w.alloc (.cells #[.int .i64 o,.string t,.string a,.string b] 26)) (.cells #[.int .i64 o,.string ⟨#[]⟩,.string ⟨#[]⟩,.string ⟨#[]⟩] 26)));obtain⟨q0,q1,q2,q3⟩:=X.o.sc;clear hz b1;have f0:(o==0)=false:=beq_eq_false_iff_ne.2 g0;have f1:(o==1)=false:=beq_eq_false_iff_ne.2 g1;have f2:(o==2)=false:=beq_eq_false_iff_ne.2 g2;have f3:(o==3)=false:=beq_eq_false_iff_ne.2 g3;have f4:(o==4)=false:=beq_eq_false_iff_ne.2 g4;have f5:(o==5)=false:=beq_eq_false_iff_ne.2 g5;have f6:(o==6)=false:=beq_eq_false_iff_ne.2 g6;have HE:=O (aZ (s:=⟨o,t,(a,b)⟩) sl (by
  unfold nj
  rw [if_neg (λq=>q.elim g0 λq=>q.elim g5 g6),if_neg (λq=>q.elim g1 g2),if_neg g3]
  exact decide_eq_false g4))
 rw [HE.o];clear g0 g1 g2 g3 g4 g5 g6;go_enter Tryz.func48,Tryz.ntmps48;go_wp2_with fail;go_ret;exact⟨rfl,B2.o⟩
end Go.Proofs.YthidiimbeaabhaaGreatDoor
namespace Go.Proofs.YthidiimbeaabhaaGreatDoor
open Go.RowKit Go.Wk
mutual
theorem sT:∀(x:Ex) (f:Bool),x.valid f->∀n∈x.flat,jE n=true
 | .node n ps,f,h,m,hm=>by
  rw [Ex.flat] at hm;rcases List.mem_cons.1 hm with e|hm
  ·have h1:=h.1;unfold cL at h1;rw [Bool.and_eq_true] at h1;rw [e];exact h1.1
  ·exact qg ps _ _ h.2.2 m hm
theorem qg:∀(ps:Exs) (c:Bool) (s:ByteArray),ps.valid c s->∀n∈ps.flat,jE n=true
 | .nil,_,_,_,m,hm=>nomatch hm
 | .cons x r,c,s,h,m,hm=>by
  rw [Exs.flat] at hm;rcases List.mem_append.1 hm with hm|hm
  ·exact sT x c h.2.1 m hm
  ·exact qg r c _ h.2.2 m hm
end
theorem FZ{n:Nd}(h:jE n=true)(h8:n.op=8):0<n.s.size:=by
 unfold jE at h;rw [if_neg (by omega)] at h;by_cases g:zJ n<0\/n.n≠0\/n.t≠emp
 ·rw [if_pos g] at h;cases h
 rw [if_neg g,if_pos h8] at h;unfold dM at h;rcases Nat.eq_zero_or_pos n.s.size with h0|h0
 ·have e:n.s=emp:=j4 (List.eq_nil_of_length_eq_zero (by rw [Array.length_toList];exact h0));rw [e] at h;exact absurd h (by decide +kernel)
 ·exact h0
theorem yW{P:List Nd}(h:jg P=0):∀n∈P,n.op=8->0<n.s.size:=by
 obtain⟨-,x,hv,rfl⟩:=jq.1 h;exact λn hn h8=>FZ (sT x false hv n hn) h8
theorem E6{s:ByteArray}(h:0<s.size):s.data.toList.head?=some s[0]:=by
 obtain⟨⟨l⟩⟩:=s;cases l
 ·cases h
 ·rfl
theorem yH{s:ByteArray}(h:0<s.size):decide (s.data.toList.head?=some 63)=decide ((s[0].toNat:Int)=63):=by
 rw [E6 h];have:(some s[0]=some (63:UInt8))↔((s[0].toNat:Int)=63):=by
  rw [Option.some.injEq];constructor
  ·intro e;rw [e];rfl
  ·intro e;have h1:s[0].toNat=(63:UInt8).toNat:=by
    have:(63:UInt8).toNat=63:=rfl;omega
   exact UInt8.toNat_inj.1 h1
 rw [Bool.eq_iff_iff,decide_eq_true_iff,decide_eq_true_iff];exact this
theorem oJ{P:List Nd}{k:Nat}(h:k<P.length):jI (P.take (k+1))=(jI (P.take k)&& !(decide (P[k].op=8)&& decide (P[k].s.data.toList.head?=some 63))):=by
 unfold jI;rw [List.take_succ_eq_append_getElem h,List.all_append];simp
theorem nQ{P:List Nd}{k:Nat}(h:k<P.length)(h8:P[k].op=8)(hs:P[k].s.data.toList.head?=some 63):jI P=false:=by
 unfold jI;rw [List.all_eq_false];exact⟨P[k],List.getElem_mem h,by rw [decide_eq_true h8,decide_eq_true hs];decide⟩
theorem uv{C:List Cnd}{k:Nat}(h:k<C.length):am (C.drop k)=or2 (lG C[k]) (am (C.drop (k+1))):=by
 rw [List.drop_eq_getElem_cons h];rfl
theorem xT{c:Cnd}(h:jg c.P≠0):lG c=jg c.P:=zG h _
theorem Dl{c:Cnd}(h:jg c.P=0):lG c=if jI c.P then 0 else 1:=by
 unfold lG;rw [h,zn]
theorem eN{p:Pol}(h:polF p=0):zk p.name=0/\zV p.who true=0/\zV p.act false=0/\zV p.what true=0/\p.C.length<=4/\am p.C=0:=by
 unfold polF at h;obtain⟨h1,h⟩:=zt.1 h;obtain⟨h2,h⟩:=zt.1 h;obtain⟨h3,h⟩:=zt.1 h;obtain⟨h4,h⟩:=zt.1 h;by_cases g:4<p.C.length
 ·rw [if_pos g] at h;exact absurd h (by decide)
 ·rw [if_neg g] at h;exact⟨h1,h2,h3,h4,by omega,h⟩
theorem dj:∀ {C:List Cnd},am C=0->∀c∈C,jg c.P=0/\jI c.P=true
 | [],_,c,hc=>nomatch hc
 | d :: r,h,c,hc=>by
  unfold am at h;obtain⟨h1,h2⟩:=zt.1 h;rcases List.mem_cons.1 hc with rfl|hc
  ·unfold lG at h1;obtain⟨h3,h4⟩:=zt.1 h1;refine⟨h3,?_⟩;cases q:jI c.P
   ·rw [q] at h4;exact absurd h4 (by decide)
   ·rfl
  ·exact dj h2 c hc
theorem cH(s:Scp)(v:ByteArray):1<=(zN s v).length/\(zN s v).length<=6:=by
 unfold zN jC aY zw;split
 ·exact⟨by simp,by simp⟩
 split
 ·exact⟨by simp,by simp⟩
 split
 ·exact⟨by simp,by simp⟩
 split
 ·exact⟨by simp,by simp⟩
 split
 ·exact⟨by simp,by simp⟩
 split
 ·exact⟨by simp,by simp⟩
 exact⟨by simp,by simp⟩
theorem pL{c:Cnd}(h:jg c.P=0):1<=(cZ c).length/\(cZ c).length<=201:=by
 have h1:=(jq.1 h).1;have h2:1<=c.P.length:=by
  obtain⟨-,x,-,e⟩:=jq.1 h;rw [e];exact j6 x
 unfold cZ;split
 ·rw [List.length_cons];omega
 ·omega
def fu(p:Pol)(k:Nat):List Nd:=((p.C.take k).map cZ).foldl eD (eD (eD (zN p.who zZ) (zN p.act j8)) (zN p.what jc))
theorem mV{p:Pol}{k:Nat}(h:k<p.C.length):fu p (k+1)=eD (fu p k) (cZ p.C[k]):=by
 unfold fu;rw [List.take_succ_eq_append_getElem h,List.map_append,List.foldl_append];rfl
theorem yQ{p:Pol}{k:Nat}(h:p.C.length<=k):fu p k=jR p:=by
 unfold fu jR;rw [List.take_of_length_le h]
theorem pG{p:Pol}(h:am p.C=0):∀k:Nat,k<=p.C.length->1<=(fu p k).length/\(fu p k).length<=20+k*202
 | 0,_=>by
  have h1:=cH p.who zZ;have h2:=cH p.act j8;have h3:=cH p.what jc;unfold fu;simp only [List.take_zero,List.map_nil,List.foldl_nil,eD,List.length_cons,List.length_append];omega
 | k+1,hk=>by
  have h1:=pG h k (by omega);have h2:=pL (dj h p.C[k] (List.getElem_mem (by omega))).1;rw [mV (by omega)];unfold eD;rw [List.length_cons,List.length_append];omega
end Go.Proofs.YthidiimbeaabhaaGreatDoor
namespace Go.Proofs.YthidiimbeaabhaaGreatDoor
open Go.RowKit Go.Wk Go.Sort
structure Vn(w:World)(b:Nat)(x:Nd):Prop where
 c0:w.cell? ⟨b,0,none⟩=some (.int .i64 x.op)
 c1:w.cell? ⟨b,1,none⟩=some (.int .i64 x.n)
 c2:w.cell? ⟨b,2,none⟩=some (.string x.s)
 c3:w.cell? ⟨b,3,none⟩=some (.string x.t)
theorem Vn.keep{w w':World}{b:Nat}{x:Nd}(h:Vn w b x)(hb:Below w.heap.size w w'):Vn w' b x:=⟨zb hb h.c0,zb hb h.c1,zb hb h.c2,zb hb h.c3⟩
theorem Hp(w:World)(x:Nd)(t:TypeId):Vn (w.alloc (.cells #[.int .i64 x.op,.int .i64 x.n,.string x.s,.string x.t] t)) w.heap.size x :=
 ⟨bU (heap_alloc_new w _) rfl,bU (heap_alloc_new w _) rfl,bU (heap_alloc_new w _) rfl,bU (heap_alloc_new w _) rfl⟩
theorem uW(t:List Nd)(s s':ByteArray):∀(c p:Nat),bD t c false s p=bD t c false s' p
 | 0,p=>by unfold bD;simp only [jn]
 | c+1,p=>by
  rcases h:t[p]? with _|y
  ·have hp:t.length<=p:=List.getElem?_eq_none_iff.1 h;rw [gz hp,gz hp]
  ·have e1:∀z,¬(false=true/\¬ai z y.s<0):=λz q=>Bool.false_ne_true q.1;rw [fb h,fb h,if_neg (e1 s),if_neg (e1 s')]
theorem sP{t:List Nd}{s:ByteArray}{c p:Nat}:bD t (c+1) false s p=if 0<=aO t p false then bD t c false s (aO t p false).toNat else -1:=by
 rcases h:t[p]? with _|y
 ·have hp:t.length<=p:=List.getElem?_eq_none_iff.1 h;rw [gz hp,sj hp];rfl
 ·rw [fb h,if_neg (λq=>absurd q.1 Bool.false_ne_true),uW t y.s s]
theorem Dh{f:Bool}{x:Nd}(h:jE x=false):cL f x=false:=by unfold cL;rw [h];rfl
theorem AW{f:Bool}{x:Nd}(h:jE x=true):cL f x=(decide (x.op=7)==f):=by unfold cL;rw [h];rfl
theorem x6{x:Nd}(h:fC x):zJ x<=9223372036854775807:=by
 unfold zJ;have:=h.hi;split
 ·exact this
 ·repeat' (first|split|omega)
def TbC(P:List Nd)(A:Option Addr)(n c m:Nat):Prop:=∀(p:Nat) (f:Bool) (w:World),Ns w A n c P->n-p<=m->
 Calls Tryz.prog 58 #[.slice A n c,.int .i64 p,.bool f] w λe w'=>e = .returned (.int .i64 (aO P p f))/\Below w.heap.size w w'
theorem C'(P:List Nd)(A:Option Addr)(n c p:Nat)(f:Bool)(w:World)(h:Ns w A n c P)(hp:n<=p):
 Calls Tryz.prog 58 #[.slice A n c,.int .i64 p,.bool f] w λe w'=>e = .returned (.int .i64 (aO P p f))/\Below w.heap.size w w':=by
 have HR:=O (sj (t:=P) (p:=p) (f:=f) (by rw [<-h.len];exact hp));have f0:decide ((n:Int)<=(p:Int))=true:=decide_eq_true (by omega);have f1:decide ((p:Int)<0)=false:=decide_eq_false (by omega);clear h;go_enter Tryz.func58,Tryz.ntmps58;go_wp2_with fail;go_ret;exact⟨by rw [HR.o];rfl,Below.refl _ _⟩
theorem ED(P:List Nd)(m:Nat)(a:Addr)(n c q:Nat)(f:Bool)(w:World)(ih:TbC P (some a) n c m)(AN:Ns w (some a) n c P)(hq:q<n)(hf:n-q<=m+1):
 Calls Tryz.prog 58 #[.slice (some a) n c,.int .i64 q,.bool f] w λe w'=>e = .returned (.int .i64 (aO P q f))/\Below w.heap.size w w':=by
 have hm:=AN.max;unfold maxLen at hm;have GL:=O AN;have kX:=O AN.len;have KJ:q<P.length:=by rw [<-AN.len];exact hq
 have Jf:=List.getElem?_eq_getElem KJ;have dY:=AN.ok _ (List.getElem_mem KJ);have IH:=O (λp g w' (hp:q<p) hb=>ih p g w' (AN.keep (w':=w') hb) (by omega));obtain⟨a',ea,d0,d1,d2,d3⟩:=AN.at_ q _ Jf;injection ea with ea;subst ea;have CS:=O (tw P[q] w dY);have CP:=O (λw=>eM P[q] w);have hpl:=x6 dY;obtain⟨x,hx⟩:∃x,x=P[q]:=⟨_,rfl⟩
 rw [<-hx] at Jf dY d0 d1 d2 d3 CS CP hpl;have HX:=O Jf;clear hx Jf AN ih dY;have Mb:=O (show Nd4 w (a.add (q*4)) x from⟨d0,d1,d2,d3⟩);unfold ndV at CS CP;have f0:decide (n<=q)=false:=decide_eq_false (by omega);have f1:decide ((q:Int)<0)=false:=decide_eq_false (by omega);by_cases GO:jE x=true
 ·rw [GO] at CS;have HH:=O (AW (f:=f) GO);have JJ:=O (nD GO);clear GO;go_enter Tryz.func58,Tryz.ntmps58;go_wp2_with fail;refine CS.o.mono ?_;rintro e w1 ⟨rfl,b1⟩;have B1:=O b1;have HXE1:=O (Mb.o.keep b1);obtain⟨e0,e1,e2,e3⟩:=HXE1.o;clear b1 CS Mb d0 d1 d2 d3;have he:(x.op==7)=decide (x.op=7):=rfl;by_cases hh:(decide (x.op=7)==f)=true
  ·have HE:=O (show aO P q f=bD P (zJ x).toNat (ae x) emp (q+1) from yR HX.o (HH.o.trans hh));have f2:(!(x.op==7)==f)=false:=by rw [he];revert hh;cases decide (x.op=7)<;> cases f <;> simp
   obtain⟨M,hM⟩:∃M:Nat,zJ x=(M:Int):=⟨(zJ x).toNat,by have:=JJ.o;omega⟩
   rw [hM] at CP hpl;rw [hM,Int.toNat_natCast] at HE;have B2:=O (B1.o.trans ((za w1 (.cells #[.int .i64 x.op,.int .i64 x.n,.string x.s,.string x.t] 47)).mono B1.o.size));have V2:=O (Hp w1 x 47);clear hh he hM HH JJ HX;go_wp2_with fail;refine(CP.o _).mono ?_;rintro e w2 ⟨rfl,b2⟩;have B3:=bh B2 b2;have V3:=O (V2.o.keep b2);clear b2 B2 V2 e0 e1 e2 e3 HXE1 B1 CP;go_wp2_with fail;go_loopw [1,8,43] (λu l i wr=>∃(k p:Nat) (last:ByteArray),u = .int .i64 p/\l = .string last/\i = .int .i64 k/\k<=M/\q<p/\p<=n/\Hid (aO P q f=bD P (M-k) (ae x) last p)/\Hid (Below w.heap.size w wr)/\Hid (Vn wr w1.heap.size x)) (λ_ _ i _=>M-(intOf i).toNat)
   case atStart=>exact⟨0,q+1,⟨#[]⟩,by go_num,rfl,rfl,Nat.zero_le _,Nat.lt_succ_self _,hq,HE,B3,V3⟩
   case round =>
    clear B3 V3 HE;obtain⟨k,p,last,rfl,rfl,rfl,hk,hqp,GN,hF,hB,hV⟩:=hrel;obtain⟨v0,v1,v2,v3⟩:=hV.o;by_cases hlt:k<M
    ·have HF:=O (show aO P q f=bD P (M-(k+1)+1) (ae x) last p by rw [hF.o,show M-k=M-(k+1)+1 by omega]);clear hF;by_cases hpn2:p<n
     ·have El:p<P.length:=by rw [<-kX.o];exact hpn2
      have g3:decide (n<=p)=false:=decide_eq_false (by omega);by_cases h6:x.op=6
      ·have hr:ae x=true:=by unfold ae;exact decide_eq_true h6
       have g2:(x.op==6)=true:=beq_iff_eq.2 h6;obtain⟨a',ea,e0,e1,e2,e3⟩:=(GL.o.keep hB.o).at_ p _ (List.getElem?_eq_getElem El);injection ea with ea;subst ea;have HN:=O (HF.o.trans ((congrArg (λb=>bD P (M-(k+1)+1) b last p) hr).trans (fb (List.getElem?_eq_getElem El))));have LC:=O hr;have L6:=O (λw' hb=>IH.o p true w' hqp hb);generalize P[p]=y at *;clear HF hr h6;rcases sn y.s last with ⟨hc,l1,l2⟩|⟨hc,l1⟩|⟨hc,l1,l2⟩
       ·have Kj:=O (HN.o.trans (if_neg (λq=>q.2 hc)));clear hc HN;go_wp2_with fail;refine(L6.o _ hB.o).mono ?_;rintro e w6 ⟨rfl,b6⟩;have B6:=bh hB b6;have V6:=O (hV.o.keep b6);clear b6 hB hV v0 v1 v2 v3 e0 e1 e2 e3;by_cases hk0:0<=aO P p true
        ·obtain⟨e',he,hep,Kg⟩:=xe hk0;have qj:=O (show aO P q f=bD P (M-(k+1)) (ae x) y.s e' by
          have h1:=Kj.o
          rw [if_pos hk0,he,Int.toNat_natCast] at h1
          rw [h1,LC.o])
         have hen:e'<=n:=by rw [kX.o];exact Kg
         rw [he];clear hk0 he Kg;go_wp2_with fail;go_roundw
         case rel=>exact⟨k+1,e',y.s,rfl,rfl,by go_num,hlt,by omega,hen,qj,B6,V6⟩
         case measure=>simp [intOf];omega
        ·have GK:=O (show aO P q f = -1 by rw [Kj.o,if_neg hk0]);rw [uD hk0];clear hk0;go_wp2_with fail;go_ret;exact⟨by rw [GK.o];rfl,B6.o⟩
       ·have GK:=O (show aO P q f = -1 from HN.o.trans (if_pos ⟨rfl,hc⟩));clear hc HN;go_wp2_with fail;go_ret;exact⟨by rw [GK.o];rfl,hB.o⟩
       ·have GK:=O (show aO P q f = -1 from HN.o.trans (if_pos ⟨rfl,hc⟩));clear hc HN;go_wp2_with fail;go_ret;exact⟨by rw [GK.o];rfl,hB.o⟩
      ·have hr:ae x=false:=by unfold ae;exact decide_eq_false h6
       have LC:=O hr;have g2:(x.op==6)=false:=beq_eq_false_iff_ne.2 h6;have Kj:=O (HF.o.trans ((congrArg (λb=>bD P (M-(k+1)+1) b last p) hr).trans sP));have L6:=O (λw' hb=>IH.o p false w' hqp hb);clear hr HF h6;go_wp2_with fail;refine(L6.o _ hB.o).mono ?_;rintro e w6 ⟨rfl,b6⟩;have B6:=bh hB b6;have V6:=O (hV.o.keep b6);clear b6 hB hV v0 v1 v2 v3;by_cases hk0:0<=aO P p false
       ·obtain⟨e',he,hep,Kg⟩:=xe hk0;have qj:=O (show aO P q f=bD P (M-(k+1)) (ae x) last e' by
         have h1:=Kj.o
         rw [if_pos hk0,he,Int.toNat_natCast] at h1
         rw [h1,LC.o])
        have hen:e'<=n:=by rw [kX.o];exact Kg
        rw [he];clear hk0 he Kg;go_wp2_with fail;go_roundw
        case rel=>exact⟨k+1,e',last,rfl,rfl,by go_num,hlt,by omega,hen,qj,B6,V6⟩
        case measure=>simp [intOf];omega
       ·have GK:=O (show aO P q f = -1 by rw [Kj.o,if_neg hk0]);rw [uD hk0];clear hk0;go_wp2_with fail;go_ret;exact⟨by rw [GK.o];rfl,B6.o⟩
     ·have GK:=O (show aO P q f = -1 by rw [HF.o,gz (by rw [<-kX.o];omega)]);have g3:decide (n<=p)=true:=decide_eq_true (by omega);clear HF;go_wp2_with fail;go_ret;exact⟨by rw [GK.o];rfl,hB.o⟩
    ·have aE:=O (show aO P q f=(p:Int) by
      rw [hF.o,show M-k=0 by omega]
      exact vB (by rw [<-kX.o];exact GN))
     clear hF;go_wp2_with fail;go_ret;exact⟨by rw [aE.o];rfl,hB.o⟩
  ·have HE:=O (show aO P q f = -1 from uC HX.o (HH.o.trans (by simpa using hh)));have f2:(!(x.op==7)==f)=true:=by rw [he];revert hh;cases decide (x.op=7)<;> cases f <;> simp
   clear hh he;go_wp2_with fail;go_ret;exact⟨by rw [HE.o];rfl,B1.o⟩
 ·have GO:jE x=false:=by simpa using GO
  rw [GO] at CS;have HE:=O (show aO P q f = -1 from uC HX.o (Dh GO));clear GO;go_enter Tryz.func58,Tryz.ntmps58;go_wp2_with fail;refine CS.o.mono ?_;rintro e w1 ⟨rfl,b1⟩;have B1:=O b1;clear b1 CS Mb d0 d1 d2 d3;go_wp2_with fail;go_ret;exact⟨by rw [HE.o];rfl,B1.o⟩
theorem kY(P:List Nd)(A:Option Addr)(n c:Nat):∀m,TbC P A n c m
 | 0=>λp f w h hm=>C' P A n c p f w h (by omega)
 | m+1=>λp f w h hm=>by
  by_cases hp:p<n
  ·rcases A with _|a
   ·have:=h.at_ p _ (List.getElem?_eq_getElem (by rw [<-h.len];exact hp));obtain⟨a,e,-⟩:=this;cases e
   ·exact ED P m a n c p f w (kY P (some a) n c m) h hp hm
  ·exact C' P A n c p f w h (by omega)
theorem ik(A:Option Addr)(n c:Nat)(P:List Nd)(w:World)(h:Ns w A n c P):
 Calls Tryz.prog 31 #[.slice A n c] w λe w'=>e = .returned (zM (jg P))/\Below w.heap.size w w':=by
 have hl:=h.len;by_cases cR:200<n
 ·have HR:=O (show jg P=4 by unfold jg;rw [if_pos (by omega)]);have f0:decide ((200:Int)<(n:Int))=true:=decide_eq_true (by omega);clear h hl;go_enter Tryz.func31,Tryz.ntmps31;go_wp2_with fail;go_ret;exact⟨by rw [HR.o];rfl,Below.refl _ _⟩
 ·have C:=O (kY P A n c n 0 false w h (by omega));have f0:decide ((200:Int)<(n:Int))=false:=decide_eq_false (by omega);have HR:=O (show jg P=if(lB P).isSome then 0 else 1 by unfold jg;rw [if_neg (by omega)]);have HA:=O (BM (t:=P));rw [<-hl] at HA;clear h hl cR;generalize aO P 0 false=r at *;go_enter Tryz.func31,Tryz.ntmps31;go_wp2_with fail;refine C.o.mono ?_;rintro e w1 ⟨rfl,b1⟩;have B1:=O b1;clear b1 C;by_cases hr:r=(n:Int)
  ·have HE:=O (show jg P=0 by rw [HR.o,if_pos (HA.o.1 hr)]);have f1:(r !=(n:Int))=false:=by rw [bne_eq_false_iff_eq];exact hr
   clear hr;go_wp2_with fail;go_ret;exact⟨by rw [HE.o];rfl,B1.o⟩
  ·have HE:=O (show jg P=1 by rw [HR.o,if_neg (λq=>hr (HA.o.2 q))]);have f1:(r !=(n:Int))=true:=by rw [bne_iff_ne];exact hr
   clear hr;go_wp2_with fail;go_ret;exact⟨by rw [HE.o];rfl,B1.o⟩
theorem Bp(o0 o1 o2:Int)(t0 a0 b0 t1 a1 b1 t2 a2 b2:ByteArray)(w:World):(Instr.index 105 (.agg #[.int .i64 o0,.string t0,.string a0,.string b0,.int .i64 o1,.string t1,.string a1,.string b1,.int .i64 o2,.string t2,.string a2,.string b2]) (.int .i64 0)).run Tryz.prog w = .ok (.agg #[.int .i64 o0,.string t0,.string a0,.string b0]) w:=by kernel_rfl
theorem DO(o0 o1 o2:Int)(t0 a0 b0 t1 a1 b1 t2 a2 b2:ByteArray)(w:World):(Instr.index 105 (.agg #[.int .i64 o0,.string t0,.string a0,.string b0,.int .i64 o1,.string t1,.string a1,.string b1,.int .i64 o2,.string t2,.string a2,.string b2]) (.int .i64 1)).run Tryz.prog w = .ok (.agg #[.int .i64 o1,.string t1,.string a1,.string b1]) w:=by kernel_rfl
theorem Bw(o0 o1 o2:Int)(t0 a0 b0 t1 a1 b1 t2 a2 b2:ByteArray)(w:World):(Instr.index 105 (.agg #[.int .i64 o0,.string t0,.string a0,.string b0,.int .i64 o1,.string t1,.string a1,.string b1,.int .i64 o2,.string t2,.string a2,.string b2]) (.int .i64 2)).run Tryz.prog w = .ok (.agg #[.int .i64 o2,.string t2,.string a2,.string b2]) w:=by kernel_rfl
def Dm(r1 r2 r3 R:Int)(k:Nat):Int:=if k=0 then or2 r1 (or2 r2 (or2 r3 R)) else if k=1 then or2 r2 (or2 r3 R) else if k=2 then or2 r3 R else R
theorem cI(p:Pol)(w:World)(h:ag w p):Calls Tryz.prog 19 #[p.v] w λe w'=>e = .returned (zM (polF p))/\Below w.heap.size w w':=by
 have V0:=O (rx w p 29);have B0:=O (bT w p 29);have CN:=O (λw'=>aj p.name w' h.name);have C1:=O (λw'=>kU p.who true w' h.who);have C2:=O (λw'=>kU p.act false w' h.act);have C3:=O (λw'=>kU p.what true w' h.what);unfold Scp.v at C1 C2 C3;have HCS:=O (λw' (hb:Below w.heap.size w w')=>h.cs.keep hb);have Hd:=O (show p.cn=p.C.length from h.cs.len);have hmx:=h.cs.max;unfold maxLen at hmx;have HR:=O (show polF p=or2 (zk p.name) (Dm (zV p.who true) (zV p.act false) (zV p.what true) (if 4<p.C.length then 4 else am p.C) 0) from rfl);have HIX0:=O (Bp p.who.op p.act.op p.what.op p.who.t p.who.u.1 p.who.u.2 p.act.t p.act.u.1 p.act.u.2 p.what.t p.what.u.1 p.what.u.2);have HIX1:=O (DO p.who.op p.act.op p.what.op p.who.t p.who.u.1 p.who.u.2 p.act.t p.act.u.1 p.act.u.2 p.what.t p.what.u.1 p.what.u.2);have HIX2:=O (Bw p.who.op p.act.op p.what.op p.who.t p.who.u.1 p.who.u.2 p.act.t p.act.u.1 p.act.u.2 p.what.t p.what.u.1 p.what.u.2);unfold Pol.v;generalize polF p=F at *;generalize zV p.who true=r1 at *;generalize zV p.act false=r2 at *;generalize zV p.what true=r3 at *;have gR:=O (rfl:(if 4<p.C.length then 4 else am p.C)=(if 4<p.C.length then 4 else am p.C));generalize hR4:(if 4<p.C.length then(4:Int) else am p.C)=R4 at HR gR;have HR4:=O hR4;clear h hR4 gR;obtain⟨c0,c1,c2,c3,c4,c5,c6,c7,c8,c9,c10,c11,c12,c13,c14⟩:=V0.o.and;go_enter Tryz.func19,Tryz.ntmps19;go_wp2_with fail;refine(CN.o _).mono ?_;rintro e w1 ⟨rfl,b1⟩;have B1:=bh B0 b1;have V1:=O (V0.o.keep b1);clear b1 B0 V0 c0 c1 c2 c3 c4 c5 c6 c7 c8 c9 c10 c11 c12 c13 c14 CN;by_cases gn:zk p.name=0
 case neg =>
  have HE:=O (show F=zk p.name by rw [HR.o,zG gn]);have j7:=O (zl gn);rw [j7.o];generalize zk p.name=r at *;clear gn;go_wp2_with fail;go_ret;exact⟨by rw [HE.o,j7.o];rfl,B1.o⟩
 rw [gn,zn] at HR;rw [gn,zf];clear gn;obtain⟨c0,c1,c2,c3,c4,c5,c6,c7,c8,c9,c10,c11,c12,c13,c14⟩:=V1.o.and;go_wp2_with fail;clear c0 c1 c2 c3 c4 c5 c6 c7 c8 c9 c10 c11 c12 c13 c14;go_loopw [25] (λi wr=>∃k:Nat,i = .int .i64 k/\k<=3/\Hid (F=Dm r1 r2 r3 R4 k)/\Hid (Below w.heap.size w wr)/\Hid (Vp wr w.heap.size p)) (λi _=>3-(intOf i).toNat)
 case atStart=>exact⟨0,rfl,by omega,HR,B1,V1⟩
 case round =>
  obtain⟨k,rfl,hk,hF,hB,hV⟩:=hrel;clear HR B1 V1;have Eg:k=0\/k=1\/k=2\/k=3:=by omega
  rcases Eg with rfl|rfl|rfl|rfl
  ·have J2:=HIX0.o;have HF:=O (show F=or2 r1 (or2 r2 (or2 r3 R4)) from hF.o);have BB:=O (za wr (.cells #[.int .i64 p.who.op,.string p.who.t,.string p.who.u.1,.string p.who.u.2] 26));clear hF;go_wp2_with fail;refine(C1.o _).mono ?_;rintro e w2 ⟨rfl,b2⟩;have BW:=O (BB.o.trans (b2.mono BB.o.size));have B2:=O (hB.o.trans (BW.o.mono hB.o.size));have V2:=O (hV.o.keep BW.o);clear b2 BB BW hB hV;by_cases g:r1=0
   ·have qj:=O (show F=Dm r1 r2 r3 R4 1 by rw [HF.o,g,zn];rfl);rw [g,zf];clear HF g;go_wp2_with fail;go_roundw
    case rel=>exact⟨1,by go_num,by omega,qj,B2,V2⟩
    case measure=>simp [intOf]
   ·have j7:=O (zl g);have HE:=O (show F=r1 by rw [HF.o,zG g]);rw [j7.o];clear g;go_wp2_with fail;go_ret;exact⟨by rw [HE.o,j7.o];rfl,B2.o⟩
  ·have J2:=HIX1.o;have HF:=O (show F=or2 r2 (or2 r3 R4) from hF.o);have BB:=O (za wr (.cells #[.int .i64 p.act.op,.string p.act.t,.string p.act.u.1,.string p.act.u.2] 26));clear hF;go_wp2_with fail;refine(C2.o _).mono ?_;rintro e w2 ⟨rfl,b2⟩;have BW:=O (BB.o.trans (b2.mono BB.o.size));have B2:=O (hB.o.trans (BW.o.mono hB.o.size));have V2:=O (hV.o.keep BW.o);clear b2 BB BW hB hV;by_cases g:r2=0
   ·have qj:=O (show F=Dm r1 r2 r3 R4 2 by rw [HF.o,g,zn];rfl);rw [g,zf];clear HF g;go_wp2_with fail;go_roundw
    case rel=>exact⟨2,by go_num,by omega,qj,B2,V2⟩
    case measure=>simp [intOf]
   ·have j7:=O (zl g);have HE:=O (show F=r2 by rw [HF.o,zG g]);rw [j7.o];clear g;go_wp2_with fail;go_ret;exact⟨by rw [HE.o,j7.o];rfl,B2.o⟩
  ·have J2:=HIX2.o;have HF:=O (show F=or2 r3 R4 from hF.o);have BB:=O (za wr (.cells #[.int .i64 p.what.op,.string p.what.t,.string p.what.u.1,.string p.what.u.2] 26));clear hF;go_wp2_with fail;refine(C3.o _).mono ?_;rintro e w2 ⟨rfl,b2⟩;have BW:=O (BB.o.trans (b2.mono BB.o.size));have B2:=O (hB.o.trans (BW.o.mono hB.o.size));have V2:=O (hV.o.keep BW.o);clear b2 BB BW hB hV;by_cases g:r3=0
   ·have qj:=O (show F=Dm r1 r2 r3 R4 3 by rw [HF.o,g,zn];rfl);rw [g,zf];clear HF g;go_wp2_with fail;go_roundw
    case rel=>exact⟨3,by go_num,by omega,qj,B2,V2⟩
    case measure=>simp [intOf]
   ·have j7:=O (zl g);have HE:=O (show F=r3 by rw [HF.o,zG g]);rw [j7.o];clear g;go_wp2_with fail;go_ret;exact⟨by rw [HE.o,j7.o];rfl,B2.o⟩
  ·have HF:=O (show F=if 4<p.C.length then 4 else am p.C from hF.o.trans HR4.o.symm);rw [show((3:Nat):Int)=3 from rfl];clear hF HR4 HIX0 HIX1 HIX2 C1 C2 C3;obtain⟨-,-,-,-,-,-,-,-,-,-,-,-,-,-,c14⟩:=hV.o.and;by_cases g4:4<p.cn
   ·have HE:=O (show F=4 by rw [HF.o,if_pos (by rw [<-Hd.o];exact g4)]);have f1:decide ((p.cn:Int)> 4)=true:=decide_eq_true (by omega);go_wp2_with fail;go_ret;exact⟨by rw [HE.o];rfl,hB.o⟩
   have f1:decide ((p.cn:Int)> 4)=false:=decide_eq_false (by omega);rw [if_neg (by rw [<-Hd.o];exact g4)] at HF;have B3:=hB;go_wp2_with fail;clear c14 hV hB f1;go_loopw [45,58] (λi _ wr=>∃k:Nat,i = .int .i64 k/\k<=p.cn/\Hid (F=am (p.C.drop k))/\Hid (Below w.heap.size w wr)) (λi _ _=>p.cn-(intOf i).toNat)
   case atStart=>exact⟨0,rfl,Nat.zero_le _,O (by rw [HF.o];rfl),B3⟩
   case round =>
    obtain⟨k,rfl,hk,hF,hB⟩:=hrel;clear HF B3;by_cases hlt:k<p.cn
    ·have h1:k<p.C.length:=by rw [<-Hd.o];exact hlt
     have HF:=O (hF.o.trans (uv h1));obtain⟨a,ea,q0,q1,hs⟩:=(HCS.o _ hB.o).at_ k _ (List.getElem?_eq_getElem h1);generalize p.C[k]=x at *;have BB:=O (za wr (.cells #[.bool x.un,.slice x.A x.n x.c] 57));have X0:=O (dN wr (.bool x.un) (.slice x.A x.n x.c) 57);have HS:=O hs;rw [ea];clear hF hs ea;go_wp2_with fail;refine(ik x.A x.n x.c x.P _ (HS.o.keep BB.o)).mono ?_;rintro e w4 ⟨rfl,b4⟩;have BW:=O (BB.o.trans (b4.mono BB.o.size));have B4:=O (hB.o.trans (BW.o.mono hB.o.size));have S4:=O (HS.o.keep BW.o);have X4:=O (X0.o.keep b4);clear b4 BB BW hB HS X0 q0 q1;by_cases g:jg x.P=0
     case neg =>
      have j7:=O (zl g);have HE:=O (show F=jg x.P by rw [HF.o,xT g,zG g]);rw [j7.o];generalize jg x.P=r at *;clear g;go_wp2_with fail;go_ret;exact⟨by rw [HE.o,j7.o];rfl,B4.o⟩
     rw [Dl g] at HF;have Eh:=O (yW g);rw [g,zf];have HNX:=O (show x.n=x.P.length from S4.o.len);have lZ:=S4.o.max;unfold maxLen at lZ;clear g;obtain⟨x0,x1,-,-⟩:=X4.o;go_wp2_with fail;have B5:=B4;have S5:=O (λw' (hb:Below w4.heap.size w4 w')=>S4.o.keep hb);have R5:=O (Below.refl w4.heap.size w4);clear x0 x1 X4 B4 S4;go_loopw [58] (λi wr=>∃j:Nat,i = .int .i64 j/\j<=x.n/\Hid (jI (x.P.take j)=true)/\Hid (Below w4.heap.size w4 wr)) (λi _=>x.n-(intOf i).toNat)
     case atStart=>exact⟨0,rfl,Nat.zero_le _,O rfl,R5⟩
     case round =>
      obtain⟨j,rfl,hj,hT,hB⟩:=hrel;have B6:=bh B5 hB.o;clear R5;by_cases LK:j<x.n
      ·have h2:j<x.P.length:=by rw [<-HNX.o];exact LK
       obtain⟨a2,ea2,D⟩:=(S5.o _ hB.o).at_.nd h2;obtain⟨d0,d1,d2,d3⟩:=D;have HT:=O (oJ h2);have HFF:=O (λq1 q2=>nQ (P:=x.P) h2 q1 q2);have wL:=O (λq=>Eh.o _ (List.getElem_mem h2) q);rw [hT.o] at HT;generalize x.P[j]=y at *;rw [ea2];have BB:=O (za wr (.cells #[.int .i64 y.op,.int .i64 y.n,.string y.s,.string y.t] 47));have BX:=bh hB BB.o;have BY:=bh B6 BB.o;clear ea2 hT;by_cases g8:y.op=8
       ·have hys:0<y.s.size:=wL.o g8;have HSH:=O (yH hys);rw [g8] at d0 BX BY BB;by_cases g63:(y.s[0].toNat:Int)=63
        ·have f1:((y.s[0].toNat:Int)==63)=true:=by rw [beq_iff_eq];exact g63
         have HE:=O (show F=1 by
          rw [HF.o,HFF.o g8 (of_decide_eq_true (HSH.o.trans (decide_eq_true g63)))]
          rfl)
         clear g63 g8;go_wp2_with fail;go_ret;exact⟨by rw [HE.o];rfl,BY.o⟩
        ·have f1:((y.s[0].toNat:Int)==63)=false:=beq_eq_false_iff_ne.2 g63;have I3:=O (show jI (x.P.take (j+1))=true by
          rw [HT.o,HSH.o,decide_eq_false g63,Bool.and_false];rfl)
         clear g63 g8;go_wp2_with fail;go_roundw
         case rel=>exact⟨j+1,by go_num,LK,I3,BX⟩
         case measure=>simp [intOf];omega
       ·have f1:(y.op==8)=false:=beq_eq_false_iff_ne.2 g8;have I3:=O (show jI (x.P.take (j+1))=true by
         rw [HT.o,decide_eq_false g8];rfl)
        clear g8;go_wp2_with fail;go_roundw
        case rel=>exact⟨j+1,by go_num,LK,I3,BX⟩
        case measure=>simp [intOf];omega
      ·have qj:=O (show F=am (p.C.drop (k+1)) by
        have h3:=hT.o
        rw [List.take_of_length_le (by rw [<-HNX.o];omega)] at h3
        rw [HF.o,h3]
        rfl)
       clear hT HF;go_wp2_with fail;go_roundw
       case rel=>exact⟨k+1,by go_num,hlt,qj,B6⟩
       case measure=>simp [intOf];omega
    ·have HE:=O (show F=0 by rw [hF.o,List.drop_eq_nil_of_le (by rw [<-Hd.o];omega)];rfl);clear hF;go_wp2_with fail;go_ret;exact⟨by rw [HE.o];rfl,hB.o⟩
theorem Hw{L:List (List Nd)}(h:∀P∈L,jZ P):jZ L.flatten:=λx hx=>let ⟨P,hP,hx⟩:=List.mem_flatten.1 hx;h P hP x hx
theorem Hk(w:World)(x:Nd):(w.alloc (.cells #[.int .i64 x.op,.int .i64 x.n,.string x.s,.string x.t] 47)).ownsRow w.heap.size 47 4 (.slice (some ⟨w.heap.size,0,none⟩) 1 1) 1 (zH [x]):=
 ⟨rfl,.inr ⟨_,1,_,rfl,Nat.le_refl _,heap_alloc_new w _,Nat.le_refl _,by unfold maxLen;omega,rfl,rfl⟩⟩
theorem Hl{w:World}{A:Option Addr}{V:List Sl}(h:jD w A V):∀P∈V.map Sl.P,jZ P:=by
 intro P hP;obtain⟨r,hr,rfl⟩:=List.mem_map.1 hP;obtain⟨k,hk,rfl⟩:=List.getElem_of_mem hr;obtain⟨-,-,-,q⟩:=h.at hk;exact q.ok
theorem Bt(w:World)(r:Sl)(hr:Ns w r.A r.n r.c r.P)(t:TypeId):jD (w.alloc (.cells #[.slice r.A r.n r.c] t)) (some ⟨w.heap.size,0,none⟩) [r]:=λk x hx=>by
 match k,hx with
 | 0,hx=>simp at hx;subst hx;exact⟨_,rfl,zr (heap_alloc_last w _) rfl,hr.keep (za w _)⟩
 | k+1,hx=>simp at hx
theorem h9(w:World)(r s:Sl)(hr:Ns w r.A r.n r.c r.P)(hs:Ns w s.A s.n s.c s.P)(t:TypeId):jD (w.alloc (.cells #[.slice r.A r.n r.c,.slice s.A s.n s.c] t)) (some ⟨w.heap.size,0,none⟩) [r,s]:=λk x hx=>by
 match k,hx with
 | 0,hx=>simp at hx;subst hx;exact⟨_,rfl,zr (heap_alloc_last w _) rfl,hr.keep (za w _)⟩
 | 1,hx=>simp at hx;subst hx;exact⟨_,rfl,zr (heap_alloc_last w _) rfl,hs.keep (za w _)⟩
 | k+2,hx=>simp at hx
def fJ(x:Nd)(V:List Sl)(k:Nat):List Nd:=x ::((V.take k).map Sl.P).flatten
theorem vZ{x:Nd}{V:List Sl}{k:Nat}(h:k<V.length):fJ x V (k+1)=fJ x V k ++ V[k].P:=by
 unfold fJ;rw [List.take_succ_eq_append_getElem h,List.map_append,List.flatten_append];simp only [List.map_cons,List.map_nil,List.flatten_cons,List.flatten_nil,List.append_nil,List.cons_append]
theorem yA{x:Nd}{V:List Sl}{k:Nat}(h:V.length<=k):fJ x V k=x ::(V.map Sl.P).flatten:=by
 unfold fJ;rw [List.take_of_length_le h]
theorem yS{x:Nd}{V:List Sl}(k:Nat):(fJ x V k).length<=(V.map Sl.P).flatten.length+1:=by
 unfold fJ;simp only [List.length_cons,List.length_flatten,List.map_map];have:((V.take k).map (List.length ∘ Sl.P)).sum<=(V.map (List.length ∘ Sl.P)).sum:=by
  conv=>rhs;rw [<-List.take_append_drop k V]
  rw [List.map_append,List.sum_append];omega
 omega
def Fq(w:World)(L:List Nd)(e:Ending)(w':World):Prop:=∃A m c,e = .returned (.slice A m c)/\Ns w' A m c L/\Below w.heap.size w w'
theorem Dq(x:Nd)(hx:fC x)(A:Option Addr)(n c:Nat)(V:List Sl)(w:World)(hn:n=V.length)(hm:n<=10)(hV:jD w A V)(h0:∀r∈V,0<r.P.length)(hl:(V.map Sl.P).flatten.length<=1000):
 Calls Tryz.prog 29 #[ndV x,.slice A n c] w (xx w (x ::(V.map Sl.P).flatten)):=by
 obtain⟨i0,hi,hz0,hz1,hz2⟩:=info_parts kC;have Jf:=O hx;have B0:=O (za w (.cells #[.int .i64 x.op,.int .i64 x.n,.string x.s,.string x.t] 47));have HV:=O hV;have HN:=O hn;have H0:=O h0;have HL:=O hl;have R0:=O (Hk (w.alloc (.cells #[.int .i64 x.op,.int .i64 x.n,.string x.s,.string x.t] 47)) x);have BR:=O (B0.o.trans ((za (w.alloc (.cells #[.int .i64 x.op,.int .i64 x.n,.string x.s,.string x.t] 47)) (.cells #[.int .i64 x.op,.int .i64 x.n,.string x.s,.string x.t] 47)).mono B0.o.size));rw [show(w.alloc (.cells #[.int .i64 x.op,.int .i64 x.n,.string x.s,.string x.t] 47)).heap.size=w.heap.size+1 from by simp [go_sem]] at R0;have JH:=O (λk=>Nat.le_trans (yS (x:=x) (V:=V) k) (Nat.succ_le_succ hl));clear hV hn h0 hl hx;unfold ndV;go_enter Tryz.func29,Tryz.ntmps29;go_wp2_with fail;have Ed:n<=10:=hm;go_loopw [5,12] (λv i wr=>∃k:Nat,k<=n/\i = .int .i64 k/\Hid (wr.ownsRow (w.heap.size+1) 47 4 v (fJ x V k).length (zH (fJ x V k)))/\Hid (Below w.heap.size w wr)/\Hid (w.heap.size+1<=wr.heap.size)) (λ_ i _=>n-(intOf i).toNat)
 case atStart=>exact⟨0,Nat.zero_le _,rfl,R0,BR,O (by simp [go_sem])⟩
 case round =>
  obtain⟨k,hk,rfl,hR,hB,hS⟩:=hrel;have hsz:=hB.o.size;by_cases hlt:k<n
  ·have h1:k<V.length:=by rw [<-HN.o];exact hlt
   have HO:=O (vZ (x:=x) h1);obtain⟨a,rfl,q,hs⟩:=(HV.o.keep hB.o).at h1;have hv:=H0.o _ (List.getElem_mem h1);generalize V[k]=r at *;obtain⟨a2,ea,-⟩:=hs.at_.nd hv;rw [ea] at q;have HC:=O (show∀j u,(zH r.P)[j]?=some u->wr.cell? (a2.add j)=some u from by
    have:=hs.at_
    rw [ea] at this
    exact this.cells)
   have GR:=O hs.len;have hol:=JH.o (k+1);rw [HO.o,List.length_append,<-GR.o] at hol;clear hs hv ea;go_wp2_with (at_builtin;refine wpList_append_own _ rfl _ _ 30 rfl (w.heap.size+1) 47 i0 _ 4 48 Tryz.underlying30 hi hz0 hz1 hz2 rfl (by decide) _ (fJ x V k).length (zH (fJ x V k)) rfl hR.o a2 r.n r.c (zH r.P) rfl (by rw [az,GR.o]) HC.o (bR _) ?c1 ?c2 ?c3 ?_)
   case c1=>unfold maxLen;omega
   case c2=>omega
   case c3=>exact hS.o
   intro v1 w5 hown hgrow _;have B5:=O (hB.o.grown hgrow hsz (λg hg=>Nat.le_trans (Nat.le_succ _) (jb hR.o g hg)));have S5:=O (Nat.le_trans hS.o hgrow.size);rw [GR.o,<-bi,<-List.length_append,<-HO.o] at hown;have OW:=O hown;clear hown hgrow hB hR HO HC q hS;go_wp2_with fail;go_roundw
   case rel=>exact⟨k+1,by omega,by go_num,OW,B5,S5⟩
   case measure=>simp [intOf];omega
  ·have HX:=O (yA (x:=x) (V:=V) (k:=k) (by rw [<-HN.o];omega));have Ls:=hR.o;rw [HX.o] at Ls;obtain⟨A5,c5,rfl,Jl,JI,Ki⟩:=a6 Ls;have NN:=O (show Ns wr A5 (x ::(V.map Sl.P).flatten).length c5 (x ::(V.map Sl.P).flatten) from⟨rfl,Jl,by have:=HL.o;simp only [List.length_cons];unfold maxLen;omega,JI,λy hy=>by
    rcases List.mem_cons.1 hy with rfl|hy
    ·exact Jf.o
    ·exact Hw (Hl HV.o) y hy⟩)
   have Je:=O (λa e=>Nat.le_trans (Nat.le_succ _) (Ki a e));clear hR Ls Jl JI Ki;go_wp2_with fail;go_ret;exact⟨A5,c5,rfl,NN.o,Je.o,hB.o⟩
theorem wV(x:Nd)(hx:fC x)(r:Sl)(A:Option Addr)(w:World)(h:jD w A [r])(h0:0<r.P.length)(hl:r.P.length<=1000):
 Calls Tryz.prog 29 #[ndV x,.slice A 1 1] w (Fq w (x :: r.P)):=by
 refine(Dq x hx A 1 1 [r] w rfl (by omega) h (by intro x hx;simp only [List.mem_cons,List.not_mem_nil,or_false] at hx;subst hx;exact h0) (by simpa using hl)).mono ?_;rintro e w' ⟨A,c,rfl,hN,-,hb⟩;rw [show([r].map Sl.P).flatten=r.P by simp] at hN;rw [show([r].map Sl.P).flatten=r.P by simp];exact⟨A,_,c,rfl,hN,hb⟩
theorem eI(x:Nd)(hx:fC x)(r s:Sl)(A:Option Addr)(w:World)(h:jD w A [r,s])(h0:0<r.P.length)(k0:0<s.P.length)(hl:r.P.length+s.P.length<=1000):
 Calls Tryz.prog 29 #[ndV x,.slice A 2 2] w (Fq w (x ::(r.P ++ s.P))):=by
 refine(Dq x hx A 2 2 [r,s] w rfl (by omega) h (by intro x hx;simp only [List.mem_cons,List.not_mem_nil,or_false] at hx;rcases hx with rfl|rfl <;> assumption) (by simpa using hl)).mono ?_;rintro e w' ⟨A,c,rfl,hN,-,hb⟩;rw [show([r,s].map Sl.P).flatten=r.P ++ s.P by simp] at hN;rw [show([r,s].map Sl.P).flatten=r.P ++ s.P by simp];exact⟨A,_,c,rfl,hN,hb⟩
end Go.Proofs.YthidiimbeaabhaaGreatDoor
