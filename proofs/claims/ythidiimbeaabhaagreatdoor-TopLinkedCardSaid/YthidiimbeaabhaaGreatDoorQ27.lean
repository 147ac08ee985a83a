/-
  A request in a variable. eval.Ask. tree.Skip: the place behind a part of an ..
-/
import Derived.Test.YthidiimbeaabhaaGreatDoorQ22
set_option maxRecDepth 100000
set_option maxHeartbeats 4000000
namespace Go.Proofs.YthidiimbeaabhaaGreatDoor
open Go.RowKit Go.Wk Go.Sort
structure Vq(w:World)(b:Nat)(q:Rq):Prop where
 c0:w.cell? ⟨b,0,none⟩=some (.string q.who.1)
 c1:w.cell? ⟨b,1,none⟩=some (.string q.who.2)
 c2:w.cell? ⟨b,2,none⟩=some (.string q.act.1)
 c3:w.cell? ⟨b,3,none⟩=some (.string q.act.2)
 c4:w.cell? ⟨b,4,none⟩=some (.string q.what.1)
 c5:w.cell? ⟨b,5,none⟩=some (.string q.what.2)
 c6:w.cell? ⟨b,6,none⟩=some (.slice q.NA q.nn q.nc)
theorem Vq.keep{w w':World}{b:Nat}{x:Rq}(h:Vq w b x)(hb:Below w.heap.size w w'):Vq w' b x:=⟨zb hb h.c0,zb hb h.c1,zb hb h.c2,zb hb h.c3,zb hb h.c4,zb hb h.c5,zb hb h.c6⟩
theorem CE(w:World)(q:Rq)(t:TypeId):Vq (w.alloc (.cells #[.string q.who.1,.string q.who.2,.string q.act.1,.string q.act.2,.string q.what.1,.string q.what.2,.slice q.NA q.nn q.nc] t)) w.heap.size q :=
 ⟨zr (heap_alloc_last w _) rfl,zr (heap_alloc_last w _) rfl,zr (heap_alloc_last w _) rfl,zr (heap_alloc_last w _) rfl,zr (heap_alloc_last w _) rfl,zr (heap_alloc_last w _) rfl,zr (heap_alloc_last w _) rfl⟩
theorem wl{w:World}{A:Option Addr}{n c:Nat}{P:List Nd}(h:Ns w A n c P)(hp:0<P.length):∃a,A=some a/\1<=n/\w.cell? a=some (.int .i64 (zg P))/\w.cell? ⟨a.block,a.off+2,none⟩=some (.string P[0].s):=by
 obtain⟨a,ha,D⟩:=h.at_.nd hp;rw [show a.add (0*4)=a from rfl] at D;refine⟨a,ha,by rw [h.len];exact hp,?_,D.c2⟩;rw [jx hp];exact D.c0
theorem D6(s1 t1 s2 t2 s3 t3:ByteArray)(w:World):(Instr.index 126 (.agg #[.string s1,.string t1,.string s2,.string t2,.string s3,.string t3]) (.int .i64 0)).run Tryz.prog w = .ok (.agg #[.string s1,.string t1]) w:=by kernel_rfl
theorem Bv(s1 t1 s2 t2 s3 t3:ByteArray)(w:World):(Instr.index 126 (.agg #[.string s1,.string t1,.string s2,.string t2,.string s3,.string t3]) (.int .i64 1)).run Tryz.prog w = .ok (.agg #[.string s2,.string t2]) w:=by kernel_rfl
theorem Cp(s1 t1 s2 t2 s3 t3:ByteArray)(w:World):(Instr.index 126 (.agg #[.string s1,.string t1,.string s2,.string t2,.string s3,.string t3]) (.int .i64 2)).run Tryz.prog w = .ok (.agg #[.string s3,.string t3]) w:=by kernel_rfl
def DF(r1 r2 r3 R:Int)(k:Nat):Int:=if k=0 then or2 r1 (or2 r2 (or2 r3 R)) else if k=1 then or2 r2 (or2 r3 R) else if k=2 then or2 r3 R else R
theorem bF(q:Rq)(w:World)(h:dT w q):
 Calls Tryz.prog 26 #[q.v] w λe w'=>e = .returned (zM (cz q.who q.act q.what q.P))/\Below w.heap.size w w':=by
 obtain⟨⟨s1,t1⟩,⟨s2,t2⟩,⟨s3,t3⟩,NA,nn,nc,P⟩:=q;have V0:=O (CE w ⟨(s1,t1),(s2,t2),(s3,t3),NA,nn,nc,P⟩ 32);have B0:=O (za w (.cells #[.string s1,.string t1,.string s2,.string t2,.string s3,.string t3,.slice NA nn nc] 32));have C1:=O (λw=>jP s1 t1 w h.w1 h.w2);have C2:=O (λw=>jP s2 t2 w h.a1 h.a2);have C3:=O (λw=>jP s3 t3 w h.t1 h.t2);have HN:=O h.ns;have KV:=O (λw' hb=>zI (h.ns.keep (w':=w') hb));dsimp only at HN KV;have HR:=O (show cz (s1,t1) (s2,t2) (s3,t3) P=DF (zq (s1,t1)) (zq (s2,t2)) (zq (s3,t3)) (or2 (zc P) (if zg P=6 then 0 else 2)) 0 from rfl);unfold Rq.v;dsimp only;generalize cz (s1,t1) (s2,t2) (s3,t3) P=F at *;generalize zq (s1,t1)=r1 at *;generalize zq (s2,t2)=r2 at *;generalize zq (s3,t3)=r3 at *;generalize pr (s1,t1)=u1 at *;generalize pr (s2,t2)=u2 at *;generalize pr (s3,t3)=u3 at *;have lZ:=h.ns.max;have hnc:=h.ns.cap;unfold maxLen at lZ;dsimp only at lZ hnc;clear h;go_enter Tryz.func26,Tryz.ntmps26;go_wp2_with fail;go_loopw [15] (λi wr=>∃k:Nat,i = .int .i64 k/\k<=3/\Hid (F=DF r1 r2 r3 (or2 (zc P) (if zg P=6 then 0 else 2)) k)/\Hid (Below w.heap.size w wr)/\Hid (Vq wr w.heap.size ⟨(s1,t1),(s2,t2),(s3,t3),NA,nn,nc,P⟩)) (λi _=>3-(intOf i).toNat)
 case atStart=>exact⟨0,rfl,by omega,HR,B0,V0⟩
 case round =>
  obtain⟨k,rfl,hk,hF,hB,hV⟩:=hrel;clear HR B0 V0;have Eg:k=0\/k=1\/k=2\/k=3:=by omega
  rcases Eg with rfl|rfl|rfl|rfl
  ·have J2:=D6 s1 t1 s2 t2 s3 t3;have HF:=O (show F=or2 r1 (or2 r2 (or2 r3 (or2 (zc P) (if zg P=6 then 0 else 2)))) from hF.o);have BB:=O (za wr (.cells #[.string s1,.string t1] 24));clear hF;go_wp2_with fail;refine(C1.o _).mono ?_;rintro e w1 ⟨rfl,b1⟩;have BW:=O (BB.o.trans (b1.mono BB.o.size));have B1:=O (hB.o.trans (BW.o.mono hB.o.size));have V1:=O (hV.o.keep BW.o);clear b1 BB BW hB hV;by_cases g:r1=0
   ·have qj:=O (show F=DF r1 r2 r3 (or2 (zc P) (if zg P=6 then 0 else 2)) 1 by rw [HF.o,g,zn];rfl);rw [g,zf];clear HF g;go_wp2_with fail;go_roundw
    case rel=>exact⟨1,by go_num,by omega,qj,B1,V1⟩
    case measure=>simp [intOf]
   ·have j7:=O (zl g);have HE:=O (show F=r1 by rw [HF.o,zG g]);rw [j7.o];clear g;go_wp2_with fail;go_ret;exact⟨by rw [HE.o,j7.o];rfl,B1.o⟩
  ·have J2:=Bv s1 t1 s2 t2 s3 t3;have HF:=O (show F=or2 r2 (or2 r3 (or2 (zc P) (if zg P=6 then 0 else 2))) from hF.o);have BB:=O (za wr (.cells #[.string s2,.string t2] 24));clear hF;go_wp2_with fail;refine(C2.o _).mono ?_;rintro e w1 ⟨rfl,b1⟩;have BW:=O (BB.o.trans (b1.mono BB.o.size));have B1:=O (hB.o.trans (BW.o.mono hB.o.size));have V1:=O (hV.o.keep BW.o);clear b1 BB BW hB hV;by_cases g:r2=0
   ·have qj:=O (show F=DF r1 r2 r3 (or2 (zc P) (if zg P=6 then 0 else 2)) 2 by rw [HF.o,g,zn];rfl);rw [g,zf];clear HF g;go_wp2_with fail;go_roundw
    case rel=>exact⟨2,by go_num,by omega,qj,B1,V1⟩
    case measure=>simp [intOf]
   ·have j7:=O (zl g);have HE:=O (show F=r2 by rw [HF.o,zG g]);rw [j7.o];clear g;go_wp2_with fail;go_ret;exact⟨by rw [HE.o,j7.o];rfl,B1.o⟩
  ·have J2:=Cp s1 t1 s2 t2 s3 t3;have HF:=O (show F=or2 r3 (or2 (zc P) (if zg P=6 then 0 else 2)) from hF.o);have BB:=O (za wr (.cells #[.string s3,.string t3] 24));clear hF;go_wp2_with fail;refine(C3.o _).mono ?_;rintro e w1 ⟨rfl,b1⟩;have BW:=O (BB.o.trans (b1.mono BB.o.size));have B1:=O (hB.o.trans (BW.o.mono hB.o.size));have V1:=O (hV.o.keep BW.o);clear b1 BB BW hB hV;by_cases g:r3=0
   ·have qj:=O (show F=DF r1 r2 r3 (or2 (zc P) (if zg P=6 then 0 else 2)) 3 by rw [HF.o,g,zn];rfl);rw [g,zf];clear HF g;go_wp2_with fail;go_roundw
    case rel=>exact⟨3,by go_num,by omega,qj,B1,V1⟩
    case measure=>simp [intOf]
   ·have j7:=O (zl g);have HE:=O (show F=r3 by rw [HF.o,zG g]);rw [j7.o];clear g;go_wp2_with fail;go_ret;exact⟨by rw [HE.o,j7.o];rfl,B1.o⟩
  ·have HF:=O (show F=or2 (zc P) (if zg P=6 then 0 else 2) from hF.o);obtain⟨c0,c1,c2,c3,c4,c5,c6⟩:=hV.o;dsimp only at c0 c1 c2 c3 c4 c5 c6;clear hF;go_wp2_with fail;refine(KV.o _ hB.o).mono ?_;rintro e w4 ⟨rfl,b4⟩;have B4:=O (hB.o.trans (b4.mono hB.o.size));have V4:=O (hV.o.keep b4);clear b4 hB hV c0 c1 c2 c3 c4 c5 c6;obtain⟨c0,c1,c2,c3,c4,c5,c6⟩:=V4.o;dsimp only at c0 c1 c2 c3 c4 c5 c6;by_cases g4:zc P=0
   ·obtain⟨a,rfl,hn1,d0,-⟩:=wl (HN.o.keep B4.o) (zL.1 g4).2.pos;rw [g4,zn] at HF;rw [g4,zf];by_cases g5:zg P=6
    ·rw [if_pos g5] at HF;rw [g5] at d0;clear g5 g4;go_wp2_with fail;go_ret;exact⟨by rw [HF.o];rfl,B4.o⟩
    ·rw [if_neg g5] at HF;have f1:(zg P != 6)=true:=by rw [bne_iff_ne];exact g5
     generalize zg P=o at *;clear g5 g4;go_wp2_with fail;go_ret;exact⟨by rw [HF.o];rfl,B4.o⟩
   ·rw [zG g4] at HF;have j7:=O (zl g4);rw [j7.o];generalize zc P=r4 at *;clear g4;go_wp2_with fail;go_ret;exact⟨by rw [HF.o,j7.o];rfl,B4.o⟩
theorem yg(A:Option Addr)(n c:Nat)(P:List Nd)(p:Nat)(f:Bool)(x:Ex)(w:World)(h:Ns w A n c P)(hx:XAt P p f x):
 Calls Tryz.prog 102 #[.slice A n c,.int .i64 p] w λe w'=>e = .returned (.int .i64 ((p+x.flat.length:Nat):Int))/\Below w.heap.size w w':=by
 have hm:=h.max;unfold maxLen at hm;have GL:=O h;have kX:=O h.len;have JH:=O hx.le;have HO:=O (show lS P p (.cons x .nil) from(by obtain⟨r,e⟩:=hx.drop;exact lS.start hx.valid e));have CP:=O (λy w=>eM y w);unfold ndV at CP;have HT:=O (show p+(Exs.cons x .nil).flat.length=p+x.flat.length by simp [Exs.flat]);have hple:p+x.flat.length<=n:=by rw [kX.o];exact JH.o
 generalize p+x.flat.length=T at *;clear h hx;go_enter Tryz.func102,Tryz.ntmps102;go_wp2_with fail;go_loopw [1,5] (λu l wr=>∃(q m:Nat) (L:Exs),u = .int .i64 q/\l = .int .i64 m/\Hid (m=L.len)/\Hid (lS P q L)/\Hid (q+L.flat.length=T)/\Hid (Below w.heap.size w wr)) (λu _ _=>n+1-(intOf u).toNat)
 case atStart=>exact⟨p,1,.cons x .nil,rfl,rfl,O rfl,HO,HT,O (Below.refl _ _)⟩
 case round =>
  obtain⟨q,m,L,rfl,rfl,hM,hO,hT,hB⟩:=hrel;by_cases hl:0<m
  ·obtain⟨y,ps,r,rfl⟩:=hO.o.left (by rw [<-hM.o];exact hl);obtain⟨hy,AG,hlen,htot⟩:=hO.o.step;have KJ:q<P.length:=(List.getElem?_eq_some_iff.1 hy).1;have Ll:q<n:=by rw [kX.o];exact KJ
   obtain⟨a,rfl,d0,d1,d2,d3⟩:=(GL.o.keep hB.o).at_ q y hy;have Kh:=O AG;have I3:=O (htot.trans hT.o);have hbl:=dw (ps.app r);have hm1:(Exs.cons (.node y ps) r).len=r.len+1:=rfl;have Hf:=hM.o;have hsum:(m:Int)+zJ y=((ps.app r).len:Int)+1:=by omega
   have lY:(ps.app r).len+1<=n:=by have:=I3.o;omega
   have CY:=O (λw=>CP.o y w);have f0:decide (0<m)=true:=decide_eq_true hl;obtain⟨m2,I'⟩:∃m2,m2=(ps.app r).len:=⟨_,rfl⟩
   have HM2:=O I';rw [<-I'] at hsum lY;generalize (ps.app r)=L2 at *;generalize zJ y=k at *;clear hO hT hy AG htot hlen hl hbl hm1 Hf I';go_wp2_with fail;refine(CY.o _).mono ?_;rintro e w1 ⟨rfl,b1⟩;have B1:=bh hB b1;clear b1 hB d0 d1 d2 d3;go_wp2_with fail;go_roundw
   case rel=>exact⟨q+1,m2,L2,by go_num,by go_num,HM2,Kh,I3,B1⟩
   case measure=>simp [intOf];omega
  ·have hL:L = .nil:=by
    have:=hM.o
    cases L with
    | nil=>rfl
    | cons x r=>simp only [Exs.len] at this;omega
   have HR:=O (show q=T by have:=hT.o;rw [hL] at this;simpa [Exs.flat] using this);have Ku:m=0:=by omega
   subst Ku;clear hL hl;go_wp2_with fail;go_ret;exact⟨by rw [<-HR.o];rfl,hB.o⟩
structure kP(w w':World):Prop where
 b:Below w.heap.size w w'
 d:w.drawn<=w'.drawn
theorem kP.grow{w w':World}(h:kP w w'):∃q os,w'=grow (w.drewN q) os:=by
 obtain⟨p,hp⟩:=regrown_of_below h.b;have e:p.d=w'.drawn:=by rw [hp];rfl
 refine⟨w'.drawn-w.drawn,p.os,?_⟩;have e2:redrawn w p.d=w.drewN (w'.drawn-w.drawn):=by
  unfold redrawn World.drewN;rw [e,show w.drawn+(w'.drawn-w.drawn)=w'.drawn by have:=h.d;omega]
 rw [<-e2];exact hp
theorem rB(x y:Nd)(w:World):
 Calls Tryz.prog 142 #[ndV x,ndV y] w λe w'=>e = .returned (.int .i64 (gW x y))/\kP w w':=by
 unfold ndV;go_enter Tryz.func142,Tryz.ntmps142;go_wp2;refine my 20 (by kernel_rfl) (by kernel_rfl) ?_;simp only [List.take_succ_cons,List.take_zero,List.drop_succ_cons,List.drop_zero]
 iterate 4 still_step
 still_call (cmp_Compare_int _ _ _)
 iterate 4 still_step
 still_call (cmp_Compare_int _ _ _)
 iterate 4 still_step
 still_call (strings_Compare _ _ _)
 iterate 4 still_step
 still_call (strings_Compare _ _ _);refine wpStill_nil ?_;go_wp2_with (go_at_call 168;refine(xb (i8 x.op y.op) (i8 x.n y.n) (ai x.s y.s) (ai x.t y.t) _ _ (by go_simp) (by go_simp) (by go_simp) (by go_simp)).mono ?_;rintro e w' ⟨rfl,rfl⟩);go_ret;exact⟨rfl,((((Below.refl _ _).alloc (Nat.le_refl _) _).alloc (by simp) _).alloc (by simp;omega) _).drew,Nat.le_succ _⟩
theorem kA(A B:Option Addr)(n m c d:Nat)(P Q:List Nd)(w:World)(hn:n=P.length)(hm:m=Q.length)(uJ:n<=maxLen)(_hlm:m<=maxLen)(hP:jk w A P)(hQ:jk w B Q):
 Calls Tryz.prog 141 #[.slice A n c,.slice B m d,.func (.func 142) #[] #[]] w λe w'=>e = .returned (.int .i64 (zx P Q))/\kP w w':=by
 unfold maxLen at uJ _hlm;have HP:=O hP;have HQ:=O hQ;have HN:=O hn;have HM:=O hm;clear hP hQ hn hm;go_enter Tryz.func141,Tryz.ntmps141;go_wp2;go_loopw [7,8,9,10,13] (λ_ _ _ _ i wr=>∃k:Nat,k<=n/\k<=m/\i = .int .i64 k/\Hid (zx P Q=zx (P.drop k) (Q.drop k))/\Hid (w.drawn<=wr.drawn)/\Below w.heap.size w wr) (λ_ _ _ _ i _=>n-(intOf i).toNat)
 case atStart=>exact⟨0,Nat.zero_le _,Nat.zero_le _,rfl,rfl,Nat.le_refl _,Below.refl _ _⟩
 case round =>
  obtain⟨k,Mt,hkm,rfl,hc,hdr,dX⟩:=hrel;obtain⟨wo,rfl⟩:∃wo:World,wo=wr:=⟨_,rfl⟩
  by_cases h1:k<n
  ·have AK:k<P.length:=by rw [<-HN.o];exact h1
   obtain⟨a,rfl,a1,a2,a3,a4⟩:=(HP.o.keep dX) k P[k] (List.getElem?_eq_getElem AK);by_cases h2:k<m
   ·have Ec:k<Q.length:=by rw [<-HM.o];exact h2
    obtain⟨b,rfl,b1,b2,b3,b4⟩:=(HQ.o.keep dX) k Q[k] (List.getElem?_eq_getElem Ec);have HA:=O (hc.o.trans (dl AK Ec));have g:∀(o:Obj) (x:Addr) (v:Value),wo.cell? x=some v->(wo.alloc o).cell? x=some v:=λo x v h=>zb ((Below.refl _ _).alloc (Nat.le_refl _) o) h;replace b1:=λo=>g o _ _ b1;replace b2:=λo=>g o _ _ b2;replace b3:=λo=>g o _ _ b3;replace b4:=λo=>g o _ _ b4;clear hc g;go_wp2_with fail;refine(rB P[k] Q[k] _).mono ?_;rintro e w1 ⟨rfl,hb1,Li⟩;have hdw:=O (Nat.le_trans hdr.o Li);clear Li;have IE:=O ((dX.alloc (by have:=dX.size;omega) _).alloc (by have:=dX.size;simp;omega) _ |>.trans (hb1.mono (by have:=dX.size;simp;omega)));clear hb1 b1 b2 b3 b4 a1 a2 a3 a4;by_cases h0:gW P[k] Q[k]=0
    ·have HC:=O (HA.o.trans (by rw [h0];rfl:_=zx (P.drop (k+1)) (Q.drop (k+1))));rw [h0];clear h0 HA;go_wp2;go_roundw
     case rel=>exact⟨k+1,by omega,by omega,by go_num,HC,hdw,IE.o⟩
     case measure=>simp [intOf];omega
    ·have HC:=O (HA.o.trans (zG h0 _));have h0':(gW P[k] Q[k]==0)=false:=beq_eq_false_iff_ne.2 h0;clear HA;go_wp2;go_ret;exact⟨br HC.o.symm,IE.o,hdw.o⟩
   ·have HA:=O (hc.o.trans (lA AK (by rw [<-HM.o];omega)));clear hc;go_wp2;go_ret;exact⟨br HA.o.symm,dX.alloc (by have:=dX.size;omega) _,hdr.o⟩
  ·obtain rfl:k=n:=by omega
   by_cases h2:k<m
   ·have HA:=O (hc.o.trans (lx (by rw [<-HN.o];omega) (by rw [<-HM.o];exact h2)));clear hc;go_wp2;go_ret;exact⟨br HA.o.symm,dX,hdr.o⟩
   ·have HA:=O (hc.o.trans (cP (by rw [<-HN.o];omega) (by rw [<-HM.o];omega)));clear hc;go_wp2;go_ret;exact⟨br HA.o.symm,dX,hdr.o⟩
theorem we(A B:Option Addr)(n m c d:Nat)(P Q:List Nd)(w:World)(hn:n=P.length)(hm:m=Q.length)(uJ:n<=maxLen)(wM:m<=maxLen)(hP:jk w A P)(hQ:jk w B Q):
 Calls Tryz.prog 113 #[.slice A n c,.slice B m d] w λe w'=>e = .returned (.int .i64 (zx P Q))/\kP w w':=by
 have H:=kA A B n m c d P Q w hn hm uJ wM hP hQ;clear hn hm hP hQ;go_enter Tryz.func113,Tryz.ntmps113;go_wp2_with fail;refine H.mono ?_;rintro e w1 ⟨rfl,hb1⟩;go_wp2;go_ret;exact⟨rfl,hb1⟩
end Go.Proofs.YthidiimbeaabhaaGreatDoor
