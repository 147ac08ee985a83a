/-
  A value is an expression, and its value is it. No program in sight. eval.Ask. tree.Skip: the place behind a part of an expression. tree.behind, tree.Check; the ..
-/
import Derived.RangeFuncBox
import Derived.RangeFuncLeaves
import Derived.RangeFuncWrites
import Derived.Shelf.Abstract
import Derived.WalkKit
import Derived.OwnWalkIn
import Derived.TacticsInMore
import Derived.LoopNIn
import Derived.LoopIn
import Derived.Laws.OwnMore
import Derived.RangeFuncBound
import Derived.Sort.OwnSorted
import Derived.Test.YtkfgabdnppmglaaGreatDoorQ7
import Derived.Test.YtkfgabdnppmglaaGreatDoorQ8
import Derived.Test.YtkfgabdnppmglaaGreatDoorQ11
import Derived.Test.YtkfgabdnppmglaaGreatDoorQ17
import Derived.Test.YtkfgabdnppmglaaGreatDoorQ21
import Derived.Test.YtkfgabdnppmglaaGreatDoorQ22
import Derived.Test.YtkfgabdnppmglaaGreatDoorQ25
import Derived.Test.YtkfgabdnppmglaaGreatDoorQ26
import Derived.Test.YtkfgabdnppmglaaGreatDoorQ27
import Derived.Test.YtkfgabdnppmglaaGreatDoorQ30
set_option maxRecDepth 100000
set_option maxHeartbeats 8000000
namespace Go.Proofs.YtkfgabdnppmglaaGreatDoor
open Go.RowKit Go.Wk
end Go.Proofs.YtkfgabdnppmglaaGreatDoor
namespace Go.Proofs.YtkfgabdnppmglaaGreatDoor
open Go.RowKit Go.Wk Go.Sort
theorem zrl{w:World}{A:Option Addr}{n c:Nat}{P:List Nd}(h:Ns w A n c P)(hp:0<P.length):∃a,A=some a∧1≤n∧w.cell? a=some (.int .i64 (zf P))∧w.cell? ⟨a.block,a.off+2,none⟩=some (.string P[0].s):=by
 obtain⟨a,ha,D⟩:=h.at_.nd hp;rw [show a.add (0*4)=a from rfl] at D;refine⟨a,ha,by rw [h.len];exact hp,?_,D.c2⟩;rw [jO hp];exact D.c0
theorem zr1(s1 t1 s2 t2 s3 t3:ByteArray)(w:World):(Instr.index 87 (.agg #[.string s1,.string t1,.string s2,.string t2,.string s3,.string t3]) (.int .i64 0)).run Tryz.prog w = .ok (.agg #[.string s1,.string t1]) w:=by kernel_rfl
theorem zsh(s1 t1 s2 t2 s3 t3:ByteArray)(w:World):(Instr.index 87 (.agg #[.string s1,.string t1,.string s2,.string t2,.string s3,.string t3]) (.int .i64 1)).run Tryz.prog w = .ok (.agg #[.string s2,.string t2]) w:=by kernel_rfl
theorem zss(s1 t1 s2 t2 s3 t3:ByteArray)(w:World):(Instr.index 87 (.agg #[.string s1,.string t1,.string s2,.string t2,.string s3,.string t3]) (.int .i64 2)).run Tryz.prog w = .ok (.agg #[.string s3,.string t3]) w:=by kernel_rfl
def zsI(r1 r2 r3 R:Int)(k:Nat):Int:=if k=0 then or2 r1 (or2 r2 (or2 r3 R)) else if k=1 then or2 r2 (or2 r3 R) else if k=2 then or2 r3 R else R
theorem zmq(q:Rq)(w:World)(h:zfV w q):
 Calls Tryz.prog 14 #[q.v] w fun e w'=>e = .returned (j3 (zdJ q.who q.act q.what q.P))∧Below w.heap.size w w':=by
 obtain⟨⟨s1,t1⟩,⟨s2,t2⟩,⟨s3,t3⟩,NA,nn,nc,P⟩:=q;have V0:=hi9 (zb1 w ⟨(s1,t1),(s2,t2),(s3,t3),NA,nn,nc,P⟩ 27);have B0:=hi9 (zb w (.cells #[.string s1,.string t1,.string s2,.string t2,.string s3,.string t3,.slice NA nn nc] 27));have C1:=hi9 (fun w=>zco s1 t1 w h.w1 h.w2);have C2:=hi9 (fun w=>zco s2 t2 w h.a1 h.a2);have C3:=hi9 (fun w=>zco s3 t3 w h.t1 h.t2);have HN:=hi9 h.ns;have KV:=hi9 (fun w' hb=>zU (h.ns.keep (w':=w') hb));dsimp only at HN KV;have HR:=hi9 (show zdJ (s1,t1) (s2,t2) (s3,t3) P=zsI (zw (s1,t1)) (zw (s2,t2)) (zw (s3,t3)) (or2 (zc P) (if zf P=6 then 0 else 2)) 0 from rfl);unfold Rq.v;dsimp only;generalize zdJ (s1,t1) (s2,t2) (s3,t3) P=F at *;generalize zw (s1,t1)=r1 at *;generalize zw (s2,t2)=r2 at *;generalize zw (s3,t3)=r3 at *;generalize zou (s1,t1)=u1 at *;generalize zou (s2,t2)=u2 at *;generalize zou (s3,t3)=u3 at *;have hnx:=h.ns.max;have hnc:=h.ns.cap;unfold maxLen at hnx;dsimp only at hnx hnc;clear h;go_enter Tryz.func14,Tryz.ntmps14;go_wp2_with fail;go_loopw [15] (fun i wr=>∃k:Nat,i = .int .i64 k∧k≤3∧Hid (F=zsI r1 r2 r3 (or2 (zc P) (if zf P=6 then 0 else 2)) k)∧Hid (Below w.heap.size w wr)∧Hid (Vq wr w.heap.size ⟨(s1,t1),(s2,t2),(s3,t3),NA,nn,nc,P⟩)) (fun i _=>3-(intOf i).toNat)
 case atStart=>exact⟨0,rfl,by omega,HR,B0,V0⟩
 case round =>
  obtain⟨k,rfl,hk,hF,hB,hV⟩:=hrel;clear HR B0 V0;have hcase:k=0∨k=1∨k=2∨k=3:=by omega
  rcases hcase with rfl|rfl|rfl|rfl
  ·have hix:=zr1 s1 t1 s2 t2 s3 t3;have HF:=hi9 (show F=or2 r1 (or2 r2 (or2 r3 (or2 (zc P) (if zf P=6 then 0 else 2)))) from hF.out);have BB:=hi9 (zb wr (.cells #[.string s1,.string t1] 24));clear hF;go_wp2_with fail;refine(C1.out _).mono ?_;rintro e w1 ⟨rfl,b1⟩;have BW:=hi9 (BB.out.trans (b1.mono BB.out.size));have B1:=hi9 (hB.out.trans (BW.out.mono hB.out.size));have V1:=hi9 (hV.out.keep BW.out);clear b1 BB BW hB hV;by_cases g:r1=0
   ·have HF2:=hi9 (show F=zsI r1 r2 r3 (or2 (zc P) (if zf P=6 then 0 else 2)) 1 by rw [HF.out,g,zx];rfl);rw [g,zo];clear HF g;go_wp2_with fail;go_roundw
    case rel=>exact⟨1,by go_num,by omega,HF2,B1,V1⟩
    case measure=>simp [intOf]
   ·have HEV:=hi9 (zC g);have HE:=hi9 (show F=r1 by rw [HF.out,jc g]);rw [HEV.out];clear g;go_wp2_with fail;go_ret;exact⟨by rw [HE.out,HEV.out];rfl,B1.out⟩
  ·have hix:=zsh s1 t1 s2 t2 s3 t3;have HF:=hi9 (show F=or2 r2 (or2 r3 (or2 (zc P) (if zf P=6 then 0 else 2))) from hF.out);have BB:=hi9 (zb wr (.cells #[.string s2,.string t2] 24));clear hF;go_wp2_with fail;refine(C2.out _).mono ?_;rintro e w1 ⟨rfl,b1⟩;have BW:=hi9 (BB.out.trans (b1.mono BB.out.size));have B1:=hi9 (hB.out.trans (BW.out.mono hB.out.size));have V1:=hi9 (hV.out.keep BW.out);clear b1 BB BW hB hV;by_cases g:r2=0
   ·have HF2:=hi9 (show F=zsI r1 r2 r3 (or2 (zc P) (if zf P=6 then 0 else 2)) 2 by rw [HF.out,g,zx];rfl);rw [g,zo];clear HF g;go_wp2_with fail;go_roundw
    case rel=>exact⟨2,by go_num,by omega,HF2,B1,V1⟩
    case measure=>simp [intOf]
   ·have HEV:=hi9 (zC g);have HE:=hi9 (show F=r2 by rw [HF.out,jc g]);rw [HEV.out];clear g;go_wp2_with fail;go_ret;exact⟨by rw [HE.out,HEV.out];rfl,B1.out⟩
  ·have hix:=zss s1 t1 s2 t2 s3 t3;have HF:=hi9 (show F=or2 r3 (or2 (zc P) (if zf P=6 then 0 else 2)) from hF.out);have BB:=hi9 (zb wr (.cells #[.string s3,.string t3] 24));clear hF;go_wp2_with fail;refine(C3.out _).mono ?_;rintro e w1 ⟨rfl,b1⟩;have BW:=hi9 (BB.out.trans (b1.mono BB.out.size));have B1:=hi9 (hB.out.trans (BW.out.mono hB.out.size));have V1:=hi9 (hV.out.keep BW.out);clear b1 BB BW hB hV;by_cases g:r3=0
   ·have HF2:=hi9 (show F=zsI r1 r2 r3 (or2 (zc P) (if zf P=6 then 0 else 2)) 3 by rw [HF.out,g,zx];rfl);rw [g,zo];clear HF g;go_wp2_with fail;go_roundw
    case rel=>exact⟨3,by go_num,by omega,HF2,B1,V1⟩
    case measure=>simp [intOf]
   ·have HEV:=hi9 (zC g);have HE:=hi9 (show F=r3 by rw [HF.out,jc g]);rw [HEV.out];clear g;go_wp2_with fail;go_ret;exact⟨by rw [HE.out,HEV.out];rfl,B1.out⟩
  ·have HF:=hi9 (show F=or2 (zc P) (if zf P=6 then 0 else 2) from hF.out);obtain⟨c0,c1,c2,c3,c4,c5,c6⟩:=hV.out;dsimp only at c0 c1 c2 c3 c4 c5 c6;clear hF;go_wp2_with fail;refine(KV.out _ hB.out).mono ?_;rintro e w4 ⟨rfl,b4⟩;have B4:=hi9 (hB.out.trans (b4.mono hB.out.size));have V4:=hi9 (hV.out.keep b4);clear b4 hB hV c0 c1 c2 c3 c4 c5 c6;obtain⟨c0,c1,c2,c3,c4,c5,c6⟩:=V4.out;dsimp only at c0 c1 c2 c3 c4 c5 c6;by_cases g4:zc P=0
   ·obtain⟨a,rfl,hn1,d0,-⟩:=zrl (HN.out.keep B4.out) (zP.1 g4).2.pos;rw [g4,zx] at HF;rw [g4,zo];by_cases g5:zf P=6
    ·rw [if_pos g5] at HF;rw [g5] at d0;clear g5 g4;go_wp2_with fail;go_ret;exact⟨by rw [HF.out];rfl,B4.out⟩
    ·rw [if_neg g5] at HF;have f1:(zf P != 6)=true:=by rw [bne_iff_ne];exact g5
     generalize zf P=o at *;clear g5 g4;go_wp2_with fail;go_ret;exact⟨by rw [HF.out];rfl,B4.out⟩
   ·rw [jc g4] at HF;have HEV:=hi9 (zC g4);rw [HEV.out];generalize zc P=r4 at *;clear g4;go_wp2_with fail;go_ret;exact⟨by rw [HF.out,HEV.out];rfl,B4.out⟩
theorem zpn(A:Option Addr)(n c:Nat)(P:List Nd)(p:Nat)(f:Bool)(x:Ex)(w:World)(h:Ns w A n c P)(hx:XAt P p f x):
 Calls Tryz.prog 119 #[.slice A n c,.int .i64 p] w fun e w'=>e = .returned (.int .i64 ((p+x.flat.length:Nat):Int))∧Below w.heap.size w w':=by
 have hm:=h.max;unfold maxLen at hm;have HNS:=hi9 h;have HLN:=hi9 h.len;have HLE:=hi9 hx.le;have HO:=hi9 (show zg2 P p (.cons x .nil) from(by obtain⟨r,e⟩:=hx.drop;exact zg2.start hx.valid e));have CP:=hi9 (fun y w=>zda y w);unfold ndV at CP;have HT:=hi9 (show p+(Exs.cons x .nil).flat.length=p+x.flat.length by simp [Exs.flat]);have hple:p+x.flat.length≤n:=by rw [HLN.out];exact HLE.out
 generalize p+x.flat.length=T at *;clear h hx;go_enter Tryz.func119,Tryz.ntmps119;go_wp2_with fail;go_loopw [1,5] (fun u l wr=>∃(q m:Nat) (L:Exs),u = .int .i64 q∧l = .int .i64 m∧Hid (m=L.len)∧Hid (zg2 P q L)∧Hid (q+L.flat.length=T)∧Hid (Below w.heap.size w wr)) (fun u _ _=>n+1-(intOf u).toNat)
 case atStart=>exact⟨p,1,.cons x .nil,rfl,rfl,hi9 rfl,HO,HT,hi9 (Below.refl _ _)⟩
 case round =>
  obtain⟨q,m,L,rfl,rfl,hM,hO,hT,hB⟩:=hrel;by_cases hl:0<m
  ·obtain⟨y,ps,r,rfl⟩:=hO.out.left (by rw [←hM.out];exact hl);obtain⟨hy,hO2,hlen,htot⟩:=hO.out.step;have hql:q<P.length:=(List.getElem?_eq_some_iff.1 hy).1;have hqn:q<n:=by rw [HLN.out];exact hql
   obtain⟨a,rfl,d0,d1,d2,d3⟩:=(HNS.out.keep hB.out).at_ q y hy;have HO2:=hi9 hO2;have HT2:=hi9 (htot.trans hT.out);have hbl:=za2 (ps.app r);have hm1:(Exs.cons (.node y ps) r).len=r.len+1:=rfl;have hmm:=hM.out;have hsum:(m:Int)+zH y=((ps.app r).len:Int)+1:=by omega
   have hfl:(ps.app r).len+1≤n:=by have:=HT2.out;omega
   have CY:=hi9 (fun w=>CP.out y w);have f0:decide (0<m)=true:=decide_eq_true hl;obtain⟨m2,hm2⟩:∃m2,m2=(ps.app r).len:=⟨_,rfl⟩
   have HM2:=hi9 hm2;rw [←hm2] at hsum hfl;generalize (ps.app r)=L2 at *;generalize zH y=k at *;clear hO hT hy hO2 htot hlen hl hbl hm1 hmm hm2;go_wp2_with fail;refine(CY.out _).mono ?_;rintro e w1 ⟨rfl,b1⟩;have B1:=bh hB b1;clear b1 hB d0 d1 d2 d3;go_wp2_with fail;go_roundw
   case rel=>exact⟨q+1,m2,L2,by go_num,by go_num,HM2,HO2,HT2,B1⟩
   case measure=>simp [intOf];omega
  ·have hL:L = .nil:=by
    have:=hM.out
    cases L with
    | nil=>rfl
    | cons x r=>simp only [Exs.len] at this;omega
   have HR:=hi9 (show q=T by have:=hT.out;rw [hL] at this;simpa [Exs.flat] using this)
   have hm0:m=0:=by omega
   subst hm0
   clear hL hl
   go_wp2_with fail
   go_ret
   exact⟨by rw [←HR.out];rfl,hB.out⟩
structure Vn(w:World)(b:Nat)(x:Nd):Prop where
 c0:w.cell? ⟨b,0,none⟩=some (.int .i64 x.op)
 c1:w.cell? ⟨b,1,none⟩=some (.int .i64 x.n)
 c2:w.cell? ⟨b,2,none⟩=some (.string x.s)
 c3:w.cell? ⟨b,3,none⟩=some (.string x.t)
theorem Vn.keep{w w':World}{b:Nat}{x:Nd}(h:Vn w b x)(hb:Below w.heap.size w w'):Vn w' b x:=⟨za hb h.c0,za hb h.c1,za hb h.c2,za hb h.c3⟩
theorem zdr(w:World)(x:Nd)(t:TypeId):Vn (w.alloc (.cells #[.int .i64 x.op,.int .i64 x.n,.string x.s,.string x.t] t)) w.heap.size x :=
 ⟨zbx (heap_alloc_new w _) rfl,zbx (heap_alloc_new w _) rfl,zbx (heap_alloc_new w _) rfl,zbx (heap_alloc_new w _) rfl⟩
theorem zoA(t:List Nd)(s s':ByteArray):∀(c p:Nat),zai t c false s p=zai t c false s' p
 | 0,p=>by unfold zai;simp only [jK]
 | c+1,p=>by
  rcases h:t[p]? with _|y
  ·have hp:t.length≤p:=List.getElem?_eq_none_iff.1 h;rw [zcf hp,zcf hp]
  ·have e1:∀z,¬(false=true∧¬jk z y.s<0):=fun z q=>Bool.false_ne_true q.1;rw [zbP h,zbP h,if_neg (e1 s),if_neg (e1 s')]
theorem zgC{t:List Nd}{s:ByteArray}{c p:Nat}:zai t (c+1) false s p=if 0≤jJ t p false then zai t c false s (jJ t p false).toNat else -1:=by
 rcases h:t[p]? with _|y
 ·have hp:t.length≤p:=List.getElem?_eq_none_iff.1 h;rw [zcf hp,zfd hp];rfl
 ·rw [zbP h,if_neg (fun q=>absurd q.1 Bool.false_ne_true),zoA t y.s s]
theorem zmw{f:Bool}{x:Nd}(h:jz x=false):zba f x=false:=by unfold zba;rw [h];rfl
theorem zmG{f:Bool}{x:Nd}(h:jz x=true):zba f x=(decide (x.op=7)==f):=by unfold zba;rw [h];rfl
theorem zj5{x:Nd}(h:zcw x):zH x≤9223372036854775807:=by
 unfold zH;have:=h.hi;split
 ·exact this
 ·repeat' (first|split|omega)
def TbC(P:List Nd)(A:Option Addr)(n c m:Nat):Prop:=∀(p:Nat) (f:Bool) (w:World),Ns w A n c P→n-p≤m→
 Calls Tryz.prog 41 #[.slice A n c,.int .i64 p,.bool f] w fun e w'=>e = .returned (.int .i64 (jJ P p f))∧Below w.heap.size w w'
theorem zq3(P:List Nd)(A:Option Addr)(n c p:Nat)(f:Bool)(w:World)(h:Ns w A n c P)(hp:n≤p):
 Calls Tryz.prog 41 #[.slice A n c,.int .i64 p,.bool f] w fun e w'=>e = .returned (.int .i64 (jJ P p f))∧Below w.heap.size w w':=by
 have HR:=hi9 (zfd (t:=P) (p:=p) (f:=f) (by rw [←h.len];exact hp));have f0:decide ((n:Int)≤(p:Int))=true:=decide_eq_true (by omega);have f1:decide ((p:Int)<0)=false:=decide_eq_false (by omega);clear h;go_enter Tryz.func41,Tryz.ntmps41;go_wp2_with fail;go_ret;exact⟨by rw [HR.out];rfl,Below.refl _ _⟩
theorem zs6(P:List Nd)(m:Nat)(a:Addr)(n c q:Nat)(f:Bool)(w:World)(ih:TbC P (some a) n c m)(hns:Ns w (some a) n c P)(hq:q<n)(hf:n-q≤m+1):
 Calls Tryz.prog 41 #[.slice (some a) n c,.int .i64 q,.bool f] w fun e w'=>e = .returned (.int .i64 (jJ P q f))∧Below w.heap.size w w':=by
 have hm:=hns.max;unfold maxLen at hm;have HNS:=hi9 hns;have HLN:=hi9 hns.len;have hql:q<P.length:=by rw [←hns.len];exact hq
 have HX0:=List.getElem?_eq_getElem hql;have hok:=hns.ok _ (List.getElem_mem hql);have IH:=hi9 (fun p g w' (hp:q<p) hb=>ih p g w' (hns.keep (w':=w') hb) (by omega));obtain⟨a',ea,d0,d1,d2,d3⟩:=hns.at_ q _ HX0;injection ea with ea;subst ea;have CS:=hi9 (zmy P[q] w hok);have CP:=hi9 (fun w=>zda P[q] w);have hpl:=zj5 hok;obtain⟨x,hx⟩:∃x,x=P[q]:=⟨_,rfl⟩
 rw [←hx] at HX0 hok d0 d1 d2 d3 CS CP hpl;have HX:=hi9 HX0;clear hx HX0 hns ih hok;have HXE:=hi9 (show Nd4 w (a.add (q*4)) x from⟨d0,d1,d2,d3⟩);unfold ndV at CS CP;have f0:decide (n≤q)=false:=decide_eq_false (by omega);have f1:decide ((q:Int)<0)=false:=decide_eq_false (by omega);by_cases hfx:jz x=true
 ·rw [hfx] at CS;have HH:=hi9 (zmG (f:=f) hfx);have HP0:=hi9 (zeF hfx);clear hfx;go_enter Tryz.func41,Tryz.ntmps41;go_wp2_with fail;refine CS.out.mono ?_;rintro e w1 ⟨rfl,b1⟩;have B1:=hi9 b1;have HXE1:=hi9 (HXE.out.keep b1);obtain⟨e0,e1,e2,e3⟩:=HXE1.out;clear b1 CS HXE d0 d1 d2 d3;have he:(x.op==7)=decide (x.op=7):=rfl;by_cases hh:(decide (x.op=7)==f)=true
  ·have HE:=hi9 (show jJ P q f=zai P (zH x).toNat (z6 x) emp (q+1) from zfR HX.out (HH.out.trans hh));have f2:(!(x.op==7)==f)=false:=by rw [he];revert hh;cases decide (x.op=7)<;> cases f <;> simp
   obtain⟨M,hM⟩:∃M:Nat,zH x=(M:Int):=⟨(zH x).toNat,by have:=HP0.out;omega⟩
   rw [hM] at CP hpl;rw [hM,Int.toNat_natCast] at HE;have B2:=hi9 (B1.out.trans ((zb w1 (.cells #[.int .i64 x.op,.int .i64 x.n,.string x.s,.string x.t] 53)).mono B1.out.size));have V2:=hi9 (zdr w1 x 53);clear hh he hM HH HP0 HX;go_wp2_with fail;refine(CP.out _).mono ?_;rintro e w2 ⟨rfl,b2⟩;have B3:=bh B2 b2;have V3:=hi9 (V2.out.keep b2);clear b2 B2 V2 e0 e1 e2 e3 HXE1 B1 CP;go_wp2_with fail;go_loopw [1,8,43] (fun u l i wr=>∃(k p:Nat) (last:ByteArray),u = .int .i64 p∧l = .string last∧i = .int .i64 k∧k≤M∧q<p∧p≤n∧Hid (jJ P q f=zai P (M-k) (z6 x) last p)∧Hid (Below w.heap.size w wr)∧Hid (Vn wr w1.heap.size x)) (fun _ _ i _=>M-(intOf i).toNat)
   case atStart=>exact⟨0,q+1,⟨#[]⟩,by go_num,rfl,rfl,Nat.zero_le _,Nat.lt_succ_self _,hq,HE,B3,V3⟩
   case round =>
    clear B3 V3 HE;obtain⟨k,p,last,rfl,rfl,rfl,hk,hqp,hpn,hF,hB,hV⟩:=hrel;obtain⟨v0,v1,v2,v3⟩:=hV.out;by_cases hlt:k<M
    ·have HF:=hi9 (show jJ P q f=zai P (M-(k+1)+1) (z6 x) last p by rw [hF.out,show M-k=M-(k+1)+1 by omega]);clear hF;by_cases hpn2:p<n
     ·have hpl2:p<P.length:=by rw [←HLN.out];exact hpn2
      have g3:decide (n≤p)=false:=decide_eq_false (by omega);by_cases h6:x.op=6
      ·have hr:z6 x=true:=by unfold z6;exact decide_eq_true h6
       have g2:(x.op==6)=true:=beq_iff_eq.2 h6;obtain⟨a',ea,e0,e1,e2,e3⟩:=(HNS.out.keep hB.out).at_ p _ (List.getElem?_eq_getElem hpl2);injection ea with ea;subst ea;have HN:=hi9 (HF.out.trans ((congrArg (fun b=>zai P (M-(k+1)+1) b last p) hr).trans (zbP (List.getElem?_eq_getElem hpl2))));have HRC:=hi9 hr;have IHP:=hi9 (fun w' hb=>IH.out p true w' hqp hb);generalize P[p]=y at *;clear HF hr h6;rcases zl4 y.s last with ⟨hc,l1,l2⟩|⟨hc,l1⟩|⟨hc,l1,l2⟩
       ·have HGV:=hi9 (HN.out.trans (if_neg (fun q=>q.2 hc)));clear hc HN;go_wp2_with fail;refine(IHP.out _ hB.out).mono ?_;rintro e w6 ⟨rfl,b6⟩;have B6:=bh hB b6;have V6:=hi9 (hV.out.keep b6);clear b6 hB hV v0 v1 v2 v3 e0 e1 e2 e3;by_cases hk0:0≤jJ P p true
        ·obtain⟨e',he,hep,hel⟩:=zeQ hk0;have HF2:=hi9 (show jJ P q f=zai P (M-(k+1)) (z6 x) y.s e' by
          have h1:=HGV.out
          rw [if_pos hk0,he,Int.toNat_natCast] at h1
          rw [h1,HRC.out])
         have hen:e'≤n:=by rw [HLN.out];exact hel
         rw [he];clear hk0 he hel;go_wp2_with fail;go_roundw
         case rel=>exact⟨k+1,e',y.s,rfl,rfl,by go_num,hlt,by omega,hen,HF2,B6,V6⟩
         case measure=>simp [intOf];omega
        ·have HBV:=hi9 (show jJ P q f = -1 by rw [HGV.out,if_neg hk0]);rw [zdW hk0];clear hk0;go_wp2_with fail;go_ret;exact⟨by rw [HBV.out];rfl,B6.out⟩
       ·have HBV:=hi9 (show jJ P q f = -1 from HN.out.trans (if_pos ⟨rfl,hc⟩));clear hc HN;go_wp2_with fail;go_ret;exact⟨by rw [HBV.out];rfl,hB.out⟩
       ·have HBV:=hi9 (show jJ P q f = -1 from HN.out.trans (if_pos ⟨rfl,hc⟩));clear hc HN;go_wp2_with fail;go_ret;exact⟨by rw [HBV.out];rfl,hB.out⟩
      ·have hr:z6 x=false:=by unfold z6;exact decide_eq_false h6
       have HRC:=hi9 hr;have g2:(x.op==6)=false:=beq_eq_false_iff_ne.2 h6;have HGV:=hi9 (HF.out.trans ((congrArg (fun b=>zai P (M-(k+1)+1) b last p) hr).trans zgC));have IHP:=hi9 (fun w' hb=>IH.out p false w' hqp hb);clear hr HF h6;go_wp2_with fail;refine(IHP.out _ hB.out).mono ?_;rintro e w6 ⟨rfl,b6⟩;have B6:=bh hB b6;have V6:=hi9 (hV.out.keep b6);clear b6 hB hV v0 v1 v2 v3;by_cases hk0:0≤jJ P p false
       ·obtain⟨e',he,hep,hel⟩:=zeQ hk0;have HF2:=hi9 (show jJ P q f=zai P (M-(k+1)) (z6 x) last e' by
         have h1:=HGV.out
         rw [if_pos hk0,he,Int.toNat_natCast] at h1
         rw [h1,HRC.out])
        have hen:e'≤n:=by rw [HLN.out];exact hel
        rw [he];clear hk0 he hel;go_wp2_with fail;go_roundw
        case rel=>exact⟨k+1,e',last,rfl,rfl,by go_num,hlt,by omega,hen,HF2,B6,V6⟩
        case measure=>simp [intOf];omega
       ·have HBV:=hi9 (show jJ P q f = -1 by rw [HGV.out,if_neg hk0]);rw [zdW hk0];clear hk0;go_wp2_with fail;go_ret;exact⟨by rw [HBV.out];rfl,B6.out⟩
     ·have HBV:=hi9 (show jJ P q f = -1 by rw [HF.out,zcf (by rw [←HLN.out];omega)]);have g3:decide (n≤p)=true:=decide_eq_true (by omega);clear HF;go_wp2_with fail;go_ret;exact⟨by rw [HBV.out];rfl,hB.out⟩
    ·have HE2:=hi9 (show jJ P q f=(p:Int) by
      rw [hF.out,show M-k=0 by omega]
      exact zez (by rw [←HLN.out];exact hpn))
     clear hF
     go_wp2_with fail
     go_ret
     exact⟨by rw [HE2.out];rfl,hB.out⟩
  ·have HE:=hi9 (show jJ P q f = -1 from zdS HX.out (HH.out.trans (by simpa using hh)));have f2:(!(x.op==7)==f)=true:=by rw [he];revert hh;cases decide (x.op=7)<;> cases f <;> simp
   clear hh he;go_wp2_with fail;go_ret;exact⟨by rw [HE.out];rfl,B1.out⟩
 ·have hfx:jz x=false:=by simpa using hfx
  rw [hfx] at CS;have HE:=hi9 (show jJ P q f = -1 from zdS HX.out (zmw hfx));clear hfx;go_enter Tryz.func41,Tryz.ntmps41;go_wp2_with fail;refine CS.out.mono ?_;rintro e w1 ⟨rfl,b1⟩;have B1:=hi9 b1;clear b1 CS HXE d0 d1 d2 d3;go_wp2_with fail;go_ret;exact⟨by rw [HE.out];rfl,B1.out⟩
theorem zgt(P:List Nd)(A:Option Addr)(n c:Nat):∀m,TbC P A n c m
 | 0=>fun p f w h hm=>zq3 P A n c p f w h (by omega)
 | m+1=>fun p f w h hm=>by
  by_cases hp:p<n
  ·rcases A with _|a
   ·have:=h.at_ p _ (List.getElem?_eq_getElem (by rw [←h.len];exact hp));obtain⟨a,e,-⟩:=this;cases e
   ·exact zs6 P m a n c p f w (zgt P (some a) n c m) h hp hm
  ·exact zq3 P A n c p f w h (by omega)
theorem zhA(A:Option Addr)(n c:Nat)(P:List Nd)(w:World)(h:Ns w A n c P):
 Calls Tryz.prog 15 #[.slice A n c] w fun e w'=>e = .returned (j3 (jL P))∧Below w.heap.size w w':=by
 have hl:=h.len;by_cases h200:200<n
 ·have HR:=hi9 (show jL P=4 by unfold jL;rw [if_pos (by omega)]);have f0:decide ((200:Int)<(n:Int))=true:=decide_eq_true (by omega);clear h hl;go_enter Tryz.func15,Tryz.ntmps15;go_wp2_with fail;go_ret;exact⟨by rw [HR.out];rfl,Below.refl _ _⟩
 ·have C:=hi9 (zgt P A n c n 0 false w h (by omega));have f0:decide ((200:Int)<(n:Int))=false:=decide_eq_false (by omega);have HR:=hi9 (show jL P=if(zfc P).isSome then 0 else 1 by unfold jL;rw [if_neg (by omega)]);have HA:=hi9 (zlE (t:=P));rw [←hl] at HA;clear h hl h200;generalize jJ P 0 false=r at *;go_enter Tryz.func15,Tryz.ntmps15;go_wp2_with fail;refine C.out.mono ?_;rintro e w1 ⟨rfl,b1⟩;have B1:=hi9 b1;clear b1 C;by_cases hr:r=(n:Int)
  ·have HE:=hi9 (show jL P=0 by rw [HR.out,if_pos (HA.out.1 hr)]);have f1:(r !=(n:Int))=false:=by rw [bne_eq_false_iff_eq];exact hr
   clear hr;go_wp2_with fail;go_ret;exact⟨by rw [HE.out];rfl,B1.out⟩
  ·have HE:=hi9 (show jL P=1 by rw [HR.out,if_neg (fun q=>hr (HA.out.2 q))]);have f1:(r !=(n:Int))=true:=by rw [bne_iff_ne];exact hr
   clear hr;go_wp2_with fail;go_ret;exact⟨by rw [HE.out];rfl,B1.out⟩
end Go.Proofs.YtkfgabdnppmglaaGreatDoor
namespace Go.Proofs.YtkfgabdnppmglaaGreatDoor
open Go.RowKit Go.Shelf Go.Wk
attribute [local go_sem] Oper.semAt_some
theorem znE(F:Fence)(n:Nat)(h7:F.fn 165)(hro:F.round=none)(hn:1≤n)(l Bs n₀:Nat)(a:Addr)(len cap:Nat)(N:List ByteArray)(hlen:len=N.length)(hreach:len*16≤140737488351232)(hb:a.block<n₀)(J Jx:List ByteArray→World→Prop)
 (hY:∀pre x W,J pre W→pre.length<len→YieldAt F (n-1) Tryz.prog l #[.string x] W fun e W' =>
  (e = .returned (.bool true)∧J (pre ++ [x]) W'∧Below n₀ W W')∨(e = .returned (.bool false)∧Jx (pre ++ [x]) W'))
 (W:World) (hBs:W.cell? ⟨Bs,0,none⟩=some (.slice (some a) len cap)) (hc:∀j,(h:j<N.length)→W.cell? (a.add j)=some (.string N[j])) (h0:J [] W):
 CallsIn F n Tryz.prog 165 #[.func (.yield l) #[] #[],.pointer (some ⟨Bs,0,none⟩)] W fun e W'=>(∃v,e = .returned v)∧
  ((∃ys,ys=N∧J ys W')∨(∃pre,pre <+: N∧Jx pre W')):=by
 refine callsIn_of_wp Tryz.func165 rfl h7 ?_ hro;simp only [Tryz.ntmps165,List.size_toArray,List.length_cons,List.length_nil,Nat.reduceAdd,Nat.reduceSub,Array.replicate_succ,Array.replicate_zero,List.push_toArray,List.append_toArray,List.nil_append,List.cons_append];have HL:=hi9 hlen;clear hlen;gi_wp2;gi_loopw [7] (fun i wr=>∃k:Nat,k≤len∧i = .int .i64 k∧J (N.take k) wr∧Below n₀ W wr)
  (fun i _=>len-(intOf i).toNat)
 case atStart=>exact⟨0,Nat.zero_le _,rfl,h0,Below.refl _ _⟩
 case round =>
  obtain⟨k,hk,rfl,hJs,hnx⟩:=hrel;by_cases hlt:k<len
  ·have hkN:k<N.length:=by rw [←HL.out];exact hlt
   have hcx':wr.cell? (a.add k)=some (.string N[k]):=(hnx.cell (p:=a.add k) (by unfold Addr.add;split <;> exact hb)).trans (hc k hkN);obtain⟨fn,tmps,assign,zuZ,hy,hR⟩:=hY _ N[k] wr hJs (by rw [List.length_take];omega);rw [List.take_append_getElem hkN] at hR;gi_wp2;refine hR.mono ?_;rintro e W3 (⟨rfl,hJ3,hk3⟩|⟨rfl,hJx3⟩)
   ·gi_wp2;go_roundw
    case rel=>exact⟨k+1,by omega,by simp,hJ3,hnx.trans hk3⟩
    case measure=>simp [intOf];omega
   ·gi_wp2;refine bodyPost_ret (results_none rfl _ _ _) rfl ?_;exact⟨⟨_,rfl⟩,.inr ⟨_,List.take_prefix _ _,hJx3⟩⟩
  ·obtain rfl:k=len:=by omega
   rw [List.take_of_length_le (by rw [←HL.out];exact Nat.le_refl _)] at hJs;gi_wp2;go_end0;exact⟨⟨_,rfl⟩,.inl ⟨_,rfl,hJs⟩⟩
theorem zgN(F:Fence)(n:Nat)(h7:F.fn 165)(hro:F.round=none)(l Bs:Nat)(A:Option Addr)(cap:Nat)(J:List ByteArray→World→Prop)(W:World)(hBs:W.cell? ⟨Bs,0,none⟩=some (.slice A 0 cap))(h0:J [] W):
 CallsIn F n Tryz.prog 165 #[.func (.yield l) #[] #[],.pointer (some ⟨Bs,0,none⟩)] W fun e W'=>(∃v,e = .returned v)∧J [] W':=by
 refine callsIn_of_wp Tryz.func165 rfl h7 ?_ hro;simp only [Tryz.ntmps165,List.size_toArray,List.length_cons,List.length_nil,Nat.reduceAdd,Nat.reduceSub,Array.replicate_succ,Array.replicate_zero,List.push_toArray,List.append_toArray,List.nil_append,List.cons_append];gi_wp2;gi_loopw [7] (fun i wr=>i = .int .i64 0∧J [] wr) (fun _ _=>0)
 case atStart=>exact⟨rfl,h0⟩
 case round =>
  obtain⟨rfl,hJs⟩:=hrel;gi_wp2;go_end0;exact⟨⟨_,rfl⟩,hJs⟩
theorem zp2(F:Fence)(n:Nat)(h5:F.fn 147)(hro:F.round=none)(a:Option Addr)(len cap:Nat)(w:World):
 CallsIn F n Tryz.prog 147 #[.slice a len cap] w fun e w'=>e = .returned (.func (.func 165) #[] #[.pointer (some ⟨w.heap.size,0,none⟩)])∧w'=w.alloc (.cells #[.slice a len cap] 70):=by
 refine callsIn_of_wp Tryz.func147 rfl h5 ?_ hro;simp only [Tryz.ntmps147,List.size_toArray,List.length_cons,List.length_nil,Nat.reduceAdd,Nat.reduceSub,Array.replicate_succ,Array.replicate_zero,List.push_toArray,List.append_toArray,List.nil_append,List.cons_append];gi_wp2;go_ret;exact⟨rfl,rfl⟩
theorem zk7(F:Fence)(n:Nat)(h7:F.fn 165)(hro:F.round=none)(hn:1≤n)(Bs n₀:Nat)(A:Option Addr)(cap:Nat)(N:List ByteArray)(hreach:N.length*16≤140737488351232)(w:World)(hBs:Bs<w.heap.size)
 (hc:w.cell? ⟨Bs,0,none⟩=some (.slice A N.length cap)) (hI:ziU w A N) (hA:∀a,A=some a→0<N.length→a.block<n₀):
 SeqStopsK F n Tryz.prog 165 #[.pointer (some ⟨Bs,0,none⟩)] (fun x:ByteArray=>#[Value.string x]) (Below n₀) (fun ys=>ys=N) (fun pre=>pre <+: N) N.length w:=fun l J Jx W hW _ _ hY h0=>by
 have hc':=(hW.cell (p:=⟨Bs,0,none⟩) hBs).trans hc
 have hI':=hI.keep hW
 by_cases hz:0<N.length
 ·obtain⟨a,rfl,-⟩:=hI' 0 N[0] (List.getElem?_eq_getElem hz)
  have hcs:∀j,(h:j<N.length)→W.cell? (a.add j)=some (.string N[j]):=fun j h=>by
   obtain⟨a2,e,c⟩:=hI' j N[j] (List.getElem?_eq_getElem h);injection e with e;subst e;exact c
  exact znE F n h7 hro hn l Bs n₀ a N.length cap N rfl hreach (hA a rfl hz) J Jx hY W hc' hcs h0
 ·have:N = []:=List.eq_nil_of_length_eq_zero (by omega)
  subst this;exact(zgN F n h7 hro l Bs A cap J W hc' h0).mono fun e W' ⟨he,hj⟩=>⟨he,.inl ⟨_,rfl,hj⟩⟩
end Go.Proofs.YtkfgabdnppmglaaGreatDoor
namespace Go.Proofs.YtkfgabdnppmglaaGreatDoor
open Go.RowKit Go.Shelf Go.Wk Go.Sort
attribute [local go_sem] Oper.semAt_some
theorem zkE(F:Fence)(n:Nat)(h3:F.fn 176)(hro:F.round=none)(hn:3≤n)(gf:Nat)(lb:Array Value)(hFg:F.fn gf)(eg:∀args w,(callFunc gf args).run Tryz.prog w = .ok (.enter gf args) w)
 (n₀:Nat) (N:List ByteArray) (hreach:N.length*16≤140737488351232) (w:World) (hn₀:n₀≤w.heap.size) (hseq:SeqStopsK F (n-1) Tryz.prog gf lb (fun x:ByteArray=>#[Value.string x]) (Below n₀) (fun ys=>ys=N) (fun pre=>pre <+: N) N.length w):
 CallsIn F n Tryz.prog 176 #[.slice none 0 0,.func (.func gf) #[] lb] w fun e w'=>∃v,e = .returned v∧w'.ownsRow w.heap.size 9 1 v N.length (N.map Value.string)∧(v = .slice none 0 0↔N = [])∧Below w.heap.size w w':=by
 have h1:1≤n:=by omega
 obtain⟨i0,hi,hz0,hz1,hz2⟩:=info_parts zdk;refine callsIn_of_wp_marks Tryz.func176 rfl h3 ?_ hro;simp only [Tryz.ntmps176,List.size_toArray,List.length_cons,List.length_nil,Nat.reduceAdd,Nat.reduceSub,Array.replicate_succ,Array.replicate_zero,List.push_toArray,List.append_toArray,List.nil_append,List.cons_append];gi_wp2;have bO:=Boxed.new w 70 (.slice none 0 0);have hB0:Below w.heap.size w (w.alloc (.cells #[.slice none 0 0] 70)):=(Below.refl _ w).alloc (Nat.le_refl _) _;refine wpIn_rangeFunc_ownG hro h1 (gf:=gf) (lb:=lb) rfl hFg eg hseq belowK_t (belowK_b (by simp;omega)) hB0 (fun _=>rfl)
  (fun pre W=>(∃v,Boxed W w.heap.size 70 v∧W.ownsRow w.heap.size 9 1 v pre.length (pre.map Value.string)∧(v = .slice none 0 0↔pre = []))∧Below w.heap.size w W)
  (fun _ _ _=>False)
  (OwnFrom.and (Own.from (holdsRow_own w.heap.size w.heap.size 70 9 1 (fun pre:List ByteArray=>pre.length) (fun pre=>pre.map Value.string) (fun pre v=>v = .slice none 0 0↔pre = [])) _) (ownFrom_below (Nat.le_refl _) (by simp)))
  (fun _ _ _ _ _ hs _ _=>hs)
  ⟨⟨_,bO,World.ownsRow_nil _ _ _ _,by simp⟩,hB0⟩
  (fun x => { tmps:=#[.slice none 0 0,.func (.func gf) #[] lb,.pointer (some ⟨w.heap.size,0,none⟩),undef,.slice none 0 0,.string x,.func (.func gf) #[] lb,.string x,undef,undef,undef,undef,undef],defers := [] }) ?assign ?zuZ ?done ?stop
 case assign =>
  intro l x W K hK;gi_wp2;exact hK
 case zuZ =>
  rintro l pre x W ⟨⟨v,hv,hrow,hnil⟩,hB⟩ hlt;have hc:=hv.cell;gi_wp2_with (gi_at_builtin;refine wpListIn_append_own _ rfl _ _ 70 rfl w.heap.size 9 i0 (.string ⟨#[]⟩) 1 16 Tryz.underlying70 hi hz0 hz1 hz2 rfl (by decide) _ _ _ rfl (hrow.alloc _) ⟨W.heap.size,0,none⟩ 1 1 [.string x] rfl rfl (cell_one_new _ _ _) (by simp [Value.oneCell']) (by unfold maxLen;omega) (by omega) (by have:=hB.size;simp;omega) ?_;intro v' w1 hown' hgrow _;obtain⟨g',cap',rfl⟩:=ownsRow_succ hown';obtain⟨hv1,hv2,hr2,hk2,hb2⟩:=hv.appended (by decide) hrow hB.size (Nat.le_refl _) hown' hgrow;have hc1:=hv1.cell;have hf1:=hv1.frozen);exact⟨hk2.from _,hb2.mono hn₀,⟨_,hv2,by simpa using hr2,by simp⟩,hB.trans hb2⟩
 case done =>
  rintro D ys W hD rfl ⟨⟨v,hv,hrow,hnil⟩,hB⟩ hK;have hc:=hv.cell;gi_wp2;refine⟨by simp,.inl ⟨_,_,rfl,run_takeDeferred hK,?_⟩⟩;exact⟨_,results_tmp rfl _ _ _,v,rfl,ownsRow_putObj hrow _ hK rfl,hnil,hB.trans (belowK_b (w:=w) (Nat.le_refl _) W D _ _ (by simp at hD;omega) hK rfl rfl)⟩
 case stop =>
  rintro D c pre W _ _ h _;exact h.elim
theorem zny(F:Fence)(n:Nat)(h8:F.fn 163)(h3:F.fn 176)(hro:F.round=none)(hn:4≤n)(gf:Nat)(lb:Array Value)(hFg:F.fn gf)(eg:∀args w,(callFunc gf args).run Tryz.prog w = .ok (.enter gf args) w)
 (n₀:Nat) (N:List ByteArray) (hreach:N.length*16≤140737488351232) (w:World) (hn₀:n₀≤w.heap.size) (hseq:SeqStopsK F (n-1-1) Tryz.prog gf lb (fun x:ByteArray=>#[Value.string x]) (Below n₀) (fun ys=>ys=N) (fun pre=>pre <+: N) N.length w):
 CallsIn F n Tryz.prog 163 #[.func (.func gf) #[] lb] w fun e w'=>∃v,e = .returned v∧w'.ownsRow w.heap.size 9 1 v N.length (N.map Value.string)∧(v = .slice none 0 0↔N = [])∧Below w.heap.size w w':=by
 have h1:1≤n:=by omega
 refine callsIn_of_wp Tryz.func163 rfl h8 ?_ hro;simp only [Tryz.ntmps163,List.size_toArray,List.length_cons,List.length_nil,Nat.reduceAdd,Nat.reduceSub,Array.replicate_succ,Array.replicate_zero,List.push_toArray,List.append_toArray,List.nil_append,List.cons_append];gi_wp2_with (gi_at_call 176;refine(zkE F (n-1) h3 hro (by omega) gf lb hFg eg n₀ N hreach _ hn₀ hseq).mono ?_;rintro e w1 ⟨v,rfl,hrow,hnil,hb⟩);go_ret;exact⟨v,rfl,hrow,hnil,hb⟩
def zhN(N:List ByteArray):List (List UInt8):=(N.map fun x=>x.data.toList).mergeSort fun x y=>decide (x≤y)
theorem zli(N:List ByteArray):(zhN N).length=N.length:=by simp [zhN]
theorem zqx(N:List ByteArray):(N.map fun x=>x.data.toList).map encStr=N.map Value.string:=by
 rw [List.map_map];apply List.map_congr_left;intro x _;simp [encStr]
theorem zmB(Bs n₀:Nat)(A:Option Addr)(cap:Nat)(N:List ByteArray)(hreach:N.length*16≤140737488351232)(w:World)(hBs:Bs<w.heap.size)(hn₀:n₀≤w.heap.size)
 (hc:w.cell? ⟨Bs,0,none⟩=some (.slice A N.length cap)) (hI:ziU w A N) (hA:∀a,A=some a→0<N.length→a.block<n₀):
 Calls Tryz.prog 146 #[.func (.func 165) #[] #[.pointer (some ⟨Bs,0,none⟩)]] w fun e w'=>∃v,e = .returned v∧w'.ownsRow w.heap.size 9 1 v N.length ((zhN N).map encStr)∧Below w.heap.size w w':=by
 have hC:=callsIn_wide.1 (zny Fence.wide 9 trivial trivial rfl (by omega) 165 #[.pointer (some ⟨Bs,0,none⟩)] trivial (enters_of Tryz.func165 (by kernel_rfl) rfl) n₀ N hreach w hn₀ (zk7 Fence.wide 7 trivial rfl (by omega) Bs n₀ A cap N hreach w hBs hc hI hA));have HC:=hi9 hC;have HR:=hi9 hreach;clear hC hI hA hc hreach;go_enter Tryz.func146,Tryz.ntmps146;go_wp2_with fail;refine(HC.out).mono ?_;rintro e w1 ⟨v,rfl,hrow,hnil,hb⟩;rcases hrow.2 with ⟨rfl,hz⟩|⟨gb,cp,cur,rfl,hbase,hgb,r1,r2,r3,r4⟩
 ·have hss:N = []:=List.eq_nil_of_length_eq_zero hz;subst hss;go_wp2_with fail;refine(Tryz.slices_Sort_string_none none 0 w1).mono ?_;rintro e w2 ⟨rfl,rfl⟩;go_wp2_with fail;go_ret;exact⟨_,rfl,by simpa [zhN] using hrow,hb⟩
 ·have r5:=r4;rw [←zqx] at r5;have hlen:(N.map fun x=>x.data.toList).length=N.length:=List.length_map _;have hH:Holds encStr w1 gb 0 (N.map fun x=>x.data.toList).toArray:=holds_of_block hgb (by rw [hlen];simpa using r5);have hgl:gb<w1.heap.size:=(Array.getElem?_eq_some_iff.1 hgb).1;have cS:=hi9 (Tryz.slices_Sort_string gb 0 cp _ w1 hH hgl (by rw [hlen];have:=HR.out;omega));rw [hlen] at cS;go_wp2_with fail;refine(cS.out).mono ?_;rintro e w2 ⟨rfl,nn,os,rfl⟩;go_wp2_with fail;go_ret;refine⟨_,rfl,?_,hb.grown (grownBy_sorted _) hb.size (fun j hj=>by cases hj;exact hbase)⟩;have:=ownsRow_sorted (w:=w1) (n:=nn) (os:=os) (ss:=N.map fun x=>x.data.toList) (ts:=zhN N) (by rw [zli,hlen]) hbase hgb (by rw [hlen];exact r1) r2 r3;rw [hlen] at this;exact this
end Go.Proofs.YtkfgabdnppmglaaGreatDoor
