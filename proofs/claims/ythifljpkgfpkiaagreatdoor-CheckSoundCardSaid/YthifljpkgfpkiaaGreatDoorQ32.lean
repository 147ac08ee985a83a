/-
  tree: parts, Reserved, variable, shaped; the reference's Reserved, Parts, ..
-/
import Derived.Test.YthifljpkgfpkiaaGreatDoorQ12
import Derived.Test.YthifljpkgfpkiaaGreatDoorQ29
set_option maxRecDepth 100000
set_option maxHeartbeats 8000000
namespace Go.Proofs.YthifljpkgfpkiaaGreatDoor
open Go.RowKit Go.Wk Go.Sort
theorem TK(o:Int):(o=1\/o=2\/o=3\/o=4\/o=5\/o=6\/o=7\/o=8\/o=9\/o=10\/o=11\/o=12\/o=13\/o=14\/o=15\/o=16\/o=17\/o=18\/o=19\/o=20\/o=21\/o=22\/o=23\/o=24\/o=25\/o=26\/o=27)\/o<=0\/28<=o:=by omega
theorem NY{o:Int}(h:o<=0\/28<=o):(o==1)=false/\(o==2)=false/\(o==3)=false/\(o==4)=false/\(o==5)=false/\(o==6)=false/\(o==7)=false/\(o==8)=false/\(o==9)=false/\(o==10)=false/\(o==11)=false/\(o==12)=false/\(o==13)=false/\(o==14)=false/\(o==15)=false/\(o==16)=false/\(o==17)=false/\(o==18)=false/\(o==19)=false/\(o==20)=false/\(o==21)=false/\(o==22)=false/\(o==23)=false/\(o==24)=false/\(o==25)=false/\(o==26)=false/\(o==27)=false:=by
 refine⟨?_,?_,?_,?_,?_,?_,?_,?_,?_,?_,?_,?_,?_,?_,?_,?_,?_,?_,?_,?_,?_,?_,?_,?_,?_,?_,?_⟩<;>(rw [beq_eq_false_iff_ne];omega)
theorem om{o:Int}(h:o<=0\/28<=o)(n:Int)(s t:ByteArray):zG ⟨o,n,s,t⟩= -1:=by
 unfold zG;dsimp only;rw [if_neg (by omega),if_neg (by omega),if_neg (by omega),if_neg (by omega),if_neg (by omega)]
theorem kO(x:Nd)(w:World):Calls Tryz.prog 82 #[ndV x] w λe w'=>e = .returned (.int .i64 (zG x))/\Below w.heap.size w w':=by
 obtain⟨o,n,s,t⟩:=x;unfold ndV;dsimp only;rcases TK o with (rfl|rfl|rfl|rfl|rfl|rfl|rfl|rfl|rfl|rfl|rfl|rfl|rfl|rfl|rfl|rfl|rfl|rfl|rfl|rfl|rfl|rfl|rfl|rfl|rfl|rfl|rfl)|h
 all_goals try
  go_enter Tryz.func82,Tryz.ntmps82
  go_wp2_with fail
  go_ret
  exact⟨by rfl,za _ _⟩
 have hp:=O (om h n s t);obtain⟨g1,g2,g3,g4,g5,g6,g7,g8,g9,g10,g11,g12,g13,g14,g15,g16,g17,g18,g19,g20,g21,g22,g23,g24,g25,g26,g27⟩:=NY h;rcases h with h|h
 all_goals
  go_enter Tryz.func82,Tryz.ntmps82;go_wp2_with fail;go_ret;exact⟨by rw [hp.o];rfl,za _ _⟩
theorem wy(s:ByteArray)(w:World):Calls Tryz.prog 155 #[.string s] w λe w'=>e = .returned (.bool (jv s))/\w=w':=by
 by_cases h0:s.toList = [105,102]
 ·have HR:=O (show jv s=true by rw [ByteArray.toList_eq] at h0;unfold jv;rw [h0];rfl);have f0:(s.toList == [105,102])=true:=beq_iff_eq.2 h0;clear h0;go_enter Tryz.func155,Tryz.ntmps155;go_wp2_with fail;go_ret;exact⟨by rw [HR.o];rfl,rfl⟩
 have f0:(s.toList == [105,102])=false:=beq_eq_false_iff_ne.2 h0;by_cases h1:s.toList = [116,104,101,110]
 ·have HR:=O (show jv s=true by rw [ByteArray.toList_eq] at h1;unfold jv;rw [h1];rfl);have f1:(s.toList == [116,104,101,110])=true:=beq_iff_eq.2 h1;clear h1 h0;go_enter Tryz.func155,Tryz.ntmps155;go_wp2_with fail;go_ret;exact⟨by rw [HR.o];rfl,rfl⟩
 have f1:(s.toList == [116,104,101,110])=false:=beq_eq_false_iff_ne.2 h1;by_cases h2:s.toList = [101,108,115,101]
 ·have HR:=O (show jv s=true by rw [ByteArray.toList_eq] at h2;unfold jv;rw [h2];rfl);have f2:(s.toList == [101,108,115,101])=true:=beq_iff_eq.2 h2;clear h2 h0 h1;go_enter Tryz.func155,Tryz.ntmps155;go_wp2_with fail;go_ret;exact⟨by rw [HR.o];rfl,rfl⟩
 have f2:(s.toList == [101,108,115,101])=false:=beq_eq_false_iff_ne.2 h2;by_cases h3:s.toList = [116,114,117,101]
 ·have HR:=O (show jv s=true by rw [ByteArray.toList_eq] at h3;unfold jv;rw [h3];rfl);have f3:(s.toList == [116,114,117,101])=true:=beq_iff_eq.2 h3;clear h3 h0 h1 h2;go_enter Tryz.func155,Tryz.ntmps155;go_wp2_with fail;go_ret;exact⟨by rw [HR.o];rfl,rfl⟩
 have f3:(s.toList == [116,114,117,101])=false:=beq_eq_false_iff_ne.2 h3;by_cases h4:s.toList = [102,97,108,115,101]
 ·have HR:=O (show jv s=true by rw [ByteArray.toList_eq] at h4;unfold jv;rw [h4];rfl);have f4:(s.toList == [102,97,108,115,101])=true:=beq_iff_eq.2 h4;clear h4 h0 h1 h2 h3;go_enter Tryz.func155,Tryz.ntmps155;go_wp2_with fail;go_ret;exact⟨by rw [HR.o];rfl,rfl⟩
 have f4:(s.toList == [102,97,108,115,101])=false:=beq_eq_false_iff_ne.2 h4;by_cases h5:s.toList = [105,110]
 ·have HR:=O (show jv s=true by rw [ByteArray.toList_eq] at h5;unfold jv;rw [h5];rfl);have f5:(s.toList == [105,110])=true:=beq_iff_eq.2 h5;clear h5 h0 h1 h2 h3 h4;go_enter Tryz.func155,Tryz.ntmps155;go_wp2_with fail;go_ret;exact⟨by rw [HR.o];rfl,rfl⟩
 have f5:(s.toList == [105,110])=false:=beq_eq_false_iff_ne.2 h5;by_cases h6:s.toList = [104,97,115]
 ·have HR:=O (show jv s=true by rw [ByteArray.toList_eq] at h6;unfold jv;rw [h6];rfl);have f6:(s.toList == [104,97,115])=true:=beq_iff_eq.2 h6;clear h6 h0 h1 h2 h3 h4 h5;go_enter Tryz.func155,Tryz.ntmps155;go_wp2_with fail;go_ret;exact⟨by rw [HR.o];rfl,rfl⟩
 have f6:(s.toList == [104,97,115])=false:=beq_eq_false_iff_ne.2 h6;by_cases h7:s.toList = [108,105,107,101]
 ·have HR:=O (show jv s=true by rw [ByteArray.toList_eq] at h7;unfold jv;rw [h7];rfl);have f7:(s.toList == [108,105,107,101])=true:=beq_iff_eq.2 h7;clear h7 h0 h1 h2 h3 h4 h5 h6;go_enter Tryz.func155,Tryz.ntmps155;go_wp2_with fail;go_ret;exact⟨by rw [HR.o];rfl,rfl⟩
 have f7:(s.toList == [108,105,107,101])=false:=beq_eq_false_iff_ne.2 h7;by_cases h8:s.toList = [105,115]
 ·have HR:=O (show jv s=true by rw [ByteArray.toList_eq] at h8;unfold jv;rw [h8];rfl);have f8:(s.toList == [105,115])=true:=beq_iff_eq.2 h8;clear h8 h0 h1 h2 h3 h4 h5 h6 h7;go_enter Tryz.func155,Tryz.ntmps155;go_wp2_with fail;go_ret;exact⟨by rw [HR.o];rfl,rfl⟩
 have f8:(s.toList == [105,115])=false:=beq_eq_false_iff_ne.2 h8;have HR:=O (show jv s=false by
  rw [ByteArray.toList_eq] at h0 h1 h2 h3 h4 h5 h6 h7 h8
  unfold jv Xz
  simp only [List.contains_cons,List.contains_nil,Bool.or_false,Bool.or_eq_false_iff,beq_eq_false_iff_ne]
  exact⟨h0,h1,h2,h3,h4,h5,h6,h7,h8⟩)
 clear h0 h1 h2 h3 h4 h5 h6 h7 h8;go_enter Tryz.func155,Tryz.ntmps155;go_wp2_with fail;go_ret;exact⟨by rw [HR.o];rfl,rfl⟩
theorem ya(A:Option Addr)(n c:Nat)(P:List Nd)(p:Nat)(f:Bool)(x:Ex)(w:World)(h:Ns w A n c P)(hx:XAt P p f x):
 Calls Tryz.prog 83 #[.slice A n c,.int .i64 p] w λe w'=>e = .returned (.int .i64 ((p+x.flat.length:Nat):Int))/\Below w.heap.size w w':=by
 have hm:=h.max;unfold maxLen at hm;have Ua:=O h;have fm:=O h.len;have MV:=O hx.le;have HO:=O (show sc P p (.cons x .nil) from(by obtain⟨r,e⟩:=hx.drop;exact sc.start hx.valid e));have CP:=O (λy w=>kO y w);unfold ndV at CP;have HT:=O (show p+(Exs.cons x .nil).flat.length=p+x.flat.length by simp [Exs.flat]);have hple:p+x.flat.length<=n:=by rw [fm.o];exact MV.o
 generalize p+x.flat.length=T at *;clear h hx;go_enter Tryz.func83,Tryz.ntmps83;go_wp2_with fail;go_loopw [1,5] (λu l wr=>∃(q m:Nat) (L:Exs),u = .int .i64 q/\l = .int .i64 m/\Hid (m=L.len)/\Hid (sc P q L)/\Hid (q+L.flat.length=T)/\Hid (Below w.heap.size w wr)) (λu _ _=>n+1-(intOf u).toNat)
 case atStart=>exact⟨p,1,.cons x .nil,rfl,rfl,O rfl,HO,HT,O (Below.refl _ _)⟩
 case round =>
  obtain⟨q,m,L,rfl,rfl,hM,hO,hT,hB⟩:=hrel;by_cases hl:0<m
  ·obtain⟨y,ps,r,rfl⟩:=hO.o.left (by rw [<-hM.o];exact hl);obtain⟨hy,FR,hlen,Q8⟩:=hO.o.step;have RF:q<P.length:=(List.getElem?_eq_some_iff.1 hy).1;have XT:q<n:=by rw [fm.o];exact RF
   obtain⟨a,rfl,d0,d1,d2,d3⟩:=(Ua.o.keep hB.o).at_ q y hy;have T9:=O FR;have v7:=O (Q8.trans hT.o);have hbl:=dn (ps.app r);have UJ:(Exs.cons (.node y ps) r).len=r.len+1:=rfl;have UN:=hM.o;have Fw:(m:Int)+zG y=((ps.app r).len:Int)+1:=by omega
   have oI:(ps.app r).len+1<=n:=by have:=v7.o;omega
   have CY:=O (λw=>CP.o y w);have f0:decide (0<m)=true:=decide_eq_true hl;obtain⟨m2,sN⟩:∃m2,m2=(ps.app r).len:=⟨_,rfl⟩
   have M7:=O sN;rw [<-sN] at Fw oI;generalize (ps.app r)=L2 at *;generalize zG y=k at *;clear hO hT hy FR Q8 hlen hl hbl UJ UN sN;go_wp2_with fail;refine(CY.o _).mono ?_;rintro e w1 ⟨rfl,b1⟩;have B1:=bh hB b1;clear b1 hB d0 d1 d2 d3;go_wp2_with fail;go_roundw
   case rel=>exact⟨q+1,m2,L2,by go_num,by go_num,M7,T9,v7,B1⟩
   case measure=>simp [intOf];omega
  ·have hL:L = .nil:=by
    have:=hM.o
    cases L with
    | nil=>rfl
    | cons x r=>simp only [Exs.len] at this;omega
   have HR:=O (show q=T by have:=hT.o;rw [hL] at this;simpa [Exs.flat] using this);have Wn:m=0:=by omega
   subst Wn;clear hL hl;go_wp2_with fail;go_ret;exact⟨by rw [<-HR.o];rfl,hB.o⟩
theorem AV{w:World}{a:Addr}{n c:Nat}{P:List Nd}(h:Ns w (some a) n c P)(h0:0<P.length):a.block<w.heap.size:=h.at_.lt h0 a rfl
theorem iJ(A:Option Addr)(n c:Nat)(x:Ex)(f:Bool)(w:World)(h:Ns w A n c x.flat)(hn:n<=4000)(hv:x.valid f):
 Calls Tryz.prog 48 #[.slice A n c] w λe w'=>∃A' c' V,e = .returned (.tuple #[ndV x.head,.slice A' V.length c'])/\V.length<=c'/\jM w' A' V/\V.map Sl.P=x.parts.list.map Ex.flat/\Below w.heap.size w w':=by
 obtain⟨i0,hi,hz0,hz1,hz2⟩:=info_parts nL;have hx:=XAt.all hv;obtain⟨a,rfl,d0,d1,d2,d3⟩:=h.at_ 0 _ hx.head;have hab:=AV h (jq x);rw [show a.add (0*4)=a from rfl] at d0 d1 d2 d3;have HN:=O h;have HLn:=O h.len;have HC:=O h.cap;have hn1:1<=n:=by rw [h.len];exact jq x
 have HXS:=O hx.parts;have HTOT:=O (show 1+x.parts.flat.length=n by rw [h.len];cases x;simp [Ex.flat,Ex.parts];omega);have HY:=O (show Nd4 w a x.head from⟨d0,d1,d2,d3⟩);have HMAP:=O (show x.parts.list.map Ex.flat=([]:List Sl).map Sl.P ++ x.parts.list.map Ex.flat from rfl);generalize jG x.head=cc at *;generalize x.flat=P at *;generalize x.parts=ps at *;generalize x.head=y at *;clear h hx hv d0 d1 d2 d3;have B0:=O (za w (.cells #[.int .i64 0,.int .i64 0,.string ⟨#[]⟩,.string ⟨#[]⟩] 47));have R0:=O (fq w (.int .i64 0) (.int .i64 0) (.string ⟨#[]⟩) (.string ⟨#[]⟩) 47);go_enter Tryz.func48,Tryz.ntmps48;go_wp2_with fail;go_loopw [4,5] (λv u wr=>∃(q:Nat) (V:List Sl) (R:Exs),u = .int .i64 q/\1<=q/\q<=n/\V.length+1<=q/\Hid (ps.list.map Ex.flat=V.map Sl.P ++ R.list.map Ex.flat)/\Hid (mT P q cc R)/\Hid (q+R.flat.length=n)/\Hid (zU wr (w.heap.size+1) v V)/\Hid (Bx4 wr w.heap.size (.int .i64 0) (.int .i64 0) (.string ⟨#[]⟩) (.string ⟨#[]⟩))/\Hid (∀r∈V,bj r (some w.heap.size))/\Hid (Below w.heap.size w wr)) (λ_ u _=>n-(intOf u).toNat)
 case atStart=>exact⟨1,[],ps,rfl,Nat.le_refl _,hn1,Nat.le_refl _,HMAP,HXS,HTOT,O (zU.nil _ _),R0,O (λr hr=>nomatch hr),B0⟩
 case round =>
  clear HXS HTOT HMAP R0 B0;obtain⟨q,V,R,rfl,hq1,hq,hVq,hE,MB,hT,hO,hR,hAp,hB⟩:=hrel;by_cases hlt:q<n
  ·obtain⟨x1,r,rfl⟩:∃x1 r,R = .cons x1 r:=by
    cases R with
    | nil=>have:=hT.o;simp [Exs.flat] at this;omega
    | cons x1 r=>exact⟨x1,r,rfl⟩
   obtain⟨h1,h2⟩:=MB.o.head;have CS:=O (ya (some a) n c P q cc x1 wr (HN.o.keep hB.o) h1);have Mz:=O h1.seg;have cg:=jq x1;have oJ:=O h2;have v7:=O (show q+x1.flat.length+r.flat.length=n by have:=hT.o;simp only [Exs.flat,List.length_append] at this;omega);have hle:q+x1.flat.length<=n:=by have:=v7.o;omega
   have hcn:=HC.o;have ay:=O (show ps.list.map Ex.flat=V.map Sl.P ++(x1.flat :: r.list.map Ex.flat) from hE.o);clear hE MB hT h1 h2;go_wp2_with fail;refine CS.o.mono ?_;rintro e w2 ⟨rfl,b2⟩;have B2:=bh hB b2;have O2:=O (hO.o.keep b2);have R2:=O (hR.o.keep b2);have hsz2:=B2.o.size;have hsz3:w.heap.size<w2.heap.size:=block_lt_of_cell R2.o.c0;clear b2 hB hO hR CS;have NS:=tJ (HN.o.keep B2.o) (i:=q) (j:=q+x1.flat.length) (by omega) hle;rw [Mz.o,show q+x1.flat.length-q=x1.flat.length by omega] at NS;have N2:=O (show Ns w2 (⟨some (a.add (q*4)),x1.flat.length,c-q,x1.flat⟩:Sl).A _ _ _ from NS);have A2p:Hid (bj ⟨some (a.add (q*4)),x1.flat.length,c-q,x1.flat⟩ u4.ownBlock):=by
    intro h0 a' e' q';have h1:=jk O2.o.own a'.block q';injection e' with e';subst e';rw [ax] at h1;omega
   clear NS Mz;generalize x1.flat=F1 at *;obtain⟨l1,BP⟩:∃l1,l1=F1.length:=⟨_,rfl⟩
   rw [<-BP] at cg v7 hle N2 A2p oJ ⊢;clear BP;go_wp2_with (at_builtin;refine wpList_append_own_at _ rfl _ _ 110 rfl (w.heap.size+1) 29 i0 _ 1 24 Tryz.underlying110 hi hz0 hz1 hz2 rfl (by decide) _ V.length (V.map Sl.v) rfl (O2.o.own.alloc _) ⟨_,0,none⟩ 1 1 [.slice (some (a.add (q*4))) l1 (c-q)] rfl rfl (cell_one_new _ _ _) (by intro u hu;simp only [List.mem_cons,List.not_mem_nil,or_false] at hu;subst hu;rfl) ?c1 ?c2 ?c3 ?_)
   case c1=>unfold maxLen;omega
   case c2=>omega
   case c3=>simp;omega
   intro v1 w4 hown hgrow _ hat;have B4:=O ((B2.o.alloc B2.o.size _).grown hgrow (by simp;omega) (λg hg=>by have:=jk O2.o.own g hg;omega));have R4:=O ((R2.o.keep (za w2 _)).but hgrow (sk O2.o.own (by omega)));have O4:=O (O2.o.snoc (r:=⟨some (a.add (q*4)),l1,c-q,F1⟩) N2.o A2p.o hown hgrow (by simpa using hat));have QX:=O (ay.o.trans (show _=(V ++ [(⟨some (a.add (q*4)),l1,c-q,F1⟩:Sl)]).map Sl.P ++ r.list.map Ex.flat by simp));have HAP4:=O (show∀r∈V ++ [(⟨some (a.add (q*4)),l1,c-q,F1⟩:Sl)],bj r (some w.heap.size) from λr hr=>by
    rcases List.mem_append.1 hr with h|h
    ·exact hAp.o r h
    ·rw [List.mem_singleton.1 h]
     intro _ a' e' q'
     injection e' with e'
     subst e'
     injection q' with q'
     rw [ax] at q'
     omega)
   have hl4:(V ++ [(⟨some (a.add (q*4)),l1,c-q,F1⟩:Sl)]).length+1<=q+l1:=by simp;omega
   clear hown hgrow hat O2 R2 N2 A2p ay B2;go_wp2_with fail;go_roundw
   case rel=>exact⟨q+l1,_,r,by go_num,by omega,hle,hl4,QX,oJ,v7,O4,R4,HAP4,B4⟩
   case measure=>simp [intOf];omega
  ·obtain rfl:R = .nil:=by
    cases R with
    | nil=>rfl
    | cons x1 r=>have:=hT.o;have:=jq x1;simp only [Exs.flat,List.length_append] at *;omega
   have HF:=O (show V.map Sl.P=ps.list.map Ex.flat by rw [hE.o];simp [Exs.list]);obtain⟨A',c',hv',hc',-⟩:=hO.o.at
   subst hv';have g5:=zf (zf (zf (zl wr ⟨w.heap.size,0,none⟩ (.int .i64 y.op)) (zl _ ⟨w.heap.size,1,none⟩ (.int .i64 y.n))) (zl _ ⟨w.heap.size,2,none⟩ (.string y.s))) (zl _ ⟨w.heap.size,3,none⟩ (.string y.t));obtain⟨A5,c5,e5,-,hint⟩:=(hO.o.row g5 (lY hO.o.own (Nat.lt_succ_self _)) hAp.o).at
   injection e5 with e51 _ e52;subst e51;subst e52;have HI:=O hint;obtain⟨d0,d1,d2,d3⟩:=HY.o.keep hB.o;obtain⟨r0,r1,r2,r3,z0,z1,z2,z3⟩:=hR.o;obtain⟨y0,y1,y2,y3,-,-,-,-⟩:=hR.o.set (.int .i64 y.op) (.int .i64 y.n) (.string y.s) (.string y.t);have hn0:0<n:=by omega
   have B5:=O (nH hB.o (Nat.le_refl _) (.int .i64 y.op) (.int .i64 y.n) (.string y.s) (.string y.t));clear hint g5 hE MB hT hO hR hAp hB;go_wp2_with fail;refine bodyPost_ret (v := .tuple #[ndV y,.slice A' V.length c']) (by simp [results,Tryz.results48,go_sem,y0,y1,y2,y3,ndV]) rfl ⟨A',c',V,rfl,hc',HI.o,HF.o,B5.o⟩
end Go.Proofs.YthifljpkgfpkiaaGreatDoor
namespace Go.Wk
def nR(L:List (List Nd))(Q:List Nd):Bool:=L.any λP=>decide (zJ P Q=0)
end Go.Wk
namespace Go.Proofs.YthifljpkgfpkiaaGreatDoor
open Go.RowKit Go.Wk Go.Sort
theorem qf(A B:Option Addr)(n m c d:Nat)(P Q:List Nd)(w:World)(hn:n=P.length)(hm:m=Q.length)(hln:n<=maxLen)(IL:m<=maxLen)(hP:jL w A P)(hQ:jL w B Q):
 Calls Tryz.prog 87 #[.slice A n c,.slice B m d] w λe w'=>e = .returned (.bool (decide (zJ P Q=0)))/\Below w.heap.size w w':=by
 unfold maxLen at hln IL;have HN:=O hn;have HM:=O hm;have HP:=O hP;have HQ:=O hQ;clear hn hm hP hQ;by_cases hl:n=m
 ·subst hl;go_enter Tryz.func87,Tryz.ntmps87;go_wp2_with fail;go_loopw [5,13] (λ_ i wr=>∃k:Nat,k<=n/\i = .int .i64 k/\Hid (zJ P Q=zJ (P.drop k) (Q.drop k))/\Hid (Below w.heap.size w wr)) (λ_ i _=>n-(intOf i).toNat)
  case atStart=>exact⟨0,Nat.zero_le _,rfl,rfl,Below.refl _ _⟩
  case round =>
   obtain⟨k,hk,rfl,hE,hB⟩:=hrel;by_cases hlt:k<n
   ·have h1:k<P.length:=by rw [<-HN.o];exact hlt
    have h2:k<Q.length:=by rw [<-HM.o];exact hlt
    obtain⟨a,rfl,a1,a2,a3,a4⟩:=(HP.o.keep hB.o) k P[k] (List.getElem?_eq_getElem h1);obtain⟨b,rfl,b1,b2,b3,b4⟩:=(HQ.o.keep hB.o) k Q[k] (List.getElem?_eq_getElem h2);by_cases he:P[k]=Q[k]
    ·have HE:=O (hE.o.trans ((fD h1 h2).trans (by rw [ut he,zu])));rw [he] at a1 a2 a3 a4;generalize Q[k]=y at *;clear he hE;go_wp2_with fail;go_quiet (fail);go_wp2_with fail;go_roundw
     case rel=>exact⟨k+1,by omega,by go_num,HE,hB.o.drewN _⟩
     case measure=>simp [intOf];omega
    ·have HE:=O (fX h1 h2 he hE.o);have hne:=λw=>Gf he w;generalize P[k]=x at *;generalize Q[k]=y at *;clear he hE;go_wp2_with fail;go_quiet (fail);go_wp2_with fail;go_ret;exact⟨zM (decide_eq_false HE.o).symm,hB.o.drewN _⟩
   ·have HE:=O (hE.o.trans (eP (by rw [<-HN.o];omega) (by rw [<-HM.o];omega)));clear hE;go_wp2_with fail;go_ret;exact⟨zM (decide_eq_true HE.o).symm,hB.o⟩
 ·have HE:=O (show zJ P Q≠0 from λh=>hl (by rw [HN.o,HM.o,(jg.zero _ _).1 h]));have h3:(n != m)=true:=by rw [bne_iff_ne];exact hl
  clear hl;go_enter Tryz.func87,Tryz.ntmps87;go_wp2_with fail;go_ret;exact⟨zM (decide_eq_false HE.o).symm,Below.refl _ _⟩
theorem Nx(A B:Option Addr)(n m c d b:Nat)(P Q:List Nd)(w:World)(h:Ns w A n c P)(k:Ns w B m d Q)(hb:w.cell? ⟨b,0,none⟩=some (.slice B m d)):
 Calls Tryz.prog 163 #[.slice A n c,.pointer (some ⟨b,0,none⟩)] w λe w'=>e = .returned (.bool (decide (zJ P Q=0)))/\Below w.heap.size w w':=by
 have E:=O (qf A B n m c d P Q w h.len k.len h.max k.max h.at_ k.at_);clear h k;go_enter Tryz.func163,Tryz.ntmps163;go_wp2_with fail;refine(E.o).mono ?_;rintro e w1 ⟨rfl,b1⟩;go_wp2_with fail;go_ret;exact⟨rfl,b1⟩
def mM(b:Bool)(w:World)(e:Ending)(w':World):Prop:=∃i:Int,e = .returned (.int .i64 i)/\decide (0<=i)=b/\Below w.heap.size w w'
theorem sX{V:List Sl}{p:List Nd->Bool}{k:Nat}(h:k<V.length):(V.drop k).any (λr=>p r.P)=(p V[k].P ||(V.drop (k+1)).any λr=>p r.P):=by
 rw [List.drop_eq_getElem_cons h];rfl
theorem Ox(A:Option Addr)(n c:Nat)(V:List Sl)(p:List Nd->Bool)(b:Nat)(w:World)(hn:n=V.length)(hm:n<=maxLen)(hV:jM w A V)
 (C:Hid (∀(r:Sl) (w':World),Below w.heap.size w w'->Ns w' r.A r.n r.c r.P->Calls Tryz.prog 163 #[.slice r.A r.n r.c,.pointer (some ⟨b,0,none⟩)] w' λe w''=>e = .returned (.bool (p r.P))/\Below w'.heap.size w' w'')):
 Calls Tryz.prog 164 #[.slice A n c,(.func (.func 163) #[] #[.pointer (some ⟨b,0,none⟩)])] w (mM (V.any λr=>p r.P) w):=by
 unfold maxLen at hm;have HV:=O hV;have HN:=O hn;clear hV hn;go_enter Tryz.func164,Tryz.ntmps164;go_wp2_with fail;go_loopw [5,8] (λ_ i wr=>∃k:Nat,k<=n/\i = .int .i64 k/\Hid ((V.any λr=>p r.P)=(V.drop k).any λr=>p r.P)/\Hid (Below w.heap.size w wr)) (λ_ i _=>n-(intOf i).toNat)
 case atStart=>exact⟨0,Nat.zero_le _,rfl,rfl,Below.refl _ _⟩
 case round =>
  obtain⟨k,hk,rfl,hE,hB⟩:=hrel;by_cases hlt:k<n
  ·have h1:k<V.length:=by rw [<-HN.o];exact hlt
   obtain⟨a,rfl,q,hs⟩:=(HV.o.keep hB.o).at h1;have HA:=O (hE.o.trans (sX h1));have Cr:=O (C.o V[k] wr hB.o hs);generalize V[k]=r at *;clear hE hs;rcases hp:p r.P with _|_
   ·rw [hp] at Cr HA;clear hp;go_wp2_with fail;refine(Cr.o).mono ?_;rintro e w1 ⟨rfl,b1⟩;go_wp2_with fail;go_roundw
    case rel=>exact⟨k+1,by omega,by go_num,HA,bh hB b1⟩
    case measure=>simp [intOf];omega
   ·rw [hp] at Cr HA;clear hp;go_wp2_with fail;refine(Cr.o).mono ?_;rintro e w1 ⟨rfl,b1⟩;go_wp2_with fail;go_ret;exact⟨_,rfl,by rw [HA.o];simp,(bh hB b1).o⟩
  ·have HA:=O (hE.o.trans (by rw [List.drop_of_length_le (by rw [<-HN.o];omega)];rfl:_=false));clear hE;go_wp2_with fail;go_ret;exact⟨_,rfl,by rw [HA.o];rfl,hB.o⟩
theorem Dh(A:Option Addr)(n c:Nat)(V:List Sl)(p:List Nd->Bool)(b:Nat)(w:World)(hn:n=V.length)(hm:n<=maxLen)(hV:jM w A V)
 (C:Hid (∀(r:Sl) (w':World),Below w.heap.size w w'->Ns w' r.A r.n r.c r.P->Calls Tryz.prog 163 #[.slice r.A r.n r.c,.pointer (some ⟨b,0,none⟩)] w' λe w''=>e = .returned (.bool (p r.P))/\Below w'.heap.size w' w'')):
 Calls Tryz.prog 140 #[.slice A n c,(.func (.func 163) #[] #[.pointer (some ⟨b,0,none⟩)])] w λe w'=>e = .returned (.bool (V.any λr=>p r.P))/\Below w.heap.size w w':=by
 have I:=O (Ox A n c V p b w hn hm hV C);unfold mM at I;clear hn hV C;go_enter Tryz.func140,Tryz.ntmps140;go_wp2_with fail;refine(I.o).mono ?_;rintro e w1 ⟨i,rfl,hi,b1⟩;have HI:=O hi;clear hi;go_wp2_with fail;go_ret;exact⟨zM HI.o,b1⟩
theorem any_map(V:List Sl)(Q:List Nd):(V.any λr=>decide (zJ r.P Q=0))=nR (V.map Sl.P) Q:=by
 unfold nR;rw [List.any_map];rfl
theorem Aw(A B:Option Addr)(n m c d:Nat)(V:List Sl)(Q:List Nd)(w:World)(hn:n=V.length)(hm:n<=maxLen)(hV:jM w A V)(k:Ns w B m d Q):
 Calls Tryz.prog 137 #[.slice A n c,.slice B m d] w λe w'=>e = .returned (.bool (nR (V.map Sl.P) Q))/\Below w.heap.size w w':=by
 have K:=O (Dh A n c V (λP=>decide (zJ P Q=0)) w.heap.size (w.alloc (.cells #[.slice B m d] 29)) hn hm (hV.keep (za w _))
  (O λr w' hb hr=>Nx r.A B r.n m r.c d w.heap.size r.P Q w' hr ((k.keep (za w _)).keep hb) (zb hb (by simp))))
 rw [any_map] at K;clear hn hV k;go_enter Tryz.func137,Tryz.ntmps137;go_wp2_with fail;refine(K.o).mono ?_;rintro e w1 ⟨rfl,b1⟩;go_wp2_with fail;go_ret;exact⟨rfl,jK b1⟩
theorem Lk(A:Option Addr)(n c:Nat)(V:List Sl)(p:List Nd->Bool)(A0:Option Addr)(n0 c0:Nat)(w:World)(hn:n=V.length)(hm:n<=maxLen)(hV:jM w A V)
 (C:Hid (∀(r:Sl) (w':World),Below w.heap.size w w'->Ns w' r.A r.n r.c r.P->Calls Tryz.prog 137 #[.slice A0 n0 c0,.slice r.A r.n r.c] w' λe w''=>e = .returned (.bool (p r.P))/\Below w'.heap.size w' w'')):
 Calls Tryz.prog 164 #[.slice A n c,(.func (.func 137) #[.slice A0 n0 c0] #[])] w (mM (V.any λr=>p r.P) w):=by
 unfold maxLen at hm;have HV:=O hV;have HN:=O hn;clear hV hn;go_enter Tryz.func164,Tryz.ntmps164;go_wp2_with fail;go_loopw [5,8] (λ_ i wr=>∃k:Nat,k<=n/\i = .int .i64 k/\Hid ((V.any λr=>p r.P)=(V.drop k).any λr=>p r.P)/\Hid (Below w.heap.size w wr)) (λ_ i _=>n-(intOf i).toNat)
 case atStart=>exact⟨0,Nat.zero_le _,rfl,rfl,Below.refl _ _⟩
 case round =>
  obtain⟨k,hk,rfl,hE,hB⟩:=hrel;by_cases hlt:k<n
  ·have h1:k<V.length:=by rw [<-HN.o];exact hlt
   obtain⟨a,rfl,q,hs⟩:=(HV.o.keep hB.o).at h1;have HA:=O (hE.o.trans (sX h1));have Cr:=O (C.o V[k] wr hB.o hs);generalize V[k]=r at *;clear hE hs;rcases hp:p r.P with _|_
   ·rw [hp] at Cr HA;clear hp;go_wp2_with fail;refine(Cr.o).mono ?_;rintro e w1 ⟨rfl,b1⟩;go_wp2_with fail;go_roundw
    case rel=>exact⟨k+1,by omega,by go_num,HA,bh hB b1⟩
    case measure=>simp [intOf];omega
   ·rw [hp] at Cr HA;clear hp;go_wp2_with fail;refine(Cr.o).mono ?_;rintro e w1 ⟨rfl,b1⟩;go_wp2_with fail;go_ret;exact⟨_,rfl,by rw [HA.o];simp,(bh hB b1).o⟩
  ·have HA:=O (hE.o.trans (by rw [List.drop_of_length_le (by rw [<-HN.o];omega)];rfl:_=false));clear hE;go_wp2_with fail;go_ret;exact⟨_,rfl,by rw [HA.o];rfl,hB.o⟩
theorem Ao(A:Option Addr)(n c:Nat)(V:List Sl)(p:List Nd->Bool)(A0:Option Addr)(n0 c0:Nat)(w:World)(hn:n=V.length)(hm:n<=maxLen)(hV:jM w A V)
 (C:Hid (∀(r:Sl) (w':World),Below w.heap.size w w'->Ns w' r.A r.n r.c r.P->Calls Tryz.prog 137 #[.slice A0 n0 c0,.slice r.A r.n r.c] w' λe w''=>e = .returned (.bool (p r.P))/\Below w'.heap.size w' w'')):
 Calls Tryz.prog 140 #[.slice A n c,(.func (.func 137) #[.slice A0 n0 c0] #[])] w λe w'=>e = .returned (.bool (V.any λr=>p r.P))/\Below w.heap.size w w':=by
 have I:=O (Lk A n c V p A0 n0 c0 w hn hm hV C);unfold mM at I;clear hn hV C;go_enter Tryz.func140,Tryz.ntmps140;go_wp2_with fail;refine(I.o).mono ?_;rintro e w1 ⟨i,rfl,hi,b1⟩;have HI:=O hi;clear hi;go_wp2_with fail;go_ret;exact⟨zM HI.o,b1⟩
theorem Pf(A:Option Addr)(n c:Nat)(V:List Sl)(p:List Nd->Bool)(A0:Option Addr)(n0 c0:Nat)(w:World)(hn:n=V.length)(hm:n<=100000)(hV:jM w A V)
 (C:Hid (∀(r:Sl) (w':World),Below w.heap.size w w'->Ns w' r.A r.n r.c r.P->Calls Tryz.prog 137 #[.slice A0 n0 c0,.slice r.A r.n r.c] w' λe w''=>e = .returned (.bool (p r.P))/\Below w'.heap.size w' w'')):
 Calls Tryz.prog 139 #[.slice A n c,(.func (.func 137) #[.slice A0 n0 c0] #[])] w λe w'=>∃v,e = .returned v/\zU w' w.heap.size v (V.filter λr=>p r.P)/\Below w.heap.size w w':=by
 obtain⟨i0,hi,hz0,hz1,hz2⟩:=info_parts nL;have HV:=O hV;have HN:=O hn;clear hV hn;go_enter Tryz.func139,Tryz.ntmps139;go_wp2_with fail;go_loopw [5,7,10] (λv _ i wr=>∃(k:Nat) (U:List Sl),k<=n/\i = .int .i64 k/\U.length<=k/\Hid ((V.filter λr=>p r.P)=U ++((V.drop k).filter λr=>p r.P))/\Hid (zU wr w.heap.size v U)/\Hid (Below w.heap.size w wr)) (λ_ _ i _=>n-(intOf i).toNat)
 case atStart=>exact⟨0,[],Nat.zero_le _,rfl,Nat.le_refl _,rfl,zU.nil _ _,Below.refl _ _⟩
 case round =>
  obtain⟨k,U,hk,rfl,hU,hE,hO,hB⟩:=hrel;by_cases hlt:k<n
  ·have h1:k<V.length:=by rw [<-HN.o];exact hlt
   obtain⟨a,rfl,q,hs⟩:=(HV.o.keep hB.o).at h1;obtain⟨-,-,-,hs0⟩:=HV.o.at h1;have rJ:=O hs0;have Cr:=O (C.o V[k] wr hB.o hs);have HA:=O (hE.o.trans (by rw [List.drop_eq_getElem_cons h1,List.filter_cons]:_=U ++(if p V[k].P=true then V[k] ::(V.drop (k+1)).filter (λr=>p r.P) else(V.drop (k+1)).filter λr=>p r.P)));generalize V[k]=r at *;clear hE hs hs0;rcases hp:p r.P with _|_
   ·rw [hp] at Cr HA;rw [if_neg (by simp)] at HA;clear hp;go_wp2_with fail;refine(Cr.o).mono ?_;rintro e w1 ⟨rfl,b1⟩;go_wp2_with fail;go_roundw
    case rel=>exact⟨k+1,U,by omega,by go_num,by omega,HA,O (hO.o.keep b1),bh hB b1⟩
    case measure=>simp [intOf];omega
   ·rw [hp] at Cr HA;rw [if_pos rfl] at HA;clear hp;go_wp2_with fail;refine(Cr.o).mono ?_;rintro e w1 ⟨rfl,b1⟩;have B1:=bh hB b1;have O1:=O (hO.o.keep b1);have N1:=O (rJ.o.keep B1.o);have A1:=O (show bj r u5.ownBlock by
     intro h0 a' ea q'
     have:=jk O1.o.own a'.block q'
     have:=rJ.o.at_.lt h0 a' ea
     omega)
    have hsz1:=B1.o.size;clear b1 hO hB q;go_wp2_with (at_builtin;refine wpList_append_own_at _ rfl _ _ 236 rfl w.heap.size 29 i0 _ 1 24 Tryz.underlying236 hi hz0 hz1 hz2 rfl (by decide) _ U.length (U.map Sl.v) rfl (O1.o.own.alloc _) ⟨_,0,none⟩ 1 1 [.slice r.A r.n r.c] rfl rfl (cell_one_new _ _ _) (by intro u hu;simp only [List.mem_cons,List.not_mem_nil,or_false] at hu;subst hu;rfl) ?c1 ?c2 ?c3 ?_)
    case c1=>unfold maxLen;omega
    case c2=>omega
    case c3=>simp;omega
    intro v1 w2 hown hgrow _ hat;have B2:=O ((B1.o.alloc B1.o.size _).grown hgrow (by simp;omega) (λg hg=>by have:=jk O1.o.own g hg;omega));have O2:=O (O1.o.snoc (r:=r) N1.o A1.o hown hgrow (by simpa using hat));have IR:=O (HA.o.trans (show _=(U ++ [r])++((V.drop (k+1)).filter λr=>p r.P) by simp));have hl2:(U ++ [r]).length<=k+1:=by simp;omega
    clear hown hgrow hat O1 N1 A1 HA B1;go_wp2_with fail;go_roundw
    case rel=>exact⟨k+1,U ++ [r],by omega,by go_num,hl2,IR,O2,B2⟩
    case measure=>simp [intOf];omega
  ·have HA:=O (hE.o.trans (by rw [List.drop_of_length_le (by rw [<-HN.o];omega)];simp:_=U));clear hE;go_wp2_with fail;go_ret;exact⟨_,rfl,by rw [HA.o];exact hO.o,hB.o⟩
def OY:Option Addr->Nat
 | none=>0
 | some a=>a.block+1
def Xv:Value->Nat
 | .pointer p=>OY p
 | _=>0
def ll(w:World):Option Addr->jl->Prop
 | p,[]=>p=none
 | p,x :: F=>∃b A n c q,p=some ⟨b,0,none⟩/\Bx3 w b (.slice A n c) (.string x.2) (.pointer q)/\Ns w A n c x.1/\x.2.size<=maxLen/\OY q<=b/\ll w q F
theorem ll.keep{w w':World}(hb:Below w.heap.size w w'):∀ {F:jl} {p:Option Addr},ll w p F->ll w' p F
 | [],_,h=>h
 | _ :: _,_,⟨b,A,n,c,q,e,h1,h2,h3,h4,h5⟩=>⟨b,A,n,c,q,e,h1.keep hb,h2.keep hb,h3,h4,h5.keep hb⟩
theorem ll.rank{w:World}:∀ {F:jl} {p:Option Addr},ll w p F->OY p<=w.heap.size
 | [],_,h=>by rw [show _=none from h];exact Nat.zero_le _
 | _ :: _,_,⟨b,A,n,c,q,e,h1,_⟩=>by rw [e];exact block_lt_of_cell h1.c0
theorem Kp(p:Option Addr)(F:jl)(A:Option Addr)(n c:Nat)(P:List Nd)(s:ByteArray)(w:World)(h:ll w p F)(k:Ns w A n c P):
 Calls Tryz.prog 57 #[.pointer p,.slice A n c,.string s] w λe w'=>e = .returned (.bool (dL F P s))/\Below w.heap.size w w':=by
 have HF:=O h;have HN:=O k;clear h k;go_enter Tryz.func57,Tryz.ntmps57;go_wp2_with fail;go_loopw [0] (λv wr=>∃(q:Option Addr) (G:jl),v = .pointer q/\Hid (ll wr q G)/\Hid (dL F P s=dL G P s)/\Hid (Below w.heap.size w wr)) (λv _=>Xv v)
 case atStart=>exact⟨p,F,rfl,HF,rfl,Below.refl _ _⟩
 case round =>
  obtain⟨q,G,rfl,hG,hE,hB⟩:=hrel
  cases G with
  | nil =>
   obtain rfl:q=none:=hG.o
   go_wp2_with fail
   go_ret
   exact⟨by rw [hE.o];rfl,hB.o⟩
  | cons x G =>
   obtain⟨b,A1,n1,c1,q1,rfl,R,N1,hs1,hr,hG1⟩:=hG.o
   have R1:=O R
   have N2:=O N1
   have G2:=O hG1
   obtain⟨r0,r1,r2,z0,z1,z2⟩:=R
   clear hG hG1 N1 z0 z1 z2
   by_cases hs:x.2=s
   ·rw [hs] at r1
    have EQ:=O (qf A1 A n1 n c1 c x.1 P wr N2.o.len HN.o.len N2.o.max HN.o.max N2.o.at_ ((HN.o.keep hB.o).at_));by_cases he:zJ x.1 P=0
    ·have HT:=O (show dL F P s=true by rw [hE.o];simp [dL,hs,he]);rw [decide_eq_true he] at EQ;clear hE he R1 r2 N2 G2;go_wp2_with fail;refine EQ.o.mono ?_;rintro e w2 ⟨rfl,b2⟩;have B2:=bh hB b2;clear EQ b2 hB;go_wp2_with fail;go_ret;exact⟨by rw [HT.o];rfl,B2.o⟩
    ·have HT:=O (show dL F P s=dL G P s by rw [hE.o];simp [dL,hs,he]);rw [decide_eq_false he] at EQ;clear hE he r2 N2;go_wp2_with fail;refine EQ.o.mono ?_;rintro e w2 ⟨rfl,b2⟩;have B2:=bh hB b2;obtain⟨r0',r1',r2',z0',z1',z2'⟩:=R1.o.keep b2;have G3:=O (G2.o.keep b2);clear EQ b2 hB R1 r0 r1 r0' r1' z0' z1' z2';go_wp2_with fail;go_roundw
     case rel=>exact⟨q1,G,rfl,G3,HT,B2⟩
     case measure=>exact Nat.lt_succ_of_le hr
   ·have HT:=O (show dL F P s=dL G P s by rw [hE.o];simp [dL,hs])
    have f6:(x.2.toList==s.toList)=false:=beq_eq_false_iff_ne.2 (λq=>hs (toList_inj q));generalize x.2=y at *;clear hE hs N2;go_wp2_with fail;go_roundw
    case rel=>exact⟨q1,G,rfl,G2,HT,hB⟩
    case measure=>exact Nat.lt_succ_of_le hr
theorem Aj{ps:Exs}(h:ps.len=1):∃a,ps = .cons a .nil:=by
 cases ps with
 | nil=>simp [Exs.len] at h
 | cons a r=>cases r with
  | nil=>exact⟨a,rfl⟩
  | cons b r=>simp [Exs.len] at h
theorem VO{ps:Exs}(h:ps.len=2):∃a b,ps = .cons a (.cons b .nil):=by
 cases ps with
 | nil=>simp [Exs.len] at h
 | cons a r =>
  simp only [Exs.len] at h
  obtain⟨b,rfl⟩:=Aj (ps:=r) (by omega)
  exact⟨a,b,rfl⟩
structure Av(w:World)(A:Option Addr)(k:Nat)(r:Sl)(x:Ex):Prop where
 cell:∃a,A=some a/\w.cell? (a.add k)=some (.slice r.A r.n r.c)
 ns:Ns w r.A r.n r.c x.flat
theorem gU{w:World}{A:Option Addr}{V:List Sl}{L:List Ex}(h:jM w A V)(hm:V.map Sl.P=L.map Ex.flat){k:Nat}{x:Ex}(hk:L[k]?=some x):∃r,V[k]?=some r/\Av w A k r x:=by
 have h1:(V.map Sl.P)[k]?=some x.flat:=by rw [hm,List.getElem?_map,hk];rfl
 rw [List.getElem?_map] at h1;rcases hv:V[k]? with _|r
 ·rw [hv] at h1;cases h1
 ·rw [hv] at h1;obtain⟨a,e1,e2,e3⟩:=h k r hv;injection h1 with h1;exact⟨r,rfl,⟨a,e1,e2⟩,h1 ▸ e3⟩
theorem Av.keep{w w':World}{A:Option Addr}{k:Nat}{r:Sl}{x:Ex}(h:Av w A k r x)(hb:Below w.heap.size w w'):Av w' A k r x :=
 ⟨let ⟨a,e1,e2⟩:=h.cell;⟨a,e1,zb hb e2⟩,h.ns.keep hb⟩
def Jz(w:World)(F:jl)(e:Ending)(w':World):Prop:=∃q,e = .returned (.pointer q)/\ll w' q F/\Below w.heap.size w w'
def Zw(N:Nat):Prop:=∀(A:Option Addr) (n c:Nat) (x:Ex) (f:Bool) (p:Option Addr) (F:jl) (w:World),Ns w A n c x.flat->n<=4000->x.valid f->n<=N->ll w p F->
 Calls Tryz.prog 49 #[.slice A n c,.pointer p] w (Jz w (cR x F))
theorem cn(w:World):Below w.heap.size w w.drew:=⟨rfl,rfl,rfl,Nat.le_refl _,λ_ _=>rfl⟩
theorem Mb{f:Bool}{y:Nd}(h:bP f y=true)(Cb:y.op=21):y.s.size<=maxLen:=by
 unfold bP at h;rw [Bool.and_eq_true] at h;have h1:=h.1;unfold aA at h1;rw [if_neg (by omega)] at h1;split at h1
 ·cases h1
 ·rw [if_neg (by omega),if_pos (Or.inl Cb)] at h1;have:=Gt (of_decide_eq_true h1);unfold maxLen;omega
theorem OG{w w1:World}{A:Option Addr}{n c:Nat}{P:List Nd}{s:ByteArray}{p:Option Addr}{F:jl}(o:Obj)(b:Below w.heap.size w w1)(hN:Ns w1 A n c P)(hF:ll w1 p F)(hs:s.size<=maxLen)(t:TypeId):
 Jz w ((P,s):: F) (.returned (.pointer (some ⟨w1.heap.size+1,0,none⟩))) ((w1.alloc o).alloc (.cells #[.slice A n c,.string s,.pointer p] t)).drew:=by
 have k1:=za w1 o;have hz:(w1.alloc o).heap.size=w1.heap.size+1:=by simp
 have k2:=za (w1.alloc o) (.cells #[.slice A n c,.string s,.pointer p] t);have k3:=cn ((w1.alloc o).alloc (.cells #[.slice A n c,.string s,.pointer p] t));have k4:=k1.trans (k2.mono k1.size);have k5:=k4.trans (k3.mono k4.size);refine⟨_,rfl,⟨w1.heap.size+1,A,n,c,p,rfl,?_,hN.keep k5,hs,Nat.le_succ_of_le hF.rank,hF.keep k5⟩,b.trans (k5.mono b.size)⟩;have h:=(sE (w1.alloc o) (.slice A n c) (.string s) (.pointer p) t).keep k3;rw [hz] at h;exact h
theorem kN:∀N:Nat,Zw N
 | 0=>λA n c x f p F w h _ _ hN _=>by
  have h1:=h.len;have h2:=jq x;omega
 | N+1=>λA n c x f p F w h hn hv hN hF=>by
  have IH:=O (kN N);have K:=O (iJ A n c x f w h hn hv);have HL:=h.len;obtain⟨y,ps⟩:=x;have hlen:=hv.2.1;have X':=hv.1;have hvp:=O hv.2.2;have HF:=O hF;have HT:=O (show n=ps.flat.length+1 by rw [HL];simp [Ex.flat]);clear h hF hv HL;simp only [Ex.head,Ex.parts] at K;by_cases Cb:y.op=21
  ·obtain⟨a,rfl⟩:=Aj (ps:=ps) (by rw [show zG y=1 by unfold zG;simp [Cb]] at hlen;omega);have HB:=O (show cR (.node y (.cons a .nil)) F=(a.flat,y.s):: F by simp [cR,Cb,Oj]);have HS:=O (Mb X' Cb);clear hlen X';go_enter Tryz.func49,Tryz.ntmps49;go_wp2_with fail;refine K.o.mono ?_;rintro e w1 ⟨A',c',V,rfl,hc,hS,hm,b1⟩;obtain⟨r,hr,hp⟩:=gU hS hm (k:=0) (x:=a) rfl;obtain⟨⟨A1,rfl,q0⟩,N0⟩:=hp;rw [show A1.add 0=A1 from rfl] at q0;have hV:0<V.length:=by rw [List.getElem?_eq_some_iff] at hr;exact hr.1
   generalize V.length=m at *;have B1:=O b1;have N1:=O N0;have F1:=O (HF.o.keep b1);clear hS hm b1 N0 hr hc K;have q1:=zb (za w1 (.cells #[.int .i64 21,.int .i64 y.n,.string y.s,.string y.t] 47)) q0;unfold ndV;rw [Cb];go_wp2_with fail;go_region_with (fail)
   all_goals (go_wp2_with fail)
   all_goals go_ret
   all_goals (rw [HB.o];exact OG _ B1.o N1.o F1.o HS.o _)
  ·by_cases h11:y.op=11
   ·obtain⟨a,b,rfl⟩:=VO (ps:=ps) (by rw [show zG y=2 by unfold zG;simp [h11]] at hlen;omega);have HB:=O (show cR (.node y (.cons a (.cons b .nil))) F=cR b (cR a F) by simp [cR,h11,xI]);clear hlen X';have HLa:=O (show a.flat.length+b.flat.length=n-1 by have:=HT.o;simp [Exs.flat] at this;omega);go_enter Tryz.func49,Tryz.ntmps49;go_wp2_with fail;refine K.o.mono ?_;rintro e w1 ⟨A',c',V,rfl,hc,hS,hm,b1⟩;obtain⟨r,hr,hp⟩:=gU hS hm (k:=0) (x:=a) rfl;obtain⟨r',wh,iV⟩:=gU hS hm (k:=1) (x:=b) rfl;obtain⟨⟨A1,rfl,q0⟩,N0⟩:=hp;obtain⟨⟨A2,e2,q2⟩,N2⟩:=iV;obtain rfl:A1=A2:=Option.some.inj e2;rw [show A1.add 0=A1 from rfl] at q0;have hV:1<V.length:=by rw [List.getElem?_eq_some_iff] at wh;exact wh.1
    generalize V.length=m at *;have B1:=O b1;have N1:=O N0;have N3:=O N2;have F1:=O (HF.o.keep b1);have q1:=zb (za w1 (.cells #[.int .i64 11,.int .i64 y.n,.string y.s,.string y.t] 47)) q0;have q3:=zb (za w1 (.cells #[.int .i64 11,.int .i64 y.n,.string y.s,.string y.t] 47)) q2;clear hS hm b1 N0 hr hc K e2 N2 wh;unfold ndV;rw [h11];go_wp2_with fail;have bD:=(za w1 (.cells #[.int .i64 11,.int .i64 y.n,.string y.s,.string y.t] 47)).trans ((cn (w1.alloc (.cells #[.int .i64 11,.int .i64 y.n,.string y.s,.string y.t] 47))).mono (by simp));have QD:=O (zb bD q2);have p1:=zb bD q0;have p3:((w1.alloc (.cells #[.int .i64 11,.int .i64 y.n,.string y.s,.string y.t] 47)).drew).cell? ⟨A1.block,A1.off+1,none⟩=some (.slice r'.A r'.n r'.c):=zb bD q2;have ND:=O (N1.o.keep bD);have N3D:=O (N3.o.keep bD);have FD:=O (F1.o.keep bD);have BD:=O (B1.o.trans (bD.mono B1.o.size));have ha1:=N1.o.len;have hb1:=N3.o.len;have MU:=HLa.o;have pa:=jq a;have pb:=jq b;obtain⟨-,va,-,vb,-⟩:=hvp.o;have FC:=O va;have W8:=O vb;have HC1:=O (show r.n<=4000/\r.n<=N by omega);have We:=O (show r'.n<=4000/\r'.n<=N by omega);clear ha1 hb1 MU pa pb va vb bD N1 N3 F1 HT HLa hvp HF;have hV0:(1:Int)<(m:Int):=by omega
    go_region_with (first
     |(go_at_call 49;(refine(IH.o _ _ _ b _ _ (cR a F) _ N5.o We.o.1 W8.o We.o.2 F5.o).mono ?_);rintro e2 w6 ⟨p6,rfl,hF6,b6⟩;(have F6:=O hF6);(have B6:=O (B5.o.trans (b6.mono B5.o.size)));clear hF6 b6)
     |(go_at_call 49;(refine(IH.o _ _ _ a _ _ F _ ND.o HC1.o.1 FC.o HC1.o.2 FD.o).mono ?_);rintro e w5 ⟨p5,rfl,Yi,b5⟩;(have QE:w5.cell? ⟨A1.block,A1.off+1,none⟩=some (.slice r'.A r'.n r'.c):=zb b5 QD.o);(have N5:=O (N3D.o.keep b5));(have F5:=O Yi);(have B5:=O (BD.o.trans (b5.mono BD.o.size)));clear Yi b5))
    all_goals (go_wp2_with fail)
    all_goals go_ret
    all_goals (rw [HB.o];exact⟨p6,rfl,F6.o,B6.o⟩)
   ·have HB:=O (show cR (.node y ps) F=F by simp [cR,Cb,h11]);generalize cR (.node y ps) F=F' at *;go_enter Tryz.func49,Tryz.ntmps49;go_wp2_with fail;refine K.o.mono ?_;rintro e w1 ⟨A',c',V,rfl,hc,hS,hm,b1⟩;have B1:=O b1;clear hc hS hm b1 K;have f1:(y.op==21)=false:=beq_eq_false_iff_ne.2 Cb;have f2:(y.op==11)=false:=beq_eq_false_iff_ne.2 h11;unfold ndV;go_wp2_with fail;go_ret;have B2:=B1.o.trans ((za w1 (.cells #[.int .i64 y.op,.int .i64 y.n,.string y.s,.string y.t] 47)).mono B1.o.size);exact⟨p,rfl,by rw [HB.o];exact HF.o.keep B2,B2⟩
def qH(w:World)(A:Option Addr)(L:List Int):Prop:=∀(k:Nat) (x:Int),L[k]?=some x->∃a,A=some a/\w.cell? (a.add k)=some (.int .i64 x)
theorem Hd(A:Option Addr)(n c:Nat)(L:List Int)(s:Int)(w:World)(hn:n=L.length)(hm:n<=1000)(h:qH w A L):
 Calls Tryz.prog 124 #[.slice A n c,.int .i64 s] w λe w'=>(∃k:Int,e = .returned (.int .i64 k)/\(0<=k↔L.contains s=true))/\Below w.heap.size w w':=by
 have HL:=O hn;have HT:=O h;clear h hn;go_enter Tryz.func124,Tryz.ntmps124;go_wp2_with fail;go_loopw [5,8] (λ_ i wr=>∃k:Nat,i = .int .i64 k/\k<=n/\Hid ((L.take k).contains s=false)/\w=wr) (λ_ i _=>n-(intOf i).toNat)
 case atStart=>exact⟨0,rfl,Nat.zero_le _,O rfl,rfl⟩
 case round =>
  obtain⟨k,rfl,hk,hF,rfl⟩:=hrel;by_cases hlt:k<n
  ·have Rb:k<L.length:=by rw [<-HL.o];exact hlt
   obtain⟨a,rfl,q⟩:=HT.o k L[k] (List.getElem?_eq_getElem Rb);by_cases hs:L[k]=s
   ·have HR:=O (show L.contains s=true by rw [List.contains_iff_mem];rw [<-hs];exact List.getElem_mem Rb);rw [hs] at q;clear hF hs;go_wp2_with fail;go_ret;exact⟨⟨k,rfl,by rw [HR.o];simp⟩,Below.refl _ _⟩
   ·have HF:=O (show(L.take (k+1)).contains s=false by
     rw [List.take_succ_eq_append_getElem Rb,List.contains_append,hF.o]
     simp only [List.contains_cons,List.contains_nil,Bool.or_false,Bool.false_or]
     exact beq_eq_false_iff_ne.2 λe=>hs e.symm)
    have f6:(s==L[k])=false:=beq_eq_false_iff_ne.2 λe=>hs e.symm;generalize L[k]=y at *;clear hF hs;go_wp2_with fail;go_roundw
    case rel=>exact⟨k+1,by go_num,hlt,HF,trivial⟩
    case measure=>simp [intOf];omega
  ·have HR:=O (show L.contains s=false by
    have:=hF.o
    rwa [List.take_of_length_le (by rw [<-HL.o];omega)] at this)
   clear hF;go_wp2_with fail;go_ret;exact⟨⟨-1,rfl,by rw [HR.o];simp⟩,Below.refl _ _⟩
theorem wK(A:Option Addr)(n c:Nat)(L:List Int)(s:Int)(w:World)(hn:n=L.length)(hm:n<=1000)(h:qH w A L):
 Calls Tryz.prog 84 #[.slice A n c,.int .i64 s] w λe w'=>e = .returned (.bool (L.contains s))/\Below w.heap.size w w':=by
 have K:=O (Hd A n c L s w hn hm h);clear h hn hm;go_enter Tryz.func84,Tryz.ntmps84;go_wp2_with fail;refine K.o.mono ?_;rintro e w1 ⟨⟨k,rfl,hk⟩,b1⟩;have B1:=O b1;have HK:=O (show decide (0<=k)=L.contains s by
  rcases hu:L.contains s with _|_
  ·exact decide_eq_false (λh=>by have:=hk.1 h;rw [hu] at this;cases this)
  ·exact decide_eq_true (hk.2 hu))
 clear hk b1;go_wp2_with fail;go_ret;exact⟨by rw [<-HK.o];rfl,B1.o⟩
abbrev kY (k:Int):List PanicEntry := [{ v := .iface 41 (.int .i64 k),recovered:=false }]
theorem Cn(A:Option Addr)(n c:Nat)(w:World)(hn:n<=100000):Calls Tryz.prog 55 #[.slice A n c] w λe w'=>e=(if 200<n then .panicked (kY 4) else .returned (.slice A n c))/\Below w.heap.size w w':=by
 by_cases h:200<n
 ·have HP:=O (show(if 200<n then Ending.panicked (kY 4) else .returned (.slice A n c))= .panicked (kY 4) from if_pos h);generalize (if 200<n then Ending.panicked (kY 4) else .returned (.slice A n c))=E at *;have hi:(200:Int)<(n:Int):=by omega
  go_enter Tryz.func55,Tryz.ntmps55;go_wp2_with fail;exact⟨rfl,by rw [HP.o],Below.refl _ _⟩
 ·have HP:=O (show(if 200<n then Ending.panicked (kY 4) else .returned (.slice A n c))= .returned (.slice A n c) from if_neg h);generalize (if 200<n then Ending.panicked (kY 4) else .returned (.slice A n c))=E at *;have hi:¬(200:Int)<(n:Int):=by omega
  go_enter Tryz.func55,Tryz.ntmps55;go_wp2_with fail;go_ret;exact⟨by rw [HP.o];rfl,Below.refl _ _⟩
theorem Lr(A:Option Addr)(n c:Nat)(x:Nd)(r:List Nd)(B:Option Addr)(m d:Nat)(L:List Int)(w:World)(h:Ns w A n c (x :: r))(hm:m=L.length)(sN:m<=1000)(k:qH w B L):
 Calls Tryz.prog 50 #[.slice A n c,.slice B m d] w λe w'=>e=(if x.op=49\/L.contains x.op=true then .returned (.tuple #[]) else .panicked (kY 2))/\Below w.heap.size w w':=by
 have K:=O (wK B m d L x.op w hm sN k);obtain⟨a,rfl,d0,-,-,-⟩:=h.at_ 0 x rfl;rw [show a.add (0*4)=a from rfl] at d0;have hn:(0:Int)<(n:Int):=by rw [h.len];simp
 clear h k hm sN;generalize x.op=o at *;by_cases wi:o=49
 ·subst wi;rw [if_pos (Or.inl rfl)];clear K;go_enter Tryz.func50,Tryz.ntmps50;go_wp2_with fail;exact⟨rfl,.tuple #[],by simp [results,Tryz.results50,go_sem],rfl,Below.refl _ _⟩
 ·have f1:(o != 49)=true:=by rw [bne_iff_ne];exact wi
  rcases hc:L.contains o with _|_
  ·rw [hc] at K;rw [if_neg (by intro q;rcases q with q|q;exact wi q;cases q)];clear hc wi;go_enter Tryz.func50,Tryz.ntmps50;go_wp2_with fail;refine K.o.mono ?_;rintro e w1 ⟨rfl,b1⟩;have B1:=O b1;clear b1 K;go_wp2_with fail;exact⟨rfl,rfl,B1.o⟩
  ·rw [hc] at K;rw [if_pos (Or.inr rfl)];clear hc wi;go_enter Tryz.func50,Tryz.ntmps50;go_wp2_with fail;refine K.o.mono ?_;rintro e w1 ⟨rfl,b1⟩;have B1:=O b1;clear b1 K;go_wp2_with fail;exact⟨rfl,.tuple #[],by simp [results,Tryz.results50,go_sem],rfl,B1.o⟩
structure nZ(w:World)(base:Nat)(v:Value)(P:List Nd):Prop where
 own:w.ownsRow base 47 4 v P.length (zD P)
theorem nZ.keep{w w':World}{base:Nat}{v:Value}{P:List Nd}(h:nZ w base v P)(hb:Below w.heap.size w w'):nZ w' base v P:=⟨h.own.kept (zc hb none) (by cases hv:v.ownBlock <;> simp)⟩
theorem nZ.one(w:World)(x:Nd):nZ (w.alloc (.cells #[.int .i64 x.op,.int .i64 x.n,.string x.s,.string x.t] 47)) w.heap.size (.slice (some ⟨w.heap.size,0,none⟩) 1 1) [x] :=
 ⟨⟨rfl,.inr ⟨_,1,_,rfl,Nat.le_refl _,heap_alloc_new w _,Nat.le_refl _,by unfold maxLen;omega,rfl,rfl⟩⟩⟩
theorem nZ.ns{w:World}{base:Nat}{v:Value}{P:List Nd}(h:nZ w base v P)(hl:P.length<=1000)(ho:bi P):∃A n c,v = .slice A n c/\Ns w A n c P:=by
 obtain⟨A,c,rfl,hc,hA,-⟩:=aM h.own;exact⟨A,_,c,rfl,rfl,hc,by unfold maxLen;omega,hA,ho⟩
end Go.Proofs.YthifljpkgfpkiaaGreatDoor
