/-
  check.cut: a node and its parts. Package bag: has, kept, both, Has, All, Any; slices.Equal, IndexFunc, ContainsFunc. Variables of three cells of the call's own ..
-/
import Derived.WalkKit
import Derived.Defers
import Derived.Laws.Pointers
import Derived.Laws.LoneSync
import Derived.RegionCalls
import Derived.Test.YtjcdeikbghjpkaaGreatDoorQ1
import Derived.Test.YtjcdeikbghjpkaaGreatDoorQ5
import Derived.Test.YtjcdeikbghjpkaaGreatDoorQ15
import Derived.Test.YtjcdeikbghjpkaaGreatDoorQ18
set_option maxRecDepth 100000
set_option maxHeartbeats 4000000
namespace Go.Proofs.YtjcdeikbghjpkaaGreatDoor
open Go.RowKit Go.Wk Go.Sort
theorem zkI{w:World}{a:Addr}{n c:Nat}{P:List Nd}(h:Ns w (some a) n c P)(h0:0<P.length):a.block<w.heap.size:=h.at_.lt h0 a rfl
theorem zdp(A:Option Addr)(n c:Nat)(x:Ex)(f:Bool)(w:World)(h:Ns w A n c x.flat)(hn:n≤4000)(hv:x.valid f):
 Calls Tryz.prog 44 #[.slice A n c] w fun e w'=>∃A' c' V,e = .returned (.tuple #[ndV x.head,.slice A' V.length c'])∧V.length≤c'∧za4 w' A' V∧V.map Sl.P=x.parts.list.map Ex.flat∧Below w.heap.size w w':=by
 obtain⟨i0,hi,hz0,hz1,hz2⟩:=info_parts zsu;have hx:=XAt.all hv;obtain⟨a,rfl,d0,d1,d2,d3⟩:=h.at_ 0 _ hx.head;have hab:=zkI h (zZ x);rw [show a.add (0*4)=a from rfl] at d0 d1 d2 d3;have HN:=hi9 h;have HLn:=hi9 h.len;have HC:=hi9 h.cap;have hn1:1≤n:=by rw [h.len];exact zZ x
 have HXS:=hi9 hx.parts;have HTOT:=hi9 (show 1+x.parts.flat.length=n by rw [h.len];cases x;simp [Ex.flat,Ex.parts];omega);have HY:=hi9 (show Nd4 w a x.head from⟨d0,d1,d2,d3⟩);have HMAP:=hi9 (show x.parts.list.map Ex.flat=([]:List Sl).map Sl.P ++ x.parts.list.map Ex.flat from rfl);generalize zA x.head=cc at *;generalize x.flat=P at *;generalize x.parts=ps at *;generalize x.head=y at *;clear h hx hv d0 d1 d2 d3;have B0:=hi9 (za w (.cells #[.int .i64 0,.int .i64 0,.string ⟨#[]⟩,.string ⟨#[]⟩] 41));have R0:=hi9 (zbe w (.int .i64 0) (.int .i64 0) (.string ⟨#[]⟩) (.string ⟨#[]⟩) 41);go_enter Tryz.func44,Tryz.ntmps44;go_wp2_with fail;go_loopw [4,5] (fun v u wr=>∃(q:Nat) (V:List Sl) (R:Exs),u = .int .i64 q∧1≤q∧q≤n∧V.length+1≤q∧Hid (ps.list.map Ex.flat=V.map Sl.P ++ R.list.map Ex.flat)∧Hid (zcB P q cc R)∧Hid (q+R.flat.length=n)∧Hid (zaH wr (w.heap.size+1) v V)∧Hid (Bx4 wr w.heap.size (.int .i64 0) (.int .i64 0) (.string ⟨#[]⟩) (.string ⟨#[]⟩))∧Hid (∀r∈V,za3 r (some w.heap.size))∧Hid (Below w.heap.size w wr)) (fun _ u _=>n-(intOf u).toNat)
 case atStart=>exact⟨1,[],ps,rfl,Nat.le_refl _,hn1,Nat.le_refl _,HMAP,HXS,HTOT,hi9 (zaH.nil _ _),R0,hi9 (fun r hr=>nomatch hr),B0⟩
 case round =>
  clear HXS HTOT HMAP R0 B0;obtain⟨q,V,R,rfl,hq1,hq,hVq,hE,hXs,hT,hO,hR,hAp,hB⟩:=hrel;by_cases hlt:q<n
  ·obtain⟨x1,r,rfl⟩:∃x1 r,R = .cons x1 r:=by
    cases R with
    | nil=>have:=hT.out;simp [Exs.flat] at this;omega
    | cons x1 r=>exact⟨x1,r,rfl⟩
   obtain⟨h1,h2⟩:=hXs.out.head
   have CS:=hi9 (zou (some a) n c P q cc x1 wr (HN.out.keep hB.out) h1)
   have HSEG:=hi9 h1.seg
   have hpos:=zZ x1
   have HX2:=hi9 h2
   have HT2:=hi9 (show q+x1.flat.length+r.flat.length=n by have:=hT.out;simp only [Exs.flat,List.length_append] at this;omega)
   have hle:q+x1.flat.length≤n:=by have:=HT2.out;omega
   have hcn:=HC.out
   have HE2:=hi9 (show ps.list.map Ex.flat=V.map Sl.P ++(x1.flat :: r.list.map Ex.flat) from hE.out)
   clear hE hXs hT h1 h2
   go_wp2_with fail
   refine CS.out.mono ?_
   rintro e w2 ⟨rfl,b2⟩
   have B2:=bh hB b2
   have O2:=hi9 (hO.out.keep b2)
   have R2:=hi9 (hR.out.keep b2)
   have hsz2:=B2.out.size
   have hsz3:w.heap.size<w2.heap.size:=block_lt_of_cell R2.out.c0
   clear b2 hB hO hR CS
   have NS:=zgw (HN.out.keep B2.out) (i:=q) (j:=q+x1.flat.length) (by omega) hle
   rw [HSEG.out,show q+x1.flat.length-q=x1.flat.length by omega] at NS
   have N2:=hi9 (show Ns w2 (⟨some (a.add (q*4)),x1.flat.length,c-q,x1.flat⟩:Sl).A _ _ _ from NS)
   have A2p:Hid (za3 ⟨some (a.add (q*4)),x1.flat.length,c-q,x1.flat⟩ u4.ownBlock):=by
    intro h0 a' e' q';have h1:=zD O2.out.own a'.block q';injection e' with e';subst e';rw [jx] at h1;omega
   clear NS HSEG
   generalize x1.flat=F1 at *
   obtain⟨l1,hl1⟩:∃l1,l1=F1.length:=⟨_,rfl⟩
   rw [←hl1] at hpos HT2 hle N2 A2p HX2 ⊢
   clear hl1
   go_wp2_with (at_builtin;refine wpList_append_own_at _ rfl _ _ 90 rfl (w.heap.size+1) 26 i0 _ 1 24 Tryz.underlying90 hi hz0 hz1 hz2 rfl (by decide) _ V.length (V.map Sl.v) rfl (O2.out.own.alloc _) ⟨_,0,none⟩ 1 1 [.slice (some (a.add (q*4))) l1 (c-q)] rfl rfl (cell_one_new _ _ _) (by intro u hu;simp only [List.mem_cons,List.not_mem_nil,or_false] at hu;subst hu;rfl) ?c1 ?c2 ?c3 ?_)
   case c1=>unfold maxLen;omega
   case c2=>omega
   case c3=>simp;omega
   intro v1 w4 hown hgrow _ hat
   have B4:=hi9 ((B2.out.alloc B2.out.size _).grown hgrow (by simp;omega) (fun g hg=>by have:=zD O2.out.own g hg;omega))
   have R4:=hi9 ((R2.out.keep (za w2 _)).but hgrow (zrD O2.out.own (by omega)))
   have O4:=hi9 (O2.out.snoc (r:=⟨some (a.add (q*4)),l1,c-q,F1⟩) N2.out A2p.out hown hgrow (by simpa using hat))
   have HE4:=hi9 (HE2.out.trans (show _=(V ++ [(⟨some (a.add (q*4)),l1,c-q,F1⟩:Sl)]).map Sl.P ++ r.list.map Ex.flat by simp))
   have HAP4:=hi9 (show∀r∈V ++ [(⟨some (a.add (q*4)),l1,c-q,F1⟩:Sl)],za3 r (some w.heap.size) from fun r hr=>by
    rcases List.mem_append.1 hr with h|h
    ·exact hAp.out r h
    ·rw [List.mem_singleton.1 h]
     intro _ a' e' q'
     injection e' with e'
     subst e'
     injection q' with q'
     rw [jx] at q'
     omega)
   have hl4:(V ++ [(⟨some (a.add (q*4)),l1,c-q,F1⟩:Sl)]).length+1≤q+l1:=by simp;omega
   clear hown hgrow hat O2 R2 N2 A2p HE2 B2
   go_wp2_with fail
   go_roundw
   case rel=>exact⟨q+l1,_,r,by go_num,by omega,hle,hl4,HE4,HX2,HT2,O4,R4,HAP4,B4⟩
   case measure=>simp [intOf];omega
  ·obtain rfl:R = .nil:=by
    cases R with
    | nil=>rfl
    | cons x1 r=>have:=hT.out;have:=zZ x1;simp only [Exs.flat,List.length_append] at *;omega
   have HF:=hi9 (show V.map Sl.P=ps.list.map Ex.flat by rw [hE.out];simp [Exs.list])
   obtain⟨A',c',hv',hc',-⟩:=hO.out.at
   subst hv'
   have g5:=zf (zf (zf (zg wr ⟨w.heap.size,0,none⟩ (.int .i64 y.op)) (zg _ ⟨w.heap.size,1,none⟩ (.int .i64 y.n))) (zg _ ⟨w.heap.size,2,none⟩ (.string y.s))) (zg _ ⟨w.heap.size,3,none⟩ (.string y.t))
   obtain⟨A5,c5,e5,-,hint⟩:=(hO.out.row g5 (zqu hO.out.own (Nat.lt_succ_self _)) hAp.out).at
   injection e5 with e51 _ e52
   subst e51
   subst e52
   have HI:=hi9 hint
   obtain⟨d0,d1,d2,d3⟩:=HY.out.keep hB.out
   obtain⟨r0,r1,r2,r3,z0,z1,z2,z3⟩:=hR.out
   obtain⟨y0,y1,y2,y3,-,-,-,-⟩:=hR.out.set (.int .i64 y.op) (.int .i64 y.n) (.string y.s) (.string y.t)
   have hn0:0<n:=by omega
   have B5:=hi9 (zfm hB.out (Nat.le_refl _) (.int .i64 y.op) (.int .i64 y.n) (.string y.s) (.string y.t))
   clear hint g5 hE hXs hT hO hR hAp hB
   go_wp2_with fail
   refine bodyPost_ret (v := .tuple #[ndV y,.slice A' V.length c']) (by simp [results,Tryz.results44,go_sem,y0,y1,y2,y3,ndV]) rfl ⟨A',c',V,rfl,hc',HI.out,HF.out,B5.out⟩
end Go.Proofs.YtjcdeikbghjpkaaGreatDoor
namespace Go.Wk
def ztj(L:List (List Nd))(Q:List Nd):Bool:=L.any fun P=>decide (zW P Q=0)
end Go.Wk
namespace Go.Proofs.YtjcdeikbghjpkaaGreatDoor
open Go.RowKit Go.Wk Go.Sort
theorem zkQ(A B:Option Addr)(n m c d:Nat)(P Q:List Nd)(w:World)(hn:n=P.length)(hm:m=Q.length)(hln:n≤maxLen)(hlm:m≤maxLen)(hP:jM w A P)(hQ:jM w B Q):
 Calls Tryz.prog 82 #[.slice A n c,.slice B m d] w fun e w'=>e = .returned (.bool (decide (zW P Q=0)))∧Below w.heap.size w w':=by
 unfold maxLen at hln hlm;have HN:=hi9 hn;have HM:=hi9 hm;have HP:=hi9 hP;have HQ:=hi9 hQ;clear hn hm hP hQ;by_cases hl:n=m
 ·subst hl;go_enter Tryz.func82,Tryz.ntmps82;go_wp2_with fail;go_loopw [5,13] (fun _ i wr=>∃k:Nat,k≤n∧i = .int .i64 k∧Hid (zW P Q=zW (P.drop k) (Q.drop k))∧Hid (Below w.heap.size w wr)) (fun _ i _=>n-(intOf i).toNat)
  case atStart=>exact⟨0,Nat.zero_le _,rfl,rfl,Below.refl _ _⟩
  case round =>
   obtain⟨k,hk,rfl,hE,hB⟩:=hrel;by_cases hlt:k<n
   ·have h1:k<P.length:=by rw [←HN.out];exact hlt
    have h2:k<Q.length:=by rw [←HM.out];exact hlt
    obtain⟨a,rfl,a1,a2,a3,a4⟩:=(HP.out.keep hB.out) k P[k] (List.getElem?_eq_getElem h1);obtain⟨b,rfl,b1,b2,b3,b4⟩:=(HQ.out.keep hB.out) k Q[k] (List.getElem?_eq_getElem h2);by_cases he:P[k]=Q[k]
    ·have HE:=hi9 (hE.out.trans ((zdo h1 h2).trans (by rw [zlR he,zs])));rw [he] at a1 a2 a3 a4;generalize Q[k]=y at *;clear he hE;go_wp2_with fail;go_quiet (fail);go_wp2_with fail;go_roundw
     case rel=>exact⟨k+1,by omega,by go_num,HE,hB.out.drewN _⟩
     case measure=>simp [intOf];omega
    ·have HE:=hi9 (zeq h1 h2 he hE.out);have hne:=fun w=>zpo he w;generalize P[k]=x at *;generalize Q[k]=y at *;clear he hE;go_wp2_with fail;go_quiet (fail);go_wp2_with fail;go_ret;exact⟨zi (decide_eq_false HE.out).symm,hB.out.drewN _⟩
   ·have HE:=hi9 (hE.out.trans (zc0 (by rw [←HN.out];omega) (by rw [←HM.out];omega)));clear hE;go_wp2_with fail;go_ret;exact⟨zi (decide_eq_true HE.out).symm,hB.out⟩
 ·have HE:=hi9 (show zW P Q≠0 from fun h=>hl (by rw [HN.out,HM.out,(zdX.zero _ _).1 h]));have h3:(n != m)=true:=by rw [bne_iff_ne];exact hl
  clear hl;go_enter Tryz.func82,Tryz.ntmps82;go_wp2_with fail;go_ret;exact⟨zi (decide_eq_false HE.out).symm,Below.refl _ _⟩
theorem any_map(V:List Sl)(Q:List Nd):(V.any fun r=>decide (zW r.P Q=0))=ztj (V.map Sl.P) Q:=by
 unfold ztj;rw [List.any_map];rfl
structure Bx3(w:World)(b:Nat)(x0 x1 x2:Value):Prop where
 c0:w.cell? ⟨b,0,none⟩=some x0
 c1:w.cell? ⟨b,1,none⟩=some x1
 c2:w.cell? ⟨b,2,none⟩=some x2
 z0:w.frozen? ⟨b,0,none⟩=false
 z1:w.frozen? ⟨b,1,none⟩=false
 z2:w.frozen? ⟨b,2,none⟩=false
theorem zhu(w:World)(x0 x1 x2:Value)(t:TypeId):Bx3 (w.alloc (.cells #[x0,x1,x2] t)) w.heap.size x0 x1 x2 :=
 ⟨jg w _ _ _ rfl,jg w _ _ _ rfl,jg w _ _ _ rfl,by simp,by simp,by simp⟩
theorem Bx3.keep{w w':World}{b:Nat}{x0 x1 x2:Value}(h:Bx3 w b x0 x1 x2)(hb:Below w.heap.size w w'):Bx3 w' b x0 x1 x2 :=
 have hl:=block_lt_of_cell h.c0
 ⟨zb hb h.c0,zb hb h.c1,zb hb h.c2,by rw [(zar hb).2 b 0 hl];exact h.z0,by rw [(zar hb).2 b 1 hl];exact h.z1,by rw [(zar hb).2 b 2 hl];exact h.z2⟩
theorem Bx3.but{w w':World}{b:Nat}{x0 x1 x2:Value}{g:Option Nat}(h:Bx3 w b x0 x1 x2)(hg:w.grownBy w' g)(hn:some b≠g):Bx3 w' b x0 x1 x2 :=
 have hb:=hg.block b (block_lt_of_cell h.c0) hn
 ⟨(World.cell?_of_block (a:=⟨b,0,none⟩) hb).trans h.c0,(World.cell?_of_block (a:=⟨b,1,none⟩) hb).trans h.c1,(World.cell?_of_block (a:=⟨b,2,none⟩) hb).trans h.c2,(World.frozen?_of_block (a:=⟨b,0,none⟩) hb).trans h.z0,(World.frozen?_of_block (a:=⟨b,1,none⟩) hb).trans h.z1,(World.frozen?_of_block (a:=⟨b,2,none⟩) hb).trans h.z2⟩
theorem Bx3.set{w:World}{b:Nat}{x0 x1 x2:Value}(h:Bx3 w b x0 x1 x2)(y0 y1 y2:Value):Bx3 (((w.setCell ⟨b,0,none⟩ y0).setCell ⟨b,1,none⟩ y1).setCell ⟨b,2,none⟩ y2) b y0 y1 y2:=by
 obtain⟨c0,c1,c2,z0,z1,z2⟩:=h;refine⟨?_,?_,?_,?_,?_,?_⟩
 all_goals go_simp
theorem ze0{B b:Nat}{a w:World}(h:Below B a w)(hb:B≤b)(y0 y1 y2:Value):Below B a (((w.setCell ⟨b,0,none⟩ y0).setCell ⟨b,1,none⟩ y1).setCell ⟨b,2,none⟩ y2):=(((h.setCell (p:=⟨b,0,none⟩) hb y0).setCell (p:=⟨b,1,none⟩) hb y1).setCell (p:=⟨b,2,none⟩) hb y2)
def zqv:Option Addr→Nat
 | none=>0
 | some a=>a.block+1
def zs8:Value→Nat
 | .pointer p=>zqv p
 | _=>0
def zd7(w:World):Option Addr→zy→Prop
 | p,[]=>p=none
 | p,x :: F=>∃b A n c q,p=some ⟨b,0,none⟩∧Bx3 w b (.slice A n c) (.string x.2) (.pointer q)∧Ns w A n c x.1∧x.2.size≤maxLen∧zqv q≤b∧zd7 w q F
theorem zd7.keep{w w':World}(hb:Below w.heap.size w w'):∀ {F:zy} {p:Option Addr},zd7 w p F→zd7 w' p F
 | [],_,h=>h
 | _ :: _,_,⟨b,A,n,c,q,e,h1,h2,h3,h4,h5⟩=>⟨b,A,n,c,q,e,h1.keep hb,h2.keep hb,h3,h4,h5.keep hb⟩
theorem zd7.rank{w:World}:∀ {F:zy} {p:Option Addr},zd7 w p F→zqv p≤w.heap.size
 | [],_,h=>by rw [show _=none from h];exact Nat.zero_le _
 | _ :: _,_,⟨b,A,n,c,q,e,h1,_⟩=>by rw [e];exact block_lt_of_cell h1.c0
theorem zon(p:Option Addr)(F:zy)(A:Option Addr)(n c:Nat)(P:List Nd)(s:ByteArray)(w:World)(h:zd7 w p F)(k:Ns w A n c P):
 Calls Tryz.prog 53 #[.pointer p,.slice A n c,.string s] w fun e w'=>e = .returned (.bool (jp F P s))∧Below w.heap.size w w':=by
 have HF:=hi9 h;have HN:=hi9 k;clear h k;go_enter Tryz.func53,Tryz.ntmps53;go_wp2_with fail;go_loopw [0] (fun v wr=>∃(q:Option Addr) (G:zy),v = .pointer q∧Hid (zd7 wr q G)∧Hid (jp F P s=jp G P s)∧Hid (Below w.heap.size w wr)) (fun v _=>zs8 v)
 case atStart=>exact⟨p,F,rfl,HF,rfl,Below.refl _ _⟩
 case round =>
  obtain⟨q,G,rfl,hG,hE,hB⟩:=hrel
  cases G with
  | nil =>
   obtain rfl:q=none:=hG.out
   go_wp2_with fail
   go_ret
   exact⟨by rw [hE.out];rfl,hB.out⟩
  | cons x G =>
   obtain⟨b,A1,n1,c1,q1,rfl,R,N1,hs1,hr,hG1⟩:=hG.out
   have R1:=hi9 R
   have N2:=hi9 N1
   have G2:=hi9 hG1
   obtain⟨r0,r1,r2,z0,z1,z2⟩:=R
   clear hG hG1 N1 z0 z1 z2
   by_cases hs:x.2=s
   ·rw [hs] at r1
    have EQ:=hi9 (zkQ A1 A n1 n c1 c x.1 P wr N2.out.len HN.out.len N2.out.max HN.out.max N2.out.at_ ((HN.out.keep hB.out).at_));by_cases he:zW x.1 P=0
    ·have HT:=hi9 (show jp F P s=true by rw [hE.out];simp [jp,hs,he]);rw [decide_eq_true he] at EQ;clear hE he R1 r2 N2 G2;go_wp2_with fail;refine EQ.out.mono ?_;rintro e w2 ⟨rfl,b2⟩;have B2:=bh hB b2;clear EQ b2 hB;go_wp2_with fail;go_ret;exact⟨by rw [HT.out];rfl,B2.out⟩
    ·have HT:=hi9 (show jp F P s=jp G P s by rw [hE.out];simp [jp,hs,he]);rw [decide_eq_false he] at EQ;clear hE he r2 N2;go_wp2_with fail;refine EQ.out.mono ?_;rintro e w2 ⟨rfl,b2⟩;have B2:=bh hB b2;obtain⟨r0',r1',r2',z0',z1',z2'⟩:=R1.out.keep b2;have G3:=hi9 (G2.out.keep b2);clear EQ b2 hB R1 r0 r1 r0' r1' z0' z1' z2';go_wp2_with fail;go_roundw
     case rel=>exact⟨q1,G,rfl,G3,HT,B2⟩
     case measure=>exact Nat.lt_succ_of_le hr
   ·have HT:=hi9 (show jp F P s=jp G P s by rw [hE.out];simp [jp,hs])
    have f6:(x.2.toList==s.toList)=false:=beq_eq_false_iff_ne.2 (fun q=>hs (toList_inj q));generalize x.2=y at *;clear hE hs N2;go_wp2_with fail;go_roundw
    case rel=>exact⟨q1,G,rfl,G2,HT,hB⟩
    case measure=>exact Nat.lt_succ_of_le hr
theorem zkW{ps:Exs}(h:ps.len=1):∃a,ps = .cons a .nil:=by
 cases ps with
 | nil=>simp [Exs.len] at h
 | cons a r=>cases r with
  | nil=>exact⟨a,rfl⟩
  | cons b r=>simp [Exs.len] at h
theorem zsY{ps:Exs}(h:ps.len=2):∃a b,ps = .cons a (.cons b .nil):=by
 cases ps with
 | nil=>simp [Exs.len] at h
 | cons a r =>
  simp only [Exs.len] at h
  obtain⟨b,rfl⟩:=zkW (ps:=r) (by omega)
  exact⟨a,b,rfl⟩
structure zkS(w:World)(A:Option Addr)(k:Nat)(r:Sl)(x:Ex):Prop where
 cell:∃a,A=some a∧w.cell? (a.add k)=some (.slice r.A r.n r.c)
 ns:Ns w r.A r.n r.c x.flat
theorem zcT{w:World}{A:Option Addr}{V:List Sl}{L:List Ex}(h:za4 w A V)(hm:V.map Sl.P=L.map Ex.flat){k:Nat}{x:Ex}(hk:L[k]?=some x):∃r,V[k]?=some r∧zkS w A k r x:=by
 have h1:(V.map Sl.P)[k]?=some x.flat:=by rw [hm,List.getElem?_map,hk];rfl
 rw [List.getElem?_map] at h1;rcases hv:V[k]? with _|r
 ·rw [hv] at h1;cases h1
 ·rw [hv] at h1;obtain⟨a,e1,e2,e3⟩:=h k r hv;injection h1 with h1;exact⟨r,rfl,⟨a,e1,e2⟩,h1 ▸ e3⟩
theorem zkS.keep{w w':World}{A:Option Addr}{k:Nat}{r:Sl}{x:Ex}(h:zkS w A k r x)(hb:Below w.heap.size w w'):zkS w' A k r x :=
 ⟨let ⟨a,e1,e2⟩:=h.cell;⟨a,e1,zb hb e2⟩,h.ns.keep hb⟩
def znW(w:World)(F:zy)(e:Ending)(w':World):Prop:=∃q,e = .returned (.pointer q)∧zd7 w' q F∧Below w.heap.size w w'
def zts(N:Nat):Prop:=∀(A:Option Addr) (n c:Nat) (x:Ex) (f:Bool) (p:Option Addr) (F:zy) (w:World),Ns w A n c x.flat→n≤4000→x.valid f→n≤N→zd7 w p F→
 Calls Tryz.prog 45 #[.slice A n c,.pointer p] w (znW w (zbw x F))
theorem zaN(w:World):Below w.heap.size w w.drew:=⟨rfl,rfl,rfl,Nat.le_refl _,fun _ _=>rfl⟩
theorem zo7{f:Bool}{y:Nd}(h:zad f y=true)(h21:y.op=21):y.s.size≤maxLen:=by
 unfold zad at h;rw [Bool.and_eq_true] at h;have h1:=h.1;unfold jv at h1;rw [if_neg (by omega)] at h1;split at h1
 ·cases h1
 ·rw [if_neg (by omega),if_pos (Or.inl h21)] at h1;have:=zic (of_decide_eq_true h1);unfold maxLen;omega
theorem zpA{w w1:World}{A:Option Addr}{n c:Nat}{P:List Nd}{s:ByteArray}{p:Option Addr}{F:zy}(o:Obj)(b:Below w.heap.size w w1)(hN:Ns w1 A n c P)(hF:zd7 w1 p F)(hs:s.size≤maxLen)(t:TypeId):
 znW w ((P,s):: F) (.returned (.pointer (some ⟨w1.heap.size+1,0,none⟩))) ((w1.alloc o).alloc (.cells #[.slice A n c,.string s,.pointer p] t)).drew:=by
 have k1:=za w1 o;have hz:(w1.alloc o).heap.size=w1.heap.size+1:=by simp
 have k2:=za (w1.alloc o) (.cells #[.slice A n c,.string s,.pointer p] t);have k3:=zaN ((w1.alloc o).alloc (.cells #[.slice A n c,.string s,.pointer p] t));have k4:=k1.trans (k2.mono k1.size);have k5:=k4.trans (k3.mono k4.size);refine⟨_,rfl,⟨w1.heap.size+1,A,n,c,p,rfl,?_,hN.keep k5,hs,Nat.le_succ_of_le hF.rank,hF.keep k5⟩,b.trans (k5.mono b.size)⟩;have h:=(zhu (w1.alloc o) (.slice A n c) (.string s) (.pointer p) t).keep k3;rw [hz] at h;exact h
theorem zdD:∀N:Nat,zts N
 | 0=>fun A n c x f p F w h _ _ hN _=>by
  have h1:=h.len;have h2:=zZ x;omega
 | N+1=>fun A n c x f p F w h hn hv hN hF=>by
  have IH:=hi9 (zdD N);have K:=hi9 (zdp A n c x f w h hn hv);have HL:=h.len;obtain⟨y,ps⟩:=x;have hlen:=hv.2.1;have hhd:=hv.1;have hvp:=hi9 hv.2.2;have HF:=hi9 hF;have HT:=hi9 (show n=ps.flat.length+1 by rw [HL];simp [Ex.flat]);clear h hF hv HL;simp only [Ex.head,Ex.parts] at K;by_cases h21:y.op=21
  ·obtain⟨a,rfl⟩:=zkW (ps:=ps) (by rw [show zp y=1 by unfold zp;simp [h21]] at hlen;omega);have HB:=hi9 (show zbw (.node y (.cons a .nil)) F=(a.flat,y.s):: F by simp [zbw,h21,zng]);have HS:=hi9 (zo7 hhd h21);clear hlen hhd;go_enter Tryz.func45,Tryz.ntmps45;go_wp2_with fail;refine K.out.mono ?_;rintro e w1 ⟨A',c',V,rfl,hc,hS,hm,b1⟩;obtain⟨r,hr,hp⟩:=zcT hS hm (k:=0) (x:=a) rfl;obtain⟨⟨A1,rfl,q0⟩,N0⟩:=hp;rw [show A1.add 0=A1 from rfl] at q0;have hV:0<V.length:=by rw [List.getElem?_eq_some_iff] at hr;exact hr.1
   generalize V.length=m at *;have B1:=hi9 b1;have N1:=hi9 N0;have F1:=hi9 (HF.out.keep b1);clear hS hm b1 N0 hr hc K;have q1:=zb (za w1 (.cells #[.int .i64 21,.int .i64 y.n,.string y.s,.string y.t] 41)) q0;unfold ndV;rw [h21];go_wp2_with fail;go_region_with (fail)
   all_goals (go_wp2_with fail)
   all_goals go_ret
   all_goals (rw [HB.out];exact zpA _ B1.out N1.out F1.out HS.out _)
  ·by_cases h11:y.op=11
   ·obtain⟨a,b,rfl⟩:=zsY (ps:=ps) (by rw [show zp y=2 by unfold zp;simp [h11]] at hlen;omega);have HB:=hi9 (show zbw (.node y (.cons a (.cons b .nil))) F=zbw b (zbw a F) by simp [zbw,h11,zeR]);clear hlen hhd;have HLa:=hi9 (show a.flat.length+b.flat.length=n-1 by have:=HT.out;simp [Exs.flat] at this;omega);go_enter Tryz.func45,Tryz.ntmps45;go_wp2_with fail;refine K.out.mono ?_;rintro e w1 ⟨A',c',V,rfl,hc,hS,hm,b1⟩;obtain⟨r,hr,hp⟩:=zcT hS hm (k:=0) (x:=a) rfl;obtain⟨r',hr',hp'⟩:=zcT hS hm (k:=1) (x:=b) rfl;obtain⟨⟨A1,rfl,q0⟩,N0⟩:=hp;obtain⟨⟨A2,e2,q2⟩,N2⟩:=hp';obtain rfl:A1=A2:=Option.some.inj e2;rw [show A1.add 0=A1 from rfl] at q0;have hV:1<V.length:=by rw [List.getElem?_eq_some_iff] at hr';exact hr'.1
    generalize V.length=m at *;have B1:=hi9 b1;have N1:=hi9 N0;have N3:=hi9 N2;have F1:=hi9 (HF.out.keep b1);have q1:=zb (za w1 (.cells #[.int .i64 11,.int .i64 y.n,.string y.s,.string y.t] 41)) q0;have q3:=zb (za w1 (.cells #[.int .i64 11,.int .i64 y.n,.string y.s,.string y.t] 41)) q2;clear hS hm b1 N0 hr hc K e2 N2 hr';unfold ndV;rw [h11];go_wp2_with fail;have bD:=(za w1 (.cells #[.int .i64 11,.int .i64 y.n,.string y.s,.string y.t] 41)).trans ((zaN (w1.alloc (.cells #[.int .i64 11,.int .i64 y.n,.string y.s,.string y.t] 41))).mono (by simp));have QD:=hi9 (zb bD q2);have p1:=zb bD q0;have p3:((w1.alloc (.cells #[.int .i64 11,.int .i64 y.n,.string y.s,.string y.t] 41)).drew).cell? ⟨A1.block,A1.off+1,none⟩=some (.slice r'.A r'.n r'.c):=zb bD q2;have ND:=hi9 (N1.out.keep bD);have N3D:=hi9 (N3.out.keep bD);have FD:=hi9 (F1.out.keep bD);have BD:=hi9 (B1.out.trans (bD.mono B1.out.size));have ha1:=N1.out.len;have hb1:=N3.out.len;have HLL:=HLa.out;have pa:=zZ a;have pb:=zZ b;obtain⟨-,va,-,vb,-⟩:=hvp.out;have HVA:=hi9 va;have HVB:=hi9 vb;have HC1:=hi9 (show r.n≤4000∧r.n≤N by omega);have HC2:=hi9 (show r'.n≤4000∧r'.n≤N by omega);clear ha1 hb1 HLL pa pb va vb bD N1 N3 F1 HT HLa hvp HF;have hV0:(1:Int)<(m:Int):=by omega
    go_region_with (first
     |(go_at_call 45;(refine(IH.out _ _ _ b _ _ (zbw a F) _ N5.out HC2.out.1 HVB.out HC2.out.2 F5.out).mono ?_);rintro e2 w6 ⟨p6,rfl,hF6,b6⟩;(have F6:=hi9 hF6);(have B6:=hi9 (B5.out.trans (b6.mono B5.out.size)));clear hF6 b6)
     |(go_at_call 45;(refine(IH.out _ _ _ a _ _ F _ ND.out HC1.out.1 HVA.out HC1.out.2 FD.out).mono ?_);rintro e w5 ⟨p5,rfl,hF5,b5⟩;(have QE:w5.cell? ⟨A1.block,A1.off+1,none⟩=some (.slice r'.A r'.n r'.c):=zb b5 QD.out);(have N5:=hi9 (N3D.out.keep b5));(have F5:=hi9 hF5);(have B5:=hi9 (BD.out.trans (b5.mono BD.out.size)));clear hF5 b5))
    all_goals (go_wp2_with fail)
    all_goals go_ret
    all_goals (rw [HB.out];exact⟨p6,rfl,F6.out,B6.out⟩)
   ·have HB:=hi9 (show zbw (.node y ps) F=F by simp [zbw,h21,h11]);generalize zbw (.node y ps) F=F' at *;go_enter Tryz.func45,Tryz.ntmps45;go_wp2_with fail;refine K.out.mono ?_;rintro e w1 ⟨A',c',V,rfl,hc,hS,hm,b1⟩;have B1:=hi9 b1;clear hc hS hm b1 K;have f1:(y.op==21)=false:=beq_eq_false_iff_ne.2 h21;have f2:(y.op==11)=false:=beq_eq_false_iff_ne.2 h11;unfold ndV;go_wp2_with fail;go_ret;have B2:=B1.out.trans ((za w1 (.cells #[.int .i64 y.op,.int .i64 y.n,.string y.s,.string y.t] 41)).mono B1.out.size);exact⟨p,rfl,by rw [HB.out];exact HF.out.keep B2,B2⟩
def ziS(w:World)(a:Addr)(u:List Value):Prop:=∀(j:Nat) (x:Value),u[j]?=some x→w.cell? (a.add j)=some x
mutual
def KAt(w:World)(B:Nat→Prop):Kd→List Value→Prop
 | .base x,v=>∃n:Int,v = [.int .i64 x,.int .i64 n,.string emp,.string emp,.pointer none,.slice none 0 0]
 | .ent s,v=>∃n:Int,v = [.int .i64 44,.int .i64 n,.string s,.string emp,.pointer none,.slice none 0 0]
 | .set q,v=>∃(n:Int) (b:Nat) (u:List Value),v = [.int .i64 45,.int .i64 n,.string emp,.string emp,.pointer (some ⟨b,0,none⟩),.slice none 0 0]∧B b∧ziS w ⟨b,0,none⟩ u∧KAt w B q u
 | .fs f,v=>∃(n:Int) (A:Option Addr) (c:Nat),v = [.int .i64 46,.int .i64 n,.string emp,.string emp,.pointer none,.slice A f.len c]∧f.len≤c∧c≤maxLen∧FAt w B A 0 f
def FAt(w:World)(B:Nat→Prop):Option Addr→Nat→Fl→Prop
 | _,_,.nil=>True
 | A,i,.cons s m k r=>(∃(a:Addr) (u:List Value),A=some a∧B a.block∧ziS w (a.add (i*8)) (.string s :: .bool m :: u)∧KAt w B k u)∧FAt w B A (i+1) r
end
theorem ziS.cong{w w':World}{a:Addr}{u:List Value}(h:ziS w a u)(hb:w'.heap[a.block]?=w.heap[a.block]?):ziS w' a u:=fun j x hx=>by
 have:=h j x hx;rw [←this];exact World.cell?_of_block (by rw [jx];exact hb)
theorem zh9{w w':World}{B:Nat→Prop}(hB:∀b,B b→w'.heap[b]?=w.heap[b]?):∀(n:Nat),(∀k v,k.sz≤n→KAt w B k v→KAt w' B k v)∧(∀f A i,f.sz≤n→FAt w B A i f→FAt w' B A i f)
 | 0=>by
  refine⟨fun k v h=>by cases k <;> simp [Kd.sz] at h,fun f A i h hf=>?_⟩
  cases f with
  | nil=>trivial
  | cons s m k r=>simp [Fl.sz] at h
 | n+1=>by
  obtain⟨ihK,ihF⟩:=zh9 hB n;refine⟨fun k v h hk=>?_,fun f A i h hf=>?_⟩
  ·cases k with
   | base x=>exact hk
   | ent s=>exact hk
   | set q =>
    simp only [Kd.sz] at h
    obtain⟨m,b,u,e,h1,h2,h3⟩:=hk
    exact⟨m,b,u,e,h1,h2.cong (hB b h1),ihK q u (by omega) h3⟩
   | fs f =>
    simp only [Kd.sz] at h
    obtain⟨m,A,c,e,h1,h2,h3⟩:=hk
    exact⟨m,A,c,e,h1,h2,ihF f A 0 (by omega) h3⟩
  ·cases f with
   | nil=>trivial
   | cons s m k r =>
    simp only [Fl.sz] at h
    obtain⟨⟨a,u,e,h1,h2,h3⟩,h4⟩:=hf
    exact⟨⟨a,u,e,h1,h2.cong (by rw [jx];exact hB _ h1),ihK k u (by omega) h3⟩,ihF r A (i+1) (by omega) h4⟩
theorem zbb{w:World}{B B':Nat→Prop}(hB:∀b,B b→b<w.heap.size→B' b):∀(n:Nat),(∀k v,k.sz≤n→KAt w B k v→KAt w B' k v)∧(∀f A i,f.sz≤n→FAt w B A i f→FAt w B' A i f)
 | 0=>by
  refine⟨fun k v h=>by cases k <;> simp [Kd.sz] at h,fun f A i h hf=>?_⟩
  cases f with
  | nil=>trivial
  | cons s m k r=>simp [Fl.sz] at h
 | n+1=>by
  obtain⟨ihK,ihF⟩:=zbb hB n;refine⟨fun k v h hk=>?_,fun f A i h hf=>?_⟩
  ·cases k with
   | base x=>exact hk
   | ent s=>exact hk
   | set q =>
    simp only [Kd.sz] at h
    obtain⟨m,b,u,e,h1,h2,h3⟩:=hk
    have hlt:b<w.heap.size:=by
     have hu:∃x,u[0]?=some x:=by
      cases q with
      | base x=>obtain⟨_,rfl⟩:=h3;exact⟨_,rfl⟩
      | ent s=>obtain⟨_,rfl⟩:=h3;exact⟨_,rfl⟩
      | set q=>obtain⟨_,_,_,rfl,_⟩:=h3;exact⟨_,rfl⟩
      | fs f=>obtain⟨_,_,_,rfl,_⟩:=h3;exact⟨_,rfl⟩
     obtain⟨x,hx⟩:=hu;exact block_lt_of_cell (h2 0 x hx)
    exact⟨m,b,u,e,hB b h1 hlt,h2,ihK q u (by omega) h3⟩
   | fs f =>
    simp only [Kd.sz] at h
    obtain⟨m,A,c,e,h1,h2,h3⟩:=hk
    exact⟨m,A,c,e,h1,h2,ihF f A 0 (by omega) h3⟩
  ·cases f with
   | nil=>trivial
   | cons s m k r =>
    simp only [Fl.sz] at h
    obtain⟨⟨a,u,e,h1,h2,h3⟩,h4⟩:=hf
    have hlt:a.block<w.heap.size:=by
     have:=block_lt_of_cell (h2 0 _ rfl);rwa [jx,jx] at this
    exact⟨⟨a,u,e,hB _ h1 hlt,h2,ihK k u (by omega) h3⟩,ihF r A (i+1) (by omega) h4⟩
theorem KAt.cong{w w':World}{B:Nat→Prop}{k:Kd}{v:List Value}(h:KAt w B k v)(hB:∀b,B b→w'.heap[b]?=w.heap[b]?):KAt w' B k v:=(zh9 hB _).1 k v (Nat.le_refl _) h
theorem KAt.mono{w:World}{B B':Nat→Prop}{k:Kd}{v:List Value}(h:KAt w B k v)(hB:∀b,B b→b<w.heap.size→B' b):KAt w B' k v:=(zbb hB _).1 k v (Nat.le_refl _) h
theorem FAt.cong{w w':World}{B:Nat→Prop}{A:Option Addr}{i:Nat}{f:Fl}(h:FAt w B A i f)(hB:∀b,B b→w'.heap[b]?=w.heap[b]?):FAt w' B A i f:=(zh9 hB _).2 f A i (Nat.le_refl _) h
theorem FAt.mono{w:World}{B B':Nat→Prop}{A:Option Addr}{i:Nat}{f:Fl}(h:FAt w B A i f)(hB:∀b,B b→b<w.heap.size→B' b):FAt w B' A i f:=(zbb hB _).2 f A i (Nat.le_refl _) h
structure RdK(w:World)(R:Nat)(Q:List Nd):Prop where
 c0:∃(A:Option Addr) (n c:Nat),w.cell? ⟨R,0,none⟩=some (.slice A n c)∧Ns w A n c Q∧(0<Q.length→∀a,A=some a→a.block<R)
 f0:w.frozen? ⟨R,0,none⟩=false
theorem RdK.keep{w w':World}{R:Nat}{Q:List Nd}(h:RdK w R Q)(hb:Below w.heap.size w w'):RdK w' R Q:=by
 obtain⟨⟨A,n,c,h1,h2,h3⟩,h4⟩:=h;exact⟨⟨A,n,c,zb hb h1,h2.keep hb,h3⟩,(hb.frozen (p:=⟨R,0,none⟩) (block_lt_of_cell h1)).trans h4⟩
abbrev zim:List PanicEntry := [{ v := .iface 193 (.agg #[]),recovered:=false }]
def zpZ(w:World)(R:Nat):List Nd→Ending→World→Prop
 | [],e,w'=>e = .panicked zim∧w.grownBy w' (some R)
 | x :: r,e,w'=>e = .returned (ndV x)∧RdK w' R r∧w.grownBy w' (some R)
theorem zfR{w:World}{a:Addr}{n c:Nat}{x:Nd}{r:List Nd}(h:Ns w (some a) n c (x :: r)):Ns w (some (a.add 4)) (n-1) (c-1) r:=by
 have hl:=h.len;have hc:=h.cap;have hm:=h.max;rw [List.length_cons] at hl;refine⟨by omega,by omega,by omega,fun k y hy=>?_,fun y hy=>h.ok y (by simp [hy])⟩;obtain⟨b,e,q0,q1,q2,q3⟩:=h.at_ (k+1) y (by simpa using hy);injection e with e;subst e;refine⟨_,rfl,?_⟩;rw [add_add,show 4+k*4=(k+1)*4 by omega];exact⟨q0,q1,q2,q3⟩
theorem zbT(R:Nat)(Q:List Nd)(w:World)(h:RdK w R Q):
 Calls Tryz.prog 123 #[.pointer (some ⟨R,0,none⟩)] w (zpZ w R Q):=by
 obtain⟨⟨A,n,c,e0,hns0,hap⟩,g0⟩:=h;have hlt:R<w.heap.size:=block_lt_of_cell e0;have hb:=za w (.cells #[.int .i64 0,.int .i64 0,.string ⟨#[]⟩,.string ⟨#[]⟩] 41);have c0:=zb hb e0;have f0:=(hb.frozen (p:=⟨R,0,none⟩) hlt).trans g0;have hns:=hns0.keep hb;have hne:R≠w.heap.size:=by omega
 have hne2:w.heap.size≠R:=by omega
 clear hb
 cases Q with
 | nil =>
  have hn:n=0:=hns.len
  subst hn
  clear hns hns0 hap
  go_enter Tryz.func123,Tryz.ntmps123
  go_wp2_with fail
  exact⟨rfl,rfl,zc (za w _) _⟩
 | cons x r =>
  have HN:=hi9 hns.len
  have hc:=hns.cap
  have hm:=hns.max
  unfold maxLen at hm
  have hn1:1≤n:=by rw [hns.len,List.length_cons];omega
  obtain⟨a,rfl,q0,q1,q2,q3⟩:=hns.at_ 0 x rfl
  rw [show a.add (0*4)=a from rfl] at q0 q1 q2 q3
  have HNS0:=hi9 hns0
  have HAL:=hi9 (hap (by simp) a rfl)
  have HAP:=hi9 (Nat.ne_of_lt HAL.out)
  clear hns hns0 hap
  go_enter Tryz.func123,Tryz.ntmps123
  go_wp2_with fail
  all_goals
   rename_i h1;have hg:∀v o1 o2,w.grownBy (((w.setCell ⟨R,0,none⟩ v).alloc o1).alloc o2) (some R):=fun v o1 o2=>zd8 (zd8 (zg w ⟨R,0,none⟩ v) o1) o2;have hc0:∀v o1 o2,(((w.setCell ⟨R,0,none⟩ v).alloc o1).alloc o2).cell? ⟨R,0,none⟩=some v:=fun v o1 o2=>zb (za _ _) (zb (za _ _) (World.cell?_setCell_same _ _ _ e0));have hf0:∀v o1 o2,(((w.setCell ⟨R,0,none⟩ v).alloc o1).alloc o2).frozen? ⟨R,0,none⟩=false:=fun v o1 o2=>by
    rw [((za _ _).frozen (p:=⟨R,0,none⟩) (by simp [World.setCell];omega)),((za _ _).frozen (p:=⟨R,0,none⟩) (by simp [World.setCell];omega)),World.frozen?_setCell];exact g0
  ·have hr0:r = []:=List.eq_nil_of_length_eq_zero (by have:=HN.out;rw [List.length_cons] at this;omega)
   subst hr0;refine bodyPost_ret (v:=ndV x) (by simp [results,Tryz.results123,go_sem,ndV]) rfl ⟨rfl,⟨⟨_,_,_,hc0 _ _ _,⟨by have:=HN.out;simp at this;simp;omega,by omega,by unfold maxLen;omega,(fun k x hx=>by simp at hx),(fun x hx=>nomatch hx)⟩,fun h=>absurd h (by simp)⟩,hf0 _ _ _⟩,hg _ _ _⟩
  ·refine bodyPost_ret (v:=ndV x) (by simp [results,Tryz.results123,go_sem,ndV]) rfl ⟨rfl,⟨⟨_,_,_,hc0 _ _ _,by simpa [Addr.add] using(zfR HNS0.out).but (hg _ _ _) (fun _ b e=>by injection e with e;subst e;exact HAP.out),fun _ b e=>by injection e with e;subst e;exact HAL.out⟩,hf0 _ _ _⟩,hg _ _ _⟩
def zgl(w:World)(A:Option Addr)(L:List Int):Prop:=∀(k:Nat) (x:Int),L[k]?=some x→∃a,A=some a∧w.cell? (a.add k)=some (.int .i64 x)
theorem znA(A:Option Addr)(n c:Nat)(L:List Int)(s:Int)(w:World)(hn:n=L.length)(hm:n≤1000)(h:zgl w A L):
 Calls Tryz.prog 100 #[.slice A n c,.int .i64 s] w fun e w'=>(∃k:Int,e = .returned (.int .i64 k)∧(0≤k↔L.contains s=true))∧Below w.heap.size w w':=by
 have HL:=hi9 hn;have HT:=hi9 h;clear h hn;go_enter Tryz.func100,Tryz.ntmps100;go_wp2_with fail;go_loopw [5,8] (fun _ i wr=>∃k:Nat,i = .int .i64 k∧k≤n∧Hid ((L.take k).contains s=false)∧w=wr) (fun _ i _=>n-(intOf i).toNat)
 case atStart=>exact⟨0,rfl,Nat.zero_le _,hi9 rfl,rfl⟩
 case round =>
  obtain⟨k,rfl,hk,hF,rfl⟩:=hrel;by_cases hlt:k<n
  ·have hkn:k<L.length:=by rw [←HL.out];exact hlt
   obtain⟨a,rfl,q⟩:=HT.out k L[k] (List.getElem?_eq_getElem hkn);by_cases hs:L[k]=s
   ·have HR:=hi9 (show L.contains s=true by rw [List.contains_iff_mem];rw [←hs];exact List.getElem_mem hkn);rw [hs] at q;clear hF hs;go_wp2_with fail;go_ret;exact⟨⟨k,rfl,by rw [HR.out];simp⟩,Below.refl _ _⟩
   ·have HF:=hi9 (show(L.take (k+1)).contains s=false by
     rw [List.take_succ_eq_append_getElem hkn,List.contains_append,hF.out]
     simp only [List.contains_cons,List.contains_nil,Bool.or_false,Bool.false_or]
     exact beq_eq_false_iff_ne.2 fun e=>hs e.symm)
    have f6:(s==L[k])=false:=beq_eq_false_iff_ne.2 fun e=>hs e.symm
    generalize L[k]=y at *
    clear hF hs
    go_wp2_with fail
    go_roundw
    case rel=>exact⟨k+1,by go_num,hlt,HF,trivial⟩
    case measure=>simp [intOf];omega
  ·have HR:=hi9 (show L.contains s=false by
    have:=hF.out
    rwa [List.take_of_length_le (by rw [←HL.out];omega)] at this)
   clear hF
   go_wp2_with fail
   go_ret
   exact⟨⟨-1,rfl,by rw [HR.out];simp⟩,Below.refl _ _⟩
theorem zjl(A:Option Addr)(n c:Nat)(L:List Int)(s:Int)(w:World)(hn:n=L.length)(hm:n≤1000)(h:zgl w A L):
 Calls Tryz.prog 78 #[.slice A n c,.int .i64 s] w fun e w'=>e = .returned (.bool (L.contains s))∧Below w.heap.size w w':=by
 have K:=hi9 (znA A n c L s w hn hm h);clear h hn hm;go_enter Tryz.func78,Tryz.ntmps78;go_wp2_with fail;refine K.out.mono ?_;rintro e w1 ⟨⟨k,rfl,hk⟩,b1⟩;have B1:=hi9 b1;have HK:=hi9 (show decide (0≤k)=L.contains s by
  rcases hu:L.contains s with _|_
  ·exact decide_eq_false (fun h=>by have:=hk.1 h;rw [hu] at this;cases this)
  ·exact decide_eq_true (hk.2 hu))
 clear hk b1;go_wp2_with fail;go_ret;exact⟨by rw [←HK.out];rfl,B1.out⟩
abbrev zd0 (k:Int):List PanicEntry := [{ v := .iface 28 (.int .i64 k),recovered:=false }]
theorem zlQ(A:Option Addr)(n c:Nat)(w:World)(hn:n≤100000):Calls Tryz.prog 51 #[.slice A n c] w fun e w'=>e=(if 200<n then .panicked (zd0 4) else .returned (.slice A n c))∧Below w.heap.size w w':=by
 by_cases h:200<n
 ·have HP:=hi9 (show(if 200<n then Ending.panicked (zd0 4) else .returned (.slice A n c))= .panicked (zd0 4) from if_pos h);generalize (if 200<n then Ending.panicked (zd0 4) else .returned (.slice A n c))=E at *;have hi:(200:Int)<(n:Int):=by omega
  go_enter Tryz.func51,Tryz.ntmps51;go_wp2_with fail;exact⟨rfl,by rw [HP.out],Below.refl _ _⟩
 ·have HP:=hi9 (show(if 200<n then Ending.panicked (zd0 4) else .returned (.slice A n c))= .returned (.slice A n c) from if_neg h);generalize (if 200<n then Ending.panicked (zd0 4) else .returned (.slice A n c))=E at *;have hi:¬(200:Int)<(n:Int):=by omega
  go_enter Tryz.func51,Tryz.ntmps51;go_wp2_with fail;go_ret;exact⟨by rw [HP.out];rfl,Below.refl _ _⟩
theorem zpf(A:Option Addr)(n c:Nat)(x:Nd)(r:List Nd)(B:Option Addr)(m d:Nat)(L:List Int)(w:World)(h:Ns w A n c (x :: r))(hm:m=L.length)(hm2:m≤1000)(k:zgl w B L):
 Calls Tryz.prog 46 #[.slice A n c,.slice B m d] w fun e w'=>e=(if x.op=49∨L.contains x.op=true then .returned (.tuple #[]) else .panicked (zd0 2))∧Below w.heap.size w w':=by
 have K:=hi9 (zjl B m d L x.op w hm hm2 k);obtain⟨a,rfl,d0,-,-,-⟩:=h.at_ 0 x rfl;rw [show a.add (0*4)=a from rfl] at d0;have hn:(0:Int)<(n:Int):=by rw [h.len];simp
 clear h k hm hm2;generalize x.op=o at *;by_cases h49:o=49
 ·subst h49;rw [if_pos (Or.inl rfl)];clear K;go_enter Tryz.func46,Tryz.ntmps46;go_wp2_with fail;exact⟨rfl,.tuple #[],by simp [results,Tryz.results46,go_sem],rfl,Below.refl _ _⟩
 ·have f1:(o != 49)=true:=by rw [bne_iff_ne];exact h49
  rcases hc:L.contains o with _|_
  ·rw [hc] at K;rw [if_neg (by intro q;rcases q with q|q;exact h49 q;cases q)];clear hc h49;go_enter Tryz.func46,Tryz.ntmps46;go_wp2_with fail;refine K.out.mono ?_;rintro e w1 ⟨rfl,b1⟩;have B1:=hi9 b1;clear b1 K;go_wp2_with fail;exact⟨rfl,rfl,B1.out⟩
  ·rw [hc] at K;rw [if_pos (Or.inr rfl)];clear hc h49;go_enter Tryz.func46,Tryz.ntmps46;go_wp2_with fail;refine K.out.mono ?_;rintro e w1 ⟨rfl,b1⟩;have B1:=hi9 b1;clear b1 K;go_wp2_with fail;exact⟨rfl,.tuple #[],by simp [results,Tryz.results46,go_sem],rfl,B1.out⟩
theorem ze9(k:Kd):∃y r,k.flat=y :: r∧y.op=kOp k:=by
 cases k <;> exact⟨_,_,rfl,rfl⟩
theorem za8(k:Kd)(a b:Int):zj [a,b] k=(decide (kOp k=a)||(decide (kOp k=b)|| decide (kOp k=49))):=by
 unfold zj;rw [Bool.eq_iff_iff];simp only [List.contains_cons,List.contains_nil,Bool.or_false,Bool.or_eq_true,decide_eq_true_eq,beq_iff_eq];omega
theorem zeA(A:Option Addr)(n c:Nat)(k:Kd)(E a b:Int)(w:World)(h:Ns w A n c k.flat):
 Calls Tryz.prog 33 #[.agg #[.slice A n c,.int .i64 E],.int .i64 a,.int .i64 b] w fun e w'=>e = .returned (.bool (zj [a,b] k))∧Below w.heap.size w w':=by
 obtain⟨y,r,hf,ho⟩:=ze9 k;have hn:0<n:=by rw [h.len,hf];simp
 obtain⟨p,rfl,d0,-⟩:=h.at_ 0 y (by rw [hf];rfl);rw [ho] at d0;have B0:=za w (.cells #[.slice (some p) n c,.int .i64 E] 30);have x0:=zb B0 d0;rw [show p.add (0*4)=p from rfl] at x0;have HB:=hi9 B0;have HM:=hi9 (za8 k a b);generalize kOp k=o at *;clear h hf ho d0 B0;by_cases h1:o=a
 ·have f1:(o==a)=true:=beq_iff_eq.2 h1;have HR:=hi9 (show zj [a,b] k=true by rw [HM.out];simp [h1]);clear HM h1;go_enter Tryz.func33,Tryz.ntmps33;go_wp2_with fail;go_ret;exact⟨zi HR.out.symm,HB.out⟩
 by_cases h2:o=b
 ·have f1:(o==a)=false:=beq_eq_false_iff_ne.2 h1;have f2:(o==b)=true:=beq_iff_eq.2 h2;have HR:=hi9 (show zj [a,b] k=true by rw [HM.out];simp [h2]);clear HM h1 h2;go_enter Tryz.func33,Tryz.ntmps33;go_wp2_with fail;go_ret;exact⟨zi HR.out.symm,HB.out⟩
 ·have f1:(o==a)=false:=beq_eq_false_iff_ne.2 h1;have f2:(o==b)=false:=beq_eq_false_iff_ne.2 h2;have HR:=hi9 (show zj [a,b] k=(o==49) by rw [HM.out,decide_eq_false h1,decide_eq_false h2,Bool.false_or,Bool.false_or];exact Bool.eq_iff_iff.2 (by rw [decide_eq_true_eq,beq_iff_eq]));clear HM h1 h2;go_enter Tryz.func33,Tryz.ntmps33;go_wp2_with fail;go_ret;exact⟨zi HR.out.symm,HB.out⟩
end Go.Proofs.YtjcdeikbghjpkaaGreatDoor
namespace Go.Proofs.YtjcdeikbghjpkaaGreatDoor
open Go.RowKit
theorem zgb(w:World):(callFunc 157 #[]).run Tryz.prog w = .ok (.value (.tuple #[])) w:=run_call_mark0 Tryz.func157 (by kernel_rfl) (by kernel_rfl) (by kernel_rfl) .disable (by kernel_rfl) w
theorem zgP(w:World):(callFunc 159 #[]).run Tryz.prog w = .ok (.value (.tuple #[])) w:=run_call_mark0 Tryz.func159 (by kernel_rfl) (by kernel_rfl) (by kernel_rfl) .enable (by kernel_rfl) w
theorem zk4(a:Addr)(w:World):(callFunc 160 #[.pointer (some a)]).run Tryz.prog w = .ok (.value (.tuple #[])) w:=run_call_marked Tryz.func160 (by kernel_rfl) (by kernel_rfl) (by kernel_rfl) .acquire (by kernel_rfl) a w
theorem zf7(a:Addr)(w:World):(callFunc 162 #[.pointer (some a)]).run Tryz.prog w = .ok (.value (.tuple #[])) w:=run_call_marked Tryz.func162 (by kernel_rfl) (by kernel_rfl) (by kernel_rfl) .releaseMerge (by kernel_rfl) a w
theorem ziO(a:Addr)(x:Value)(u:FrameMode)(w:World)(hc:w.cell? a=some x)(hz:w.frozen? a=false):
 CallsD Tryz.prog 128 #[.pointer (some a),.bool true] u w fun e u' w'=>u'=u∧(e = .returned (.tuple #[])∧w'=w.drew.setCell a (.int .u32 1)):=by
 have hc':w.drew.cell? a=some x:=by go_simp
 have hz':w.drew.frozen? a=false:=by go_simp
 have hst:=run_call_store (P:=Tryz.prog) Tryz.func140 (by kernel_rfl) (by kernel_rfl) (by kernel_rfl) (by kernel_rfl) (k := .u32) (y:=1) hc' hz';go_enter_d Tryz.func128,Tryz.ntmps128;go_wp2;go_region_calls
 all_goals (go_end0;exact⟨rfl,rfl⟩)
theorem zg9(a:Addr)(u:FrameMode)(w:World)(hc:w.cell? a=some (.int .i32 1))(hz:w.frozen? a=false):
 CallsD Tryz.prog 127 #[.pointer (some a)] u w fun e u' w'=>u'=u∧(e = .returned (.tuple #[])∧w'=w.setCell a (.int .i32 0)):=by
 have hd:=zgb;have he:=zgP;have hr:=zf7;have hadd:=run_call_add (P:=Tryz.prog) Tryz.func163 (by kernel_rfl) (by kernel_rfl) (by kernel_rfl) .i32 (by kernel_rfl) (y := -1) (s:=0) hc hz (by simp [go_sem];rfl);have hcv:=run_convert_to_unsafe (P:=Tryz.prog) (src:=260) (dst:=131) Tryz.underlying260 Tryz.underlying131 (by kernel_rfl) hc;go_enter_d Tryz.func127,Tryz.ntmps127;go_wp2;go_end0;go_wp2;go_end0;exact⟨rfl,rfl⟩
theorem zoq(a:Addr)(w:World)(hc:w.cell? a=some (.int .i32 0))(hz:w.frozen? a=false):
 Calls Tryz.prog 126 #[.pointer (some a)] w fun e w'=>e = .returned (.tuple #[])∧w'=w.setCell a (.int .i32 1):=by
 have hd:=zgb;have he:=zgP;have ha:=zk4;have hcas:=run_call_cas_hit (P:=Tryz.prog) Tryz.func158 (by kernel_rfl) (by kernel_rfl) (by kernel_rfl) .i32 (by kernel_rfl) (y:=1) hc hz;have hc':(w.setCell a (.int .i32 1)).cell? a=some (.int .i32 1):=World.cell?_setCell_same w a _ hc;have hcv:=run_convert_to_unsafe (P:=Tryz.prog) (src:=260) (dst:=131) Tryz.underlying260 Tryz.underlying131 (by kernel_rfl) hc';go_enter Tryz.func126,Tryz.ntmps126;go_wp2
 first|go_end0|(simp only [Exit.inBlock,Exit.then];refine bodyPost_ret (results_none rfl _ _ _) rfl ?_)|refine bodyPost_ret (results_none rfl _ _ _) rfl ?_
 go_wp2;go_end0;exact⟨rfl,rfl⟩
end Go.Proofs.YtjcdeikbghjpkaaGreatDoor
