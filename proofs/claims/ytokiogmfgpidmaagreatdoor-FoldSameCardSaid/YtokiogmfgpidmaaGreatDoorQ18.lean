/-
  A row of the call's own that holds nodes: append, and what it is as nodes. ..
-/
import Derived.Test.YtokiogmfgpidmaaGreatDoorQ2
import Derived.Test.YtokiogmfgpidmaaGreatDoorQ17
set_option maxRecDepth 100000
set_option maxHeartbeats 8000000
namespace Go.Proofs.YtokiogmfgpidmaaGreatDoor
open Go.RowKit Go.Wk Go.Sort
structure gQ(w:World)(base:Nat)(v:Value)(P:List Nd):Prop where
 own:w.ownsRow base 28 4 v P.length (zT P)
theorem gQ.alloc{w:World}{base:Nat}{v:Value}{P:List Nd}(h:gQ w base v P)(o:Obj):gQ (w.alloc o) base v P:=⟨h.own.alloc o⟩
theorem gQ.keepN{w w':World}{base:Nat}{v:Value}{P:List Nd}(h:gQ w base v P)(hb:Below w.heap.size w w'):gQ w' base v P:=⟨h.own.kept (zj hb none) (by cases hv:v.ownBlock <;> simp)⟩
def tf(w:World)(base:Nat)(v:Value)(P:List Nd)(e:Ending)(w':World):Prop :=
 ∃v',e = .returned v'/\gQ w' base v' P/\w.grownBy w' v.ownBlock/\(v'.ownBlock=v.ownBlock\/∃g,v'.ownBlock=some g/\w.heap.size<=g)
theorem Aj{w w1 w2:World}{r r1:Option Nat}(h:w.grownBy w1 r)(k:w1.grownBy w2 r1)(hr:r1=r\/∃g,r1=some g/\w.heap.size<=g):w.grownBy w2 r :=
 ⟨k.os.trans h.os,k.tape.trans h.tape,k.output.trans h.output,Nat.le_trans h.size k.size,λi hi hn=>(k.block i (Nat.lt_of_lt_of_le hi h.size) (λe=>by
  rcases hr with rfl|⟨g,rfl,hg⟩
  ·exact hn e
  ·injection e with e;omega)).trans (h.block i hi hn)⟩
theorem kb{ops:Array Oper}{rest:List Oper}{o:Oper}{a:Act}{w:World}{Q:Exit->Act->World->Prop}(hgd:o.guard=none)(s x:Operand)
 (ho:o.op = .call { callee := .builtin .append,args:=#[s,x],argTypes:=#[22,22] })
 (base:Nat) (v:Value) (P:List Nd) (hs:a.eval s=v) (hrow:gQ w base v P) (z:Nd) (ad:Addr) (m c:Nat) (hx:a.eval x = .slice (some ad) m c) (hm:m=1)
 (hnews:∀j u,(zT [z])[j]?=some u->w.cell? (ad.add j)=some u) (hl:P.length<=1000000) (hbase:base<=w.heap.size)
 (h:∀v' w',gQ w' base v' (P ++ [z])->w.grownBy w' v.ownBlock->(v'.ownBlock=v.ownBlock\/∃g,v'.ownBlock=some g/\w.heap.size<=g)->wpList Tryz.prog ops Q rest (a.put o.dst v') w'):wpList Tryz.prog ops Q (o :: rest) a w:=by
 subst hm;have hi:=mS
 cases hq:Tryz.prog.info? 28 with
 | none=>rw [hq] at hi;cases hi
 | some i0 =>
  rw [hq] at hi
  simp only [Option.map_some,Option.some.injEq,Prod.mk.injEq] at hi
  refine wpList_append_own_at w hgd s x _ ho base _ i0 _ 4 48 Tryz.underlying22 hq hi.1 hi.2.1 hi.2.2 (by decide) (by decide) v P.length (zT P) hs hrow.own ad 1 c (zT [z]) hx rfl hnews ?_ (by unfold maxLen;omega) (by omega) hbase ?_
  ·intro u hu
   simp [zT] at hu;rcases hu with rfl|rfl|rfl|rfl <;> rfl
  ·intro v' w' h1 h2 _ h4
   refine h v' w' ⟨by rw [bL,List.length_append];exact h1⟩ h2 ?_;rcases h4 with h4|h4
   ·exact .inl h4
   ·exact .inr ⟨_,h4,Nat.le_refl _⟩
theorem gQ.ns{w:World}{base:Nat}{v:Value}{P:List Nd}(h:gQ w base v P)(ee:au P)(hl:P.length<=1000000):∃(A:Option Addr) (n c:Nat),v = .slice A n c/\n=P.length/\Ns w A n c P:=by
 obtain⟨A,c,rfl,h1,h2,-⟩:=aT h.own;exact⟨A,_,c,rfl,rfl,⟨rfl,h1,by unfold maxLen;omega,h2,ee⟩⟩
theorem mU(w:World)(base:Nat):gQ w base (.slice none 0 0) []:=⟨World.ownsRow_nil _ _ _ _⟩
def EC(N:Nat):Prop:=∀(x:Ex) (u:List Value) (w:World) (B:Nat->Prop) (base:Nat) (v:Value) (P:List Nd),x.flat.length<=N->P.length+x.flat.length<=100000->PAt w B x u->gQ w base v P->base<=w.heap.size->(∀b,B b->b<base)->
 Calls Tryz.prog 18 #[.agg u.toArray,v] w (tf w base v (P ++ x.flat))
structure PLp(w wr:World)(base:Nat)(v u:Value)(P:List Nd):Prop where
 F:gQ wr base u P
 G:w.grownBy wr v.ownBlock
 H:u.ownBlock=v.ownBlock\/∃g,u.ownBlock=some g/\w.heap.size<=g
theorem FT(ps:Exs)(k:Nat)(h:k<(exL ps).length):(((exL ps).drop k).map Ex.flat).flatten=(exL ps)[k].flat ++(((exL ps).drop (k+1)).map Ex.flat).flatten:=by
 rw [List.drop_eq_getElem_cons h];rfl
theorem gW:∀(ps:Exs),∀y∈exL ps,y.flat.length<=ps.flat.length
 | .nil,y,h=>nomatch h
 | .cons x r,y,h=>by
  rw [Exs.flat,List.length_append];rcases List.mem_cons.1 h with rfl|h
  ·omega
  ·have:=gW r y h;omega
theorem Bc(N:Nat)(ih:EC N)(nd:Nd)(ps:Exs)(A:Option Addr)(c:Nat)(w:World)(B:Nat->Prop)(base:Nat)(v:Value)(P:List Nd)(hN:ps.flat.length<=N)(hP:P.length+(ps.flat.length+1)<=100000)(hk:jL w B A 0 ps)(hown:gQ w base v P)(hbase:base<=w.heap.size)(hB:∀b,B b->b<base):
 Calls Tryz.prog 18 #[.agg #[.int .i64 nd.op,.int .i64 nd.n,.string nd.s,.string nd.t,.slice A ps.len c],v] w (tf w base v (P ++ nd :: ps.flat)):=by
 have HK:=O hk;have lB:=O hB;have IH:=O ih;have HFL:=O (vo ps);have ym:ps.len<=100000:=by have:=am ps;omega
 obtain⟨m,hm⟩:∃m,m=ps.len:=⟨_,rfl⟩
 have HM:=O (hm.trans (dz ps).symm);rw [<-hm] at ym ⊢;obtain⟨PP,MN⟩:∃PP,PP=P ++ nd :: ps.flat:=⟨_,rfl⟩
 have KJ:=O (show PP.length<=100000 by rw [MN];simp;omega);have HPP:=O MN;rw [<-MN];clear MN hk hB hm ih;have Ba:=zb w (.cells #[.int .i64 nd.op,.int .i64 nd.n,.string nd.s,.string nd.t,.slice A m c] 49);have Bb:=zb (w.alloc (.cells #[.int .i64 nd.op,.int .i64 nd.n,.string nd.s,.string nd.t,.slice A m c] 49)) (.cells #[.int .i64 nd.op,.int .i64 nd.n,.string nd.s,.string nd.t] 28);have hza:(w.alloc (.cells #[.int .i64 nd.op,.int .i64 nd.n,.string nd.s,.string nd.t,.slice A m c] 49)).heap.size=w.heap.size+1:=by simp
 have hzb:((w.alloc (.cells #[.int .i64 nd.op,.int .i64 nd.n,.string nd.s,.string nd.t,.slice A m c] 49)).alloc (.cells #[.int .i64 nd.op,.int .i64 nd.n,.string nd.s,.string nd.t] 28)).heap.size=w.heap.size+2:=by simp
 have B3:=O (Ba.trans (Bb.mono (by simp)));have X3:=O ((jp w (.int .i64 nd.op) (.int .i64 nd.n) (.string nd.s) (.string nd.t) (.slice A m c) 49).keep Bb);have HO:=O ((hown.alloc (.cells #[.int .i64 nd.op,.int .i64 nd.n,.string nd.s,.string nd.t,.slice A m c] 49)).alloc (.cells #[.int .i64 nd.op,.int .i64 nd.n,.string nd.s,.string nd.t] 28));have rn:=aA (w.alloc (.cells #[.int .i64 nd.op,.int .i64 nd.n,.string nd.s,.string nd.t,.slice A m c] 49)) (zT [nd]) 28;rw [hza] at rn;have RN:=O rn;have HZ:=O hzb;have HOL:=O (λg hg=>hown.own.lt g hg);clear rn hza hzb Ba Bb hown;go_enter Tryz.func18,Tryz.ntmps18;go_wp2_with (at_builtin;refine kb rfl _ _ rfl base v P rfl HO.o nd ⟨w.heap.size+1,0,none⟩ 1 1 rfl rfl RN.o ?c1 ?c2 ?_)
 case c1=>omega
 case c2=>rw [HZ.o];omega
 intro v' w4 hrow hg hb;have X4:=O (X3.o.but hg (λe=>by have:=(HOL.o _ e.symm).2;omega));have LP:=O (show PLp w w4 base v v' (P ++ [nd]) from⟨hrow,zg (zj B3.o v.ownBlock) hg,by
  rcases hb with hb|⟨g,hb,h2⟩
  ·exact .inl hb
  ·exact .inr ⟨g,hb,by have:=HZ.o;omega⟩⟩)
 obtain⟨x0,x1,x2,x3,x4,-,-,-,-,-⟩:=X4.o;clear hrow hg hb B3 X3 HO RN X4;go_wp2_with fail;go_loopw [1,15] (λu i wr=>∃(k:Nat) (Q:List Nd),i = .int .i64 k/\k<=m/\Hid (Q ++(((exL ps).drop k).map Ex.flat).flatten=PP)/\Hid (PLp w wr base v u Q)) (λ_ i _=>m-(intOf i).toNat)
 case atStart=>exact⟨0,_,rfl,Nat.zero_le _,O (by rw [HPP.o,List.drop_zero,<-HFL.o];simp),LP⟩
 case round =>
  clear x0 x1 x2 x3 x4 LP;obtain⟨k,Q,rfl,MP,hQ,hL⟩:=hrel;by_cases hlt:k<m
  ·have CW:k<(exL ps).length:=by rw [<-HM.o];exact hlt
   have HOLD:=O (show∀b,B b->wr.heap[b]?=w.heap[b]? from λb hb=>hL.o.G.block b (by have:=lB.o b hb;omega) (λe=>by have:=(HOL.o _ e.symm).1;have:=lB.o b hb;omega));obtain⟨a,u,rfl,Mw,hr,hx⟩:=jL.at ps A 0 (jL.cong HOLD.o ps A 0 HK.o) k _ (List.getElem?_eq_getElem CW);rw [Nat.zero_add] at hr;have Oo:=O (FT ps k CW);have Kz:=O (Nat.le_trans (gW ps _ (List.getElem_mem CW)) hN);obtain⟨y,hy⟩:∃y,y=(exL ps)[k]:=⟨_,rfl⟩
   rw [<-hy] at hx Oo Kz;clear hy;obtain⟨o,n',s,t,A',m',c',rfl,q0,q1,q2,q3,q4⟩:=PAt.cells hr hx;have HX:=O hx;have Mi:=O (show Q.length+y.flat.length<=100000 by
    have h1:=congrArg List.length hQ.o
    have h2:=KJ.o
    rw [Oo.o] at h1
    simp only [List.length_append] at h1
    omega)
   have HQ2:=O (show(Q ++ y.flat)++(((exL ps).drop (k+1)).map Ex.flat).flatten=PP by
    rw [<-hQ.o,Oo.o];simp)
   clear hr hx Mw;have HS:=O hL.o.G.size;have hbr:base<=wr.heap.size:=Nat.le_trans hbase HS.o;have Ba:=zb wr (.cells #[.int .i64 o,.int .i64 n',.string s,.string t,.slice A' m' c'] 49);have KC:=O (IH.o y _ (wr.alloc (.cells #[.int .i64 o,.int .i64 n',.string s,.string t,.slice A' m' c'] 49)) B base u1 Q Kz.o Mi.o (PAt.cong (λb hb=>Ba.block b (Nat.lt_of_lt_of_le (lB.o b hb) hbr)) _ _ HX.o) (hL.o.F.alloc _) (Nat.le_trans hbr Ba.size) lB.o);have BA:=O Ba;clear Ba;go_wp2_with fail;refine KC.o.mono ?_;rintro e w6 ⟨v6,rfl,r6,g6,h6⟩;have L6:=O (show PLp w w6 base v v6 (Q ++ y.flat) from⟨r6,Aj hL.o.G (zg (zj BA.o u1.ownBlock) g6) hL.o.H,by
    rcases h6 with h|⟨g,h,h2⟩
    ·rw [h];exact hL.o.H
    ·exact .inr ⟨g,h,Nat.le_trans HS.o (Nat.le_trans BA.o.size h2)⟩⟩)
   clear q0 q1 q2 q3 q4 r6 g6 h6 KC;go_wp2_with fail;go_roundw
   case rel=>exact⟨k+1,_,by go_num,hlt,HQ2,L6⟩
   case measure=>simp [intOf];omega
  ·have J8:k=m:=by omega
   subst J8;have HE:=O (show Q=PP by
    have h1:=hQ.o
    rw [List.drop_eq_nil_of_le (by rw [<-HM.o];exact Nat.le_refl _)] at h1
    simpa using h1)
   go_wp2_with fail;go_ret;exact⟨_,rfl,by rw [<-HE.o];exact hL.o.F,hL.o.G,hL.o.H⟩
theorem l9:∀N,EC N
 | 0=>λx _ _ _ _ _ _ h=>by have:=jh x;omega
 | N+1=>λx u w B base v P h hP hx hown hbase hB=>by
  cases x with
  | node nd ps =>
   rw [PAt] at hx
   obtain⟨-,A,c,rfl,h1,h2,h3⟩:=hx
   rw [Ex.flat,List.length_cons] at h hP
   rw [Ex.flat]
   exact Bc N (l9 N) nd ps A c w B base v P (by omega) hP h3 hown hbase hB
end Go.Proofs.YtokiogmfgpidmaaGreatDoor
namespace Go.Proofs.YtokiogmfgpidmaaGreatDoor
open Go.RowKit Go.Wk
theorem qt(n:Int)(w:World)(h0:0<=n)(h1:n<=255):Calls Tryz.prog 118 #[.int .u8 n] w λe w'=>e = .returned (.bool (cK n))/\w=w':=by
 go_enter Tryz.func118,Tryz.ntmps118;go_wp2
 all_goals (go_ret;exact⟨zl (by unfold cK;rw [Bool.eq_iff_iff];simp;omega),rfl⟩)
theorem tZ(n:Int)(w:World)(h0:0<=n)(h1:n<=255):Calls Tryz.prog 119 #[.int .u8 n] w λe w'=>e = .returned (.bool (iF n))/\w=w':=by
 go_enter Tryz.func119,Tryz.ntmps119;go_wp2
 all_goals (go_ret;exact⟨zl (by unfold iF;rw [Bool.eq_iff_iff];simp;omega),rfl⟩)
theorem bv(s:ByteArray)(w:World)(hs:s.size<=maxLen):Calls Tryz.prog 71 #[.string s] w λe w'=>e = .returned (.int .i64 (zh s))/\w=w':=by
 unfold maxLen at hs;go_enter Tryz.func71,Tryz.ntmps71;go_wp2;go_loop [2,3] (λr i=>∃k:Nat,k<=s.size/\i = .int .i64 k/\r = .int .i64 0/\Hid (0<k->aH (s.data.toList.take k)=true)) (λ_ i=>s.size-(intOf i).toNat)
 case atStart=>exact⟨0,Nat.zero_le _,rfl,rfl,λh=>absurd h (by omega)⟩
 case round =>
  obtain⟨k,hk,rfl,rfl,hall⟩:=hrel;by_cases hlt:k<s.size
  ·have C1:=O (λw=>qt (s[k].toNat:Int) w (by omega) (by have:=s[k].toNat_lt;omega));have C2:=O (λw=>tZ (s[k].toNat:Int) w (by omega) (by have:=s[k].toNat_lt;omega));by_cases hk0:k=0
   ·subst hk0;have G1:=O (λq:cK (s[0].toNat:Int)=true=>(show aH (s.data.toList.take 1)=true from lJ hlt q));have G2:=O (λq:cK (s[0].toNat:Int)=false=>(show zh s=1 by unfold zh;rw [eM hlt q];rfl));clear hall;rcases hx:cK (s[0].toNat:Int) with _|_ <;> rw [hx] at C1 G1 G2 <;> clear hx
    ·go_wp2_with (go_at_call 118;refine(C1.o _).mono ?_;rintro e w' ⟨rfl,rfl⟩);go_ret;exact⟨by rw [G2.o (by simp)];rfl,rfl⟩
    ·go_wp2_with (go_at_call 118;refine(C1.o _).mono ?_;rintro e w' ⟨rfl,rfl⟩);go_round
     case rel=>exact⟨1,by omega,by go_num,rfl,λ_=>G1.o (by simp)⟩
     case measure=>simp [intOf];omega
   ·have hst:bY s[k]=(cK (s[k].toNat:Int)|| iF (s[k].toNat:Int)):=rfl;have G1:=O (λq:bY s[k]=true=>(show aH (s.data.toList.take (k+1))=true from kw (by omega) hlt (hall.o (by omega)) q));have G2:=O (λq:bY s[k]=false=>(show zh s=1 by unfold zh;rw [sR (by omega) hlt q];rfl));rw [hst] at G1 G2;have Gr:((k:Int)==0)=false:=by rw [beq_eq_false_iff_ne];omega
    clear hst hall hk0;rcases hx:cK (s[k].toNat:Int) with _|_ <;> rcases hy:iF (s[k].toNat:Int) with _|_ <;> rw [hx] at C1 G1 G2 <;> rw [hy] at C2 G1 G2 <;> clear hx hy
    all_goals go_wp2_with (first|(go_at_call 118;refine(C1.o _).mono ?_;rintro e w' ⟨rfl,rfl⟩)|(go_at_call 119;refine(C2.o _).mono ?_;rintro e w' ⟨rfl,rfl⟩))
    ·go_ret;exact⟨by rw [G2.o (by simp)];rfl,rfl⟩
    all_goals
     go_round
     case rel=>exact⟨k+1,by omega,by go_num,rfl,λ_=>G1.o rfl⟩
     case measure=>simp [intOf];omega
  ·by_cases h0:s.size=0
   ·have H3:=O (show zh s=1 by unfold zh;rw [iZ h0];rfl);have h1:((s.size:Int)==0)=true:=by rw [beq_iff_eq];omega
    clear hall;go_wp2;go_ret;exact⟨by rw [H3.o];rfl,rfl⟩
   ·have H2:=O (show aH s.data.toList=true from ya (by omega) (hall.o (by omega)));have h1:((s.size:Int)==0)=false:=by rw [beq_eq_false_iff_ne];omega
    clear hall h0;by_cases h20:20<s.size
    ·have H3:=O (show zh s=4 by unfold zh;rw [H2.o,if_pos rfl,if_pos h20]);clear H2;go_wp2;go_ret;exact⟨by rw [H3.o];rfl,rfl⟩
    ·have H3:=O (show zh s=0 by unfold zh;rw [H2.o,if_pos rfl,if_neg h20]);clear H2;go_wp2;go_ret;exact⟨by rw [H3.o];rfl,rfl⟩
theorem dG(s:ByteArray)(w:World)(hs:s.size<=maxLen):Calls Tryz.prog 73 #[.string s] w λe w'=>e = .returned (.int .i64 (zo s))/\Below w.heap.size w w':=by
 unfold maxLen at hs;by_cases NQ:60<s.size
 ·have H:=O (show zo s=4 by unfold zo;rw [if_pos NQ]);go_enter Tryz.func73,Tryz.ntmps73;go_wp2;go_ret;exact⟨by rw [H.o];rfl,Below.refl _ _⟩
 have H:=O (show zo s=if s.data.toList.all aV then 0 else 1 by unfold zo;rw [if_neg (by omega)]);go_enter Tryz.func73,Tryz.ntmps73;go_wp2;go_loopw [2,3] (λr i wr=>∃k:Nat,k<=s.size/\i = .int .i64 k/\r = .int .i64 0/\Hid ((s.data.toList.take k).all aV=true)/\Below w.heap.size w wr) (λ_ i _=>s.size-(intOf i).toNat)
 case atStart=>exact⟨0,Nat.zero_le _,rfl,rfl,by simp [Hid],Below.refl _ _⟩
 case round =>
  obtain⟨k,hk,rfl,rfl,hall,hb⟩:=hrel;by_cases hlt:k<s.size
  ·by_cases hp:32<=(s[k].toNat:Int)/\(s[k].toNat:Int)<=126
   ·have H2:=O (show(s.data.toList.take (k+1)).all aV=true by rw [nU s aV hlt,hall.o,Bool.true_and];unfold aV tL;simp;omega);obtain⟨dK,i8⟩:=hp;have q1:decide ((s[k].toNat:Int)<32)=false:=by simp;omega
    clear hall;go_wp2;go_roundw
    case rel=>exact⟨k+1,by omega,by go_num,rfl,H2,hb⟩
    case measure=>simp [intOf];omega
   ·have H2:=O (show s.data.toList.all aV=false from iO hlt (by unfold aV tL;rw [Bool.eq_false_iff];simp;omega));clear hall;by_cases hq:(s[k].toNat:Int)<32
    ·clear hp;have q1:decide ((s[k].toNat:Int)<32)=true:=by simp;omega
     go_wp2;go_ret;exact⟨by rw [H.o,H2.o];rfl,hb⟩
    ·have Mf:126<(s[k].toNat:Int):=by omega
     clear hp;have q1:decide ((s[k].toNat:Int)<32)=false:=by simp;omega
     go_wp2;go_ret;exact⟨by rw [H.o,H2.o];rfl,hb⟩
  ·have H2:=O (show s.data.toList.all aV=true from(rA (k:=k) (by omega)).symm.trans hall.o);clear hall;go_wp2;go_ret;exact⟨by rw [H.o,H2.o];rfl,hb⟩
end Go.Proofs.YtokiogmfgpidmaaGreatDoor
namespace Go.Proofs.YtokiogmfgpidmaaGreatDoor
open Go.RowKit Go.Wk Go.Sort
theorem qQ(s t:ByteArray)(w:World)(hs:s.size<=maxLen)(ht:t.size<=maxLen):
 Calls Tryz.prog 117 #[.agg #[.string s,.string t]] w λe w'=>e = .returned (.int .i64 (or2 (zh s) (zo t)))/\Below w.heap.size w w':=by
 have N:=O (λw=>bv s w hs);have T:=O (λw=>dG t w ht);by_cases h1:zh s=0
 ·rw [h1] at N;have H:=O (show or2 (zh s) (zo t)=zo t by rw [h1,zS]);clear h1;go_enter Tryz.func117,Tryz.ntmps117;go_wp2_with fail;refine(N.o _).mono ?_;rintro e w1 ⟨rfl,rfl⟩;go_wp2_with fail;refine(T.o _).mono ?_;rintro e w2 ⟨rfl,b2⟩;go_wp2_with fail;go_ret;exact⟨jE H.o.symm,zx b2⟩
 ·have H:=O (show or2 (zh s) (zo t)=zh s from jt h1 _);have h2:(zh s==0)=false:=beq_eq_false_iff_ne.2 h1;clear h1;go_enter Tryz.func117,Tryz.ntmps117;go_wp2_with fail;refine(N.o _).mono ?_;rintro e w1 ⟨rfl,rfl⟩;go_wp2_with fail;go_ret;exact⟨jE H.o.symm,zb _ _⟩
theorem si(n:Int)(s t:ByteArray)(w:World):
 Calls Tryz.prog 69 #[.agg #[.int .i64 1,.int .i64 n,.string s,.string t]] w λe w'=>e = .returned (.bool ((decide (n=0)|| decide (n=1))&& noB s && noB t))/\Below w.heap.size w w':=by
 rcases zy s with rfl|⟨s1,s2,s3⟩<;> rcases zy t with rfl|⟨t1,t2,t3⟩
 ·by_cases h0:0<=n
  ·by_cases h1:n<=1
   ·go_enter Tryz.func69,Tryz.ntmps69;go_wp2;go_ret
    exact ⟨zl       (by have : n = 0 ∨ n = 1 := by omega
                        rcases this with rfl|rfl <;> rfl),zb _ _⟩
   ·go_enter Tryz.func69,Tryz.ntmps69;go_wp2;go_ret;exact⟨zl (by rw [decide_eq_false (show¬n=0 by omega),decide_eq_false (show¬n=1 by omega)];rfl),zb _ _⟩
  ·go_enter Tryz.func69,Tryz.ntmps69;go_wp2;go_ret;exact⟨zl (by rw [decide_eq_false (show¬n=0 by omega),decide_eq_false (show¬n=1 by omega)];rfl),zb _ _⟩
 all_goals
  go_enter Tryz.func69,Tryz.ntmps69;go_wp2;go_ret;exact⟨zl (by simp [*]),zb _ _⟩
theorem ue(n:Int)(s t:ByteArray)(w:World):
 Calls Tryz.prog 69 #[.agg #[.int .i64 2,.int .i64 n,.string s,.string t]] w λe w'=>e = .returned (.bool (noB s && noB t))/\Below w.heap.size w w':=by
 rcases zy s with rfl|⟨s1,s2,s3⟩<;> rcases zy t with rfl|⟨t1,t2,t3⟩
 all_goals
  go_enter Tryz.func69,Tryz.ntmps69;go_wp2;go_ret;exact⟨zl (by simp [*,jk]),zb _ _⟩
theorem sg(o n:Int)(s t:ByteArray)(w:World)(ho:o=5\/o=6):
 Calls Tryz.prog 69 #[.agg #[.int .i64 o,.int .i64 n,.string s,.string t]] w λe w'=>e = .returned (.bool (decide (0<=n)&& noB s && noB t))/\Below w.heap.size w w':=by
 by_cases h0:0<=n
 ·rcases ho with rfl|rfl <;> rcases zy s with rfl|⟨s1,s2,s3⟩<;> rcases zy t with rfl|⟨t1,t2,t3⟩
  all_goals
   go_enter Tryz.func69,Tryz.ntmps69;go_wp2;go_ret;exact⟨zl (by simp [*,jk]),zb _ _⟩
 ·rcases ho with rfl|rfl <;> rcases zy s with rfl|⟨s1,s2,s3⟩<;> rcases zy t with rfl|⟨t1,t2,t3⟩
  all_goals
   go_enter Tryz.func69,Tryz.ntmps69;go_wp2;go_ret;exact⟨zl (by first|rfl|(rw [decide_eq_false (show¬0<=n by omega)];rfl)),zb _ _⟩
theorem rV(n:Int)(s t:ByteArray)(w:World)(hs:s.size<=maxLen):
 Calls Tryz.prog 69 #[.agg #[.int .i64 3,.int .i64 n,.string s,.string t]] w λe w'=>e = .returned (.bool (decide (n=0)&& noB t && decide (zo s=0)))/\Below w.heap.size w w':=by
 have P:=O (λw=>dG s w hs);by_cases h0:n=0
 ·subst h0;rcases zy s with rfl|⟨s1,s2,s3⟩<;> rcases zy t with rfl|⟨t1,t2,t3⟩
  ·have e:zo ⟨#[]⟩=0:=by decide
   rw [e] at P;go_enter Tryz.func69,Tryz.ntmps69;go_wp2_with fail;refine(P.o _).mono ?_;rintro e w1 ⟨rfl,hb⟩;go_wp2;go_ret;exact⟨zl (by simp [e,jk]),zx hb⟩
  ·go_enter Tryz.func69,Tryz.ntmps69;go_wp2;go_ret;exact⟨zl (by simp [t3]),zb _ _⟩
  ·by_cases h1:zo s=0
   ·rw [h1] at P;go_enter Tryz.func69,Tryz.ntmps69;go_wp2_with fail;refine(P.o _).mono ?_;rintro e w1 ⟨rfl,hb⟩;go_wp2;go_ret;exact⟨zl (by simp [h1,jk]),zx hb⟩
   ·have h2:(zo s==0)=false:=beq_eq_false_iff_ne.2 h1;go_enter Tryz.func69,Tryz.ntmps69;go_wp2_with fail;refine(P.o _).mono ?_;rintro e w1 ⟨rfl,hb⟩;go_wp2;go_ret;exact⟨zl (by simp [h1]),zx hb⟩
  ·go_enter Tryz.func69,Tryz.ntmps69;go_wp2;go_ret;exact⟨zl (by simp [t3]),zb _ _⟩
 ·have e0:(n != 0)=true:=by rw [bne_iff_ne];exact h0
  rcases zy s with rfl|⟨s1,s2,s3⟩<;> rcases zy t with rfl|⟨t1,t2,t3⟩
  all_goals
   go_enter Tryz.func69,Tryz.ntmps69;go_wp2;go_ret;exact⟨zl (by simp [h0]),zb _ _⟩
theorem u4(n:Int)(s t:ByteArray)(w:World)(hs:s.size<=maxLen)(ht:t.size<=maxLen):
 Calls Tryz.prog 69 #[.agg #[.int .i64 4,.int .i64 n,.string s,.string t]] w λe w'=>e = .returned (.bool (decide (n=0)&& decide (zh s=0)&& decide (zo t=0)))/\Below w.heap.size w w':=by
 have P:=O (λw=>qQ s t w hs ht);have H:=O (show(or2 (zh s) (zo t)==0)=(decide (zh s=0)&& decide (zo t=0)) by
  by_cases h:zh s=0
  ·rw [h,zS];simp;rfl
  ·rw [jt h,beq_eq_false_iff_ne.2 h];simp [h])
 by_cases h0:n=0
 ·subst h0;rcases zy s with rfl|⟨s1,s2,s3⟩<;> rcases zy t with rfl|⟨t1,t2,t3⟩
  all_goals
   go_enter Tryz.func69,Tryz.ntmps69;go_wp2_with fail;refine(P.o _).mono ?_;rintro e w1 ⟨rfl,hb⟩;go_wp2;go_ret;exact⟨zl (by rw [H.o];simp),zx hb⟩
 ·have e0:(n != 0)=true:=by rw [bne_iff_ne];exact h0
  rcases zy s with rfl|⟨s1,s2,s3⟩<;> rcases zy t with rfl|⟨t1,t2,t3⟩
  all_goals
   go_enter Tryz.func69,Tryz.ntmps69;go_wp2;go_ret;exact⟨zl (by simp [h0]),zb _ _⟩
theorem oI(n:Int)(s t:ByteArray)(w:World)(hs:s.size<=maxLen):
 Calls Tryz.prog 69 #[.agg #[.int .i64 7,.int .i64 n,.string s,.string t]] w λe w'=>e = .returned (.bool (decide (n=0)&& noB t && decide (zh s=0)))/\Below w.heap.size w w':=by
 have P:=O (λw=>bv s w hs);have H:(zh s==0)=decide (zh s=0):=rfl;by_cases h0:n=0
 ·subst h0;rcases zy s with rfl|⟨s1,s2,s3⟩<;> rcases zy t with rfl|⟨t1,t2,t3⟩
  ·have e:zh ⟨#[]⟩=1:=by decide
   rw [e] at P;go_enter Tryz.func69,Tryz.ntmps69;go_wp2_with fail;refine(P.o _).mono ?_;rintro e w1 ⟨rfl,rfl⟩;go_wp2;go_ret;exact⟨zl (by simp [e]),zb _ _⟩
  ·go_enter Tryz.func69,Tryz.ntmps69;go_wp2;go_ret;exact⟨zl (by simp [t3]),zb _ _⟩
  ·by_cases h1:zh s=0
   ·rw [h1] at P;go_enter Tryz.func69,Tryz.ntmps69;go_wp2_with fail;refine(P.o _).mono ?_;rintro e w1 ⟨rfl,rfl⟩;go_wp2;go_ret;exact⟨zl (by simp [h1,jk]),zb _ _⟩
   ·have h2:(zh s==0)=false:=beq_eq_false_iff_ne.2 h1;go_enter Tryz.func69,Tryz.ntmps69;go_wp2_with fail;refine(P.o _).mono ?_;rintro e w1 ⟨rfl,rfl⟩;go_wp2;go_ret;exact⟨zl (by simp [h1]),zb _ _⟩
  ·go_enter Tryz.func69,Tryz.ntmps69;go_wp2;go_ret;exact⟨zl (by simp [t3]),zb _ _⟩
 ·have e0:(n != 0)=true:=by rw [bne_iff_ne];exact h0
  rcases zy s with rfl|⟨s1,s2,s3⟩<;> rcases zy t with rfl|⟨t1,t2,t3⟩
  all_goals
   go_enter Tryz.func69,Tryz.ntmps69;go_wp2;go_ret;exact⟨zl (by simp [h0]),zb _ _⟩
theorem pr(o n:Int)(s t:ByteArray)(w:World)(h1:(o==1)=false)(h2:(o==2)=false)(h3:(o==3)=false)(h4:(o==4)=false)(h5:(o==5)=false)(h6:(o==6)=false)(h7:(o==7)=false):
 Calls Tryz.prog 69 #[.agg #[.int .i64 o,.int .i64 n,.string s,.string t]] w λe w'=>e = .returned (.bool false)/\Below w.heap.size w w':=by
 by_cases h0:n=0
 ·subst h0;rcases zy s with rfl|⟨s1,s2,s3⟩<;> rcases zy t with rfl|⟨t1,t2,t3⟩
  all_goals
   go_enter Tryz.func69,Tryz.ntmps69;go_wp2;go_ret;exact⟨rfl,zb _ _⟩
 ·have e0:(n != 0)=true:=by rw [bne_iff_ne];exact h0
  rcases zy s with rfl|⟨s1,s2,s3⟩<;> rcases zy t with rfl|⟨t1,t2,t3⟩
  all_goals
   go_enter Tryz.func69,Tryz.ntmps69;go_wp2;go_ret;exact⟨rfl,zb _ _⟩
theorem pf(x:Nd)(w:World)(hs:x.s.size<=maxLen)(ht:x.t.size<=maxLen):
 Calls Tryz.prog 69 #[ndV x] w λe w'=>e = .returned (.bool (zu x))/\Below w.heap.size w w':=by
 obtain⟨o,n,s,t⟩:=x;unfold ndV zu;simp only at hs ht ⊢;by_cases h1:o=1
 ·subst h1;rw [if_pos rfl];exact si n s t w
 rw [if_neg h1];by_cases h2:o=2
 ·subst h2;rw [if_pos rfl];exact ue n s t w
 rw [if_neg h2];by_cases h3:o=3
 ·subst h3;rw [if_pos rfl];exact rV n s t w hs
 rw [if_neg h3];by_cases h4:o=4
 ·subst h4;rw [if_pos rfl];exact u4 n s t w hs ht
 rw [if_neg h4];by_cases h5:o=5\/o=6
 ·rw [if_pos h5];exact sg o n s t w h5
 rw [if_neg h5];by_cases h7:o=7
 ·subst h7;rw [if_pos rfl];exact oI n s t w hs
 rw [if_neg h7];exact pr o n s t w (beq_eq_false_iff_ne.2 h1) (beq_eq_false_iff_ne.2 h2) (beq_eq_false_iff_ne.2 h3) (beq_eq_false_iff_ne.2 h4) (beq_eq_false_iff_ne.2 λq=>h5 (.inl q)) (beq_eq_false_iff_ne.2 λq=>h5 (.inr q)) (beq_eq_false_iff_ne.2 h7)
def pQ(w:World)(L:List (List Nd))(N:List ByteArray)(e:Ending)(w':World):Prop :=
 ∃(v v':Value) (V:List Sl),e = .returned (.tuple #[v,v'])/\zO w' w.heap.size v V/\V.map Sl.P=L/\w'.ownsRow w.heap.size 9 1 v' N.length (N.map Value.string)/\(∀r∈V,∀a,r.A=some a->w.heap.size<a.block)/\Below w.heap.size w w'
theorem vw{w:World}{B B' n:Nat}{e:TypeId}{size:Nat}{v:Value}{xs:List Value}(h:w.ownsRow B e size v n xs)(hB:B'<=B):w.ownsRow B' e size v n xs:=by
 refine⟨h.1,?_⟩;rcases h.2 with h2|⟨g,cap,cur,hv,hg,r⟩
 ·exact .inl h2
 ·exact .inr ⟨g,cap,cur,hv,Nat.le_trans hB hg,r⟩
theorem zO.mono{w:World}{B B':Nat}{v:Value}{V:List Sl}(h:zO w B v V)(hB:B'<=B):zO w B' v V:=⟨vw h.own hB,h.each,h.apart⟩
theorem bI.row{w w':World}{R p:Nat}{v:Value}{g:Option Nat}(h:bI w R v p)(hg:w.grownBy w' g)(hne:some R≠g):bI w' R v p :=
 ⟨hg.cell h.c0 hne,hg.cell h.c1 hne,(World.frozen?_of_block (w:=w) (hg.block R h.lt hne)).trans h.f1⟩
def lq(R:Nat)(V:List Sl):Prop:=∀r∈V,∀a,r.A=some a->R<a.block
theorem lq.apart{R:Nat}{V:List Sl}(h:lq R V):∀r∈V,aG r (some R):=λr hr _ a e q=>by
 have:=h r hr a e;injection q with q;omega
theorem lq.snoc{R:Nat}{V:List Sl}{r:Sl}(h:lq R V)(hr:∀a,r.A=some a->R<a.block):lq R (V ++ [r]):=by
 intro x hx;rcases List.mem_append.1 hx with h1|h1
 ·exact h x h1
 ·simp only [List.mem_cons,List.not_mem_nil,or_false] at h1;subst h1;exact hr
theorem gP{w:World}{B n:Nat}{e:TypeId}{size:Nat}{v:Value}{xs:List Value}(h:w.ownsRow B e size v n xs){R:Nat}(hR:R<B):v.ownBlock=none\/v.ownBlock≠some R:=by
 rcases hv:v.ownBlock with _|g
 ·exact .inl rfl
 ·have:=jm h g hv;exact .inr (λq=>by injection q with q;omega)
theorem rI{w:World}{B n:Nat}{e:TypeId}{size:Nat}{v:Value}{xs:List Value}(h:w.ownsRow B e size v n xs){R:Nat}(hR:R<B):some R≠v.ownBlock:=by
 rcases gP h hR with h|h
 ·rw [h];simp
 ·exact λq=>h q.symm
theorem Er{w:World}{a:Addr}{n c:Nat}{P:List Nd}(h:Ns w (some a) n c P){i j:Nat}(h1:i<=j)(h2:j<=n):Ns w (some (a.add (i*4))) (j-i) (c-i) (seg P i j):=by
 have:=h.len;have:=h.cap;have:=h.max;exact⟨(jy (by omega)).symm,by omega,by omega,h.at_.seg i j,h.ok.seg i j⟩
theorem vg{v:List Nd}{f:Nat->Option Nat}{N k:Nat}{q n:Nat}(hk:k<N)(h:∃lo,zX v f (N-k) lo q=some n):
 ∃e,f q=some e/\(∃lo,zX v f (N-(k+1)) lo e=some n)/\aL v f (N-k) q=seg v q e :: aL v f (N-(k+1)) e:=by
 obtain⟨lo,h⟩:=h;obtain⟨j,hj⟩:∃j,N-k=j+1:=⟨N-k-1,by omega⟩
 rw [hj] at h;rw [hj,show N-(k+1)=j by omega];simp only [zX] at h;rcases hf:f q with _|e
 ·rw [hf] at h;cases h
 ·rw [hf] at h;simp only at h;split at h
  ·exact⟨e,rfl,⟨_,h⟩,by simp only [aL,hf]⟩
  ·cases h
theorem Bz(A:Option Addr)(n c:Nat)(P:List Nd)(w:World)(h:Ns w A n c P)(hv:zc P=0)(h5:zf P=5):
 Calls Tryz.prog 143 #[.slice A n c] w (pQ w (zq P) []):=by
 obtain⟨i0,hi,hz0,hz1,hz2⟩:=info_parts gz;obtain⟨bX,hV⟩:=zH.1 hv;have hpos:=hV.pos;obtain⟨a,rfl,D⟩:=h.at_.nd hpos;have hn:=h.len;obtain⟨hs0,_,hop,hx0,hN⟩:=F' hV h5;have hE:zq P=aL P (zm P (P.length+1)) P[0].n.toNat 1:=by unfold zq;rw [hN]
 rw [hN] at hs0;obtain⟨-,-,-,OC⟩:=h.ok.at hpos;have K:=O (λq w' (hb:Below w.heap.size w w') rd hq=>iD (some a) P n c w.heap.size hn h.cap h.max h.ok (λh0 a' e=>by have:=h.at_.lt h0 a' e;omega) (P.length+1) q w' rd (h.at_.keep hb) (by omega:n-q<P.length+1));have HN:=O h;have HL:=O hn;have H0:=O hs0;have HE:=O hE;rw [show a.add (0*4)=a from rfl] at D;obtain⟨d0,d1,d2,d3⟩:=D;have r0:bI (w.alloc (.cells #[.slice (some a) n c,.int .i64 1] 154)) w.heap.size (.slice (some a) n c) 1:=⟨by simp,by simp,by simp⟩
 rw [hop] at d0;have d1':=λo:Obj=>za (zb w o) d1;generalize P[0]=x at *;have hn200:n<=200:=by omega
 have hn1:0<n:=by omega
 clear h hv h5 hV hn hs0 hE hN bX hop;go_enter Tryz.func143,Tryz.ntmps143;go_wp2_with fail;clear d1';go_loopw [2,3,12] (λv v' i wr=>∃(k q:Nat) (V:List Sl),i = .int .i64 k/\v' = .slice none 0 0/\(k:Int)<=x.n/\q<=n/\k+1<=q/\V.length=k/\Hid (zq P=V.map Sl.P ++ aL P (zm P (P.length+1)) (x.n.toNat-k) q)/\
  Hid (∃lo,zX P (zm P (P.length+1)) (x.n.toNat-k) lo q=some P.length)/\Hid (zO wr (w.heap.size+1) v V)/\Hid (lq w.heap.size V)/\Hid (bI wr w.heap.size (.slice (some a) n c) q)/\Hid (Below w.heap.size w wr)) (λ_ _ i _=>(x.n-intOf i).toNat)
 case atStart=>exact⟨0,1,[],rfl,rfl,hx0,hn1,by omega,rfl,HE.o,⟨none,H0.o⟩,zO.nil _ _,(by intro r hr;cases hr),r0,zb _ _⟩
 case round =>
  obtain⟨k,q,V,rfl,rfl,hk,hq,hkq,ox,hE,hS,hO,Gw,oC,hB⟩:=hrel;have e0:=za hB.o d0;by_cases hlt:(k:Int)<x.n
  ·obtain⟨e,hf,Mm,hsp⟩:=vg (by omega) hS.o;have hle:=jJ _ _ _ hf;rw [<-HL.o] at hle;have C:=O (K.o q wr hB.o oC.o (by rw [<-HL.o];omega));rw [hf] at C;have aC:=O (hE.o.trans (by rw [hsp]:_=V.map Sl.P ++(seg P q e :: aL P (zm P (P.length+1)) (x.n.toNat-(k+1)) e)));have OU:=O Mm;clear hE hS Mm hsp hf;go_wp2_with fail;refine C.o.mono ?_;rintro e' w2 hpost;obtain⟨rfl,r2,g2⟩:=hpost;have B2:=O (hB.o.trans (jj g2 (Nat.le_refl _) hB.o.size));have O2:=hO.o.row g2 (gP hO.o.own (by omega)) Gw.o.apart;have CL:=O (lp (a.add (q*4)) (e-q) (c-q) (seg P q e) w2 (Er (HN.o.keep B2.o) (by omega) hle.2) (by rw [jy (by rw [<-HL.o];omega)];omega));have R2:=O r2;have NM:=O O2;have yq:=B2.o.size;have hsz3:w.heap.size<w2.heap.size:=R2.o.lt;clear O2 r2 g2 hO hB oC;go_wp2_with fail;refine CL.o.mono ?_;rintro e' w3 hpost;obtain⟨A3,c3,rfl,n3,l3,b3⟩:=hpost;have B3:=bh B2 b3;have LM:=NM.o.keep b3;have hR3:=R2.o.keep b3;have O3:=O LM;have R3:=O hR3;have N3:=O (show Ns w3 (⟨A3,(seg P q e).length,c3,seg P q e⟩:Sl).A _ _ _ from n3);have L3:=O (Gw.o.snoc (r:=⟨A3,(seg P q e).length,c3,seg P q e⟩) (λa' h'=>by have:=l3 a' h';omega));have A3p:Hid (aG ⟨A3,(seg P q e).length,c3,seg P q e⟩ u2.ownBlock):=by
    intro h0 a' e' q';have h1:=bK NM.o.own a'.block q';have h2:=l3 a' e';omega
   have hsz4:=B3.o.size;have hsz5:=b3.size;clear b3 n3 l3 LM hR3 NM R2 B2 Gw;go_wp2_with (at_builtin;refine wpList_append_own_at _ rfl _ _ 84 rfl (w.heap.size+1) 22 i0 _ 1 24 Tryz.underlying84 hi hz0 hz1 hz2 rfl (by decide) _ V.length (V.map Sl.v) rfl (O3.o.own.alloc _) ⟨_,0,none⟩ 1 1 [.slice A3 (seg P q e).length c3] rfl rfl (cell_one_new _ _ _) (by intro u hu;simp only [List.mem_cons,List.not_mem_nil,or_false] at hu;subst hu;rfl) ?c1 ?c2 ?c3 ?_)
   case c1=>unfold maxLen;omega
   case c2=>omega
   case c3=>simp;omega
   intro v1 w4 hown hgrow _ hat;have B4:=O ((B3.o.alloc B3.o.size _).grown hgrow (by simp;omega) (λg hg=>by have:=jm O3.o.own g hg;omega));have R4:=O ((R3.o.keep (zb w3 _)).row hgrow (rI O3.o.own (by omega)));have O4:=O (O3.o.snoc (r:=⟨A3,(seg P q e).length,c3,seg P q e⟩) N3.o A3p.o (by rw [ox];exact hown) hgrow (by simpa using hat));have IE:=O (aC.o.trans (show _=(V ++ [(⟨A3,(seg P q e).length,c3,seg P q e⟩:Sl)]).map Sl.P ++ aL P (zm P (P.length+1)) (x.n.toNat-(k+1)) e by simp));have hl4:(V ++ [(⟨A3,(seg P q e).length,c3,seg P q e⟩:Sl)]).length=k+1:=by simp [ox]
   clear hown hgrow hat O3 R3 N3 A3p aC B3;go_wp2_with fail;go_roundw
   case rel=>exact⟨k+1,e,_,by go_num,rfl,by omega,by omega,by omega,hl4,IE,OU,O4,L3,R4,B4⟩
   case measure=>simp [intOf];omega
  ·have HG:=O (hE.o.trans (show _=V.map Sl.P by rw [show x.n.toNat-k=0 by omega];simp [aL]));clear hE hS oC;go_wp2_with fail;go_ret2;exact⟨_,_,V,rfl,hO.o.mono (by omega),HG.o.symm,World.ownsRow_nil _ _ _ 1,Gw.o,hB.o⟩
end Go.Proofs.YtokiogmfgpidmaaGreatDoor
namespace Go.Wk
theorem uK{v:List Nd}{f:Nat->Option Nat}{N k:Nat}{q n:Nat}(hk:k<N)(h:∃lo,zW v f (N-k) lo q=some n):
 ∃(hq:q<v.length) (e:Nat),f (q+1)=some e/\(∃lo,zW v f (N-(k+1)) lo e=some n)/\aM v f (N-k) q=(v[q].s,seg v (q+1) e):: aM v f (N-(k+1)) e:=by
 obtain⟨lo,h⟩:=h;obtain⟨j,hj⟩:∃j,N-k=j+1:=⟨N-k-1,by omega⟩
 rw [hj] at h;rw [hj,show N-(k+1)=j by omega];simp only [zW] at h;by_cases hq:q<v.length
 ·refine⟨hq,?_⟩;split at h
  ·cases h
  ·rename_i s hs;rcases hf:f (q+1) with _|e
   ·rw [hf] at h;cases h
   ·rw [hf] at h;exact⟨e,rfl,⟨_,h⟩,by simp only [aM,hf];unfold Bo;rw [List.getElem?_eq_getElem hq]⟩
 ·rw [lh (by omega)] at h;cases h
end Go.Wk
namespace Go.Proofs.YtokiogmfgpidmaaGreatDoor
open Go.RowKit Go.Wk Go.Sort
structure jv(w:World)(B:Nat)(v v':Value)(V:List Sl)(N:List ByteArray):Prop where
 a:zO w B v V
 b:w.ownsRow B 9 1 v' N.length (N.map Value.string)
 ab:v.ownBlock=none\/v.ownBlock≠v'.ownBlock
 ap:∀r∈V,aG r v'.ownBlock
theorem jv.keep{w w':World}{B:Nat}{v v':Value}{V:List Sl}{N:List ByteArray}(h:jv w B v v' V N)(hb:Below w.heap.size w w'):jv w' B v v' V N :=
 ⟨h.a.keep hb,bN h.b hb,h.ab,h.ap⟩
theorem jv.other{w w':World}{B R:Nat}{v v':Value}{V:List Sl}{N:List ByteArray}(h:jv w B v v' V N)(hg:w.grownBy w' (some R))(hR:R<B)(hL:lq R V):jv w' B v v' V N :=
 ⟨h.a.row hg (gP h.a.own hR) hL.apart,h.b.kept hg (gP h.b hR),h.ab,h.ap⟩
theorem il:(Tryz.prog.info? 9).map (λi=>(i.zero,i.size,i.bytes))=some (some (.string ⟨#[]⟩),1,16):=by kernel_rfl
theorem jv.name{w w':World}{B:Nat}{v v' v1:Value}{V:List Sl}{N:List ByteArray}{s:ByteArray}{o:Obj}(h:jv w B v v' V N)
 (hown:w'.ownsRow B 9 1 v1 (N.length+1) (N.map Value.string ++ [.string s])) (hg:(w.alloc o).grownBy w' v'.ownBlock) (hat:v1.ownBlock=v'.ownBlock\/v1.ownBlock=some (w.alloc o).heap.size):jv w' B v v1 V (N ++ [s]):=by
 have hba:Below w.heap.size w (w.alloc o):=zb w o;refine⟨(h.a.keep hba).row hg h.ab h.ap,by simpa using hown,?_,λr hr h0 a e=>?_⟩
 ·rcases hv:v.ownBlock with _|g
  ·exact .inl rfl
  ·have hlt:=bK h.a.own g hv;refine .inr ?_;rcases hat with q|q
   ·rw [q,<-hv];rcases h.ab with z|z
    ·rw [hv] at z;cases z
    ·exact z
   ·rw [q];intro z;injection z with z;simp at z;omega
 ·rcases hat with q|q
  ·rw [q];exact h.ap r hr h0 a e
  ·rw [q];have:=(h.a.each r hr).at_.lt h0 a e;intro z;injection z with z;simp at z;omega
theorem jv.part{w w':World}{B:Nat}{v v' v1:Value}{V:List Sl}{N:List ByteArray}{r:Sl}{o:Obj}(h:jv w B v v' V N)(hr:Ns w r.A r.n r.c r.P)(ha:aG r v.ownBlock)(ha':aG r v'.ownBlock)
 (hown:w'.ownsRow B 22 1 v1 (V.length+1) (V.map Sl.v ++ [r.v])) (hg:(w.alloc o).grownBy w' v.ownBlock) (hat:v1.ownBlock=v.ownBlock\/v1.ownBlock=some (w.alloc o).heap.size):jv w' B v1 v' (V ++ [r]) N:=by
 have hba:Below w.heap.size w (w.alloc o):=zb w o;refine⟨h.a.snoc hr ha hown hg hat,(bN h.b hba).kept hg ?_,?_,?_⟩
 ·rcases h.ab with z|z
  ·rw [z];cases v'.ownBlock <;> simp
  ·exact .inr (λq=>z q.symm)
 ·rcases hv:v1.ownBlock with _|g
  ·exact .inl rfl
  ·refine .inr ?_;rcases hat with q|q
   ·rcases h.ab with z|z
    ·rw [hv,z] at q;cases q
    ·rw [<-hv,q];exact z
   ·intro z;have:=bK h.b g z.symm;rw [hv] at q;injection q with q;simp at q;omega
 ·intro x hx;rcases List.mem_append.1 hx with h1|h1
  ·exact h.ap x h1
  ·simp only [List.mem_cons,List.not_mem_nil,or_false] at h1;subst h1;exact ha'
theorem pR(A:Option Addr)(n c:Nat)(P:List Nd)(w:World)(h:Ns w A n c P)(hv:zc P=0)(h6:zf P=6):
 Calls Tryz.prog 143 #[.slice A n c] w (pQ w ((zr P).map (·.2)) ((zr P).map (·.1))):=by
 obtain⟨i0,hi,hz0,hz1,hz2⟩:=info_parts gz;obtain⟨j0,hj,jz0,jz1,jz2⟩:=info_parts il;obtain⟨bX,hV⟩:=zH.1 hv;have hpos:=hV.pos;obtain⟨a,rfl,D⟩:=h.at_.nd hpos;have hn:=h.len;obtain⟨hs0,_,hop,hx0,hN⟩:=ED hV h6;have hE:zr P=aM P (zm P (P.length+1)) P[0].n.toNat 1:=by unfold zr;rw [hN]
 rw [hN] at hs0;obtain⟨-,-,-,OC⟩:=h.ok.at hpos;have K:=O (λq w' (hb:Below w.heap.size w w') rd hq=>iD (some a) P n c w.heap.size hn h.cap h.max h.ok (λh0 a' e=>by have:=h.at_.lt h0 a' e;omega) (P.length+1) q w' rd (h.at_.keep hb) (by omega:n-q<P.length+1));have HN:=O h;have HL:=O hn;have H0:=O hs0;have HE:=O hE;rw [show a.add (0*4)=a from rfl] at D;obtain⟨d0,d1,d2,d3⟩:=D;have r0:bI (w.alloc (.cells #[.slice (some a) n c,.int .i64 1] 154)) w.heap.size (.slice (some a) n c) 1:=⟨by simp,by simp,by simp⟩
 rw [hop] at d0;have d1':=λo:Obj=>za (zb w o) d1;generalize P[0]=x at *;have hn200:n<=200:=by omega
 have hn1:0<n:=by omega
 clear h hv h6 hV hn hs0 hE hN bX hop;go_enter Tryz.func143,Tryz.ntmps143;go_wp2_with fail;clear d1';go_loopw [2,3,12] (λv v' i wr=>∃(k q:Nat) (V:List Sl) (X:List (ByteArray × List Nd)),i = .int .i64 k/\(k:Int)<=x.n/\q<=n/\k+1<=q/\V.length=k/\X.length=k/\Hid (V.map Sl.P=X.map (·.2))/\Hid (zr P=X ++ aM P (zm P (P.length+1)) (x.n.toNat-k) q)/\
  Hid (∃lo,zW P (zm P (P.length+1)) (x.n.toNat-k) lo q=some P.length)/\Hid (jv wr (w.heap.size+1) v v' V (X.map (·.1)))/\Hid (lq w.heap.size V)/\Hid (bI wr w.heap.size (.slice (some a) n c) q)/\Hid (Below w.heap.size w wr)) (λ_ _ i _=>(x.n-intOf i).toNat)
 case atStart=>exact⟨0,1,[],[],rfl,hx0,hn1,by omega,rfl,rfl,rfl,HE.o,⟨_,H0.o⟩,⟨zO.nil _ _,World.ownsRow_nil _ _ _ 1,.inl rfl,(by intro r hr;cases hr)⟩,(by intro r hr;cases hr),r0,zb _ _⟩
 case round =>
  obtain⟨k,q,V,X,rfl,hk,hq,hkq,ox,KO,Kw,hE,hS,hT,Gw,oC,hB⟩:=hrel;have e0:=za hB.o d0;by_cases hlt:(k:Int)<x.n
  ·obtain⟨hq',e,hf,Mm,hsp⟩:=uK (by omega) hS.o;have hle:=jJ _ _ _ hf;rw [<-HL.o] at hle;have MU:q<n:=by omega
   obtain⟨a',ha',⟨-,-,q2,-⟩⟩:=(HN.o.at_.keep hB.o).nd hq';injection ha' with ha';subst ha';have aC:=O (hE.o.trans (by rw [hsp]:_=X ++((P[q].s,seg P (q+1) e):: aM P (zm P (P.length+1)) (x.n.toNat-(k+1)) e)));have OU:=O Mm;have HF:=O hf;have LR:(seg P (q+1) e).length=e-(q+1):=jy (by rw [<-HL.o];omega);have HSG:=O LR;generalize P[q].s=nm at *;obtain⟨c0,c1,f1⟩:=oC.o;have hsz1:=hB.o.size;have px:=oC.o.lt;clear hE hS Mm hsp hf LR;go_wp2_with (at_builtin;refine wpList_append_own_at _ rfl _ _ 85 rfl (w.heap.size+1) 9 j0 _ 1 16 Tryz.underlying85 hj jz0 jz1 jz2 rfl (by decide) _ (X.map (·.1)).length ((X.map (·.1)).map Value.string) rfl (hT.o.b.alloc _) ⟨_,0,none⟩ 1 1 [.string nm] rfl rfl (cell_one_new _ _ _) (by intro u hu;simp only [List.mem_cons,List.not_mem_nil,or_false] at hu;subst hu;rfl) ?c1 ?c2 ?c3 ?_)
   case c1=>simp;unfold maxLen;omega
   case c2=>simp;omega
   case c3=>simp;omega
   intro v1 w1 hown hgrow _ hat;have T1:=O (hT.o.name (s:=nm) (by simpa [KO] using hown) hgrow (by simpa using hat));have B1:=O ((hB.o.alloc hB.o.size _).grown hgrow (by simp;omega) (λg hg=>by have:=jm hT.o.b g hg;omega));have R1:=O ((oC.o.keep (zb wr _)).row hgrow (rI hT.o.b (by omega)));have R2:=O (R1.o.put (q+1));have T2:=O (T1.o.other (R:=w.heap.size) (zB w1 ⟨w.heap.size,1,none⟩ (.int .i64 (q+1:Nat))) (by omega) Gw.o);have B2:=O (B1.o.setCell (p:=⟨w.heap.size,1,none⟩) (Nat.le_refl _) (.int .i64 (q+1:Nat)));have hRl1:=R1.o.lt;obtain⟨c0',c1',f1'⟩:=R1.o;have C:=O (K.o (q+1) _ B2.o R2.o (by rw [<-HL.o];omega));rw [HF.o] at C;clear hown hgrow hat hT hB oC c0 c1 f1 q2 T1 B1 R1;go_wp2_with fail;refine C.o.mono ?_;rintro e' w3 hpost;obtain⟨rfl,r3,g3⟩:=hpost;have B3:=O (B2.o.trans (jj g3 (Nat.le_refl _) B2.o.size));have T3:=O (T2.o.other g3 (by omega) Gw.o);have CL:=O (lp (a.add ((q+1)*4)) (e-(q+1)) (c-(q+1)) (seg P (q+1) e) w3 (Er (HN.o.keep B3.o) (by omega) hle.2) (by rw [HSG.o];omega));have R3:=O r3;have yq:=B3.o.size;have hsz3:w.heap.size<w3.heap.size:=R3.o.lt;clear r3 g3 T2 B2 R2 c0' c1' f1';go_wp2_with fail;refine CL.o.mono ?_;rintro e' w4 hpost;obtain⟨A3,c3,rfl,n3,l3,b4⟩:=hpost;have B4:=bh B3 b4;have T4:=O (T3.o.keep b4);have R4:=O (R3.o.keep b4);have N4:=O (show Ns w4 (⟨A3,(seg P (q+1) e).length,c3,seg P (q+1) e⟩:Sl).A _ _ _ from n3);have L4:=O (Gw.o.snoc (r:=⟨A3,(seg P (q+1) e).length,c3,seg P (q+1) e⟩) (λa' h'=>by have:=l3 a' h';omega));have A4:Hid (aG ⟨A3,(seg P (q+1) e).length,c3,seg P (q+1) e⟩ u2.ownBlock):=by
    intro h0 a' e' q';have h1:=bK T3.o.a.own a'.block q';have h2:=l3 a' e';omega
   have A5:Hid (aG ⟨A3,(seg P (q+1) e).length,c3,seg P (q+1) e⟩ v1.ownBlock):=by
    intro h0 a' e' q';have h1:=bK T3.o.b a'.block q';have h2:=l3 a' e';omega
   have hsz4:=B4.o.size;have hsz5:=b4.size;clear b4 n3 l3 T3 R3 B3 Gw;go_wp2_with (at_builtin;refine wpList_append_own_at _ rfl _ _ 84 rfl (w.heap.size+1) 22 i0 _ 1 24 Tryz.underlying84 hi hz0 hz1 hz2 rfl (by decide) _ V.length (V.map Sl.v) rfl (T4.o.a.own.alloc _) ⟨_,0,none⟩ 1 1 [.slice A3 (seg P (q+1) e).length c3] rfl rfl (cell_one_new _ _ _) (by intro u hu;simp only [List.mem_cons,List.not_mem_nil,or_false] at hu;subst hu;rfl) ?d1 ?d2 ?d3 ?_)
   case d1=>unfold maxLen;omega
   case d2=>omega
   case d3=>simp;omega
   intro v2 w5 hown hgrow _ hat;have B5:=O ((B4.o.alloc B4.o.size _).grown hgrow (by simp;omega) (λg hg=>by have:=jm T4.o.a.own g hg;omega));have R5:=O ((R4.o.keep (zb w4 _)).row hgrow (rI T4.o.a.own (by omega)));have T5:=O (T4.o.part (r:=⟨A3,(seg P (q+1) e).length,c3,seg P (q+1) e⟩) N4.o A4.o A5.o (by rw [ox];exact hown) hgrow (by simpa using hat));have HE5:=O (aC.o.trans (show _=(X ++ [(nm,seg P (q+1) e)])++ aM P (zm P (P.length+1)) (x.n.toNat-(k+1)) e by simp));have L0:(V ++ [(⟨A3,(seg P (q+1) e).length,c3,seg P (q+1) e⟩:Sl)]).length=k+1:=by simp [ox]
   have La:(X ++ [(nm,seg P (q+1) e)]).length=k+1:=by simp [KO]
   have HV5:=O (show(V ++ [(⟨A3,(seg P (q+1) e).length,c3,seg P (q+1) e⟩:Sl)]).map Sl.P=(X ++ [(nm,seg P (q+1) e)]).map (·.2) by
    rw [List.map_append,List.map_append,Kw.o];rfl)
   have T6:=O (show jv w5 (w.heap.size+1) v2 v1 (V ++ [(⟨A3,(seg P (q+1) e).length,c3,seg P (q+1) e⟩:Sl)]) ((X ++ [(nm,seg P (q+1) e)]).map (·.1)) by
    rw [List.map_append];exact T5.o)
   clear hown hgrow hat R4 N4 A4 A5 aC B4 T5;go_wp2_with fail;go_roundw
   case rel=>exact⟨k+1,e,_,_,by go_num,by omega,by omega,by omega,L0,La,HV5,HE5,OU,T6,L4,R5,B5⟩
   case measure=>simp [intOf];omega
  ·have HG:=O (hE.o.trans (show _=X by rw [show x.n.toNat-k=0 by omega];simp [aM]));clear hE hS oC;go_wp2_with fail;go_ret2;exact⟨_,_,V,rfl,hT.o.a.mono (by omega),by rw [HG.o];exact Kw.o,by rw [HG.o];exact vw hT.o.b (by omega),Gw.o,hB.o⟩
end Go.Proofs.YtokiogmfgpidmaaGreatDoor
