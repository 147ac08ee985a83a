/-
  A row of the call's own that holds nodes: append, and what it is as nodes. ..
-/
import Derived.Test.YtokiogmfgpidmaaGreatDoorD2
import Derived.Test.YtokiogmfgpidmaaGreatDoorD18
set_option maxRecDepth 100000
set_option maxHeartbeats 8000000
namespace Go.Proofs.YtokiogmfgpidmaaGreatDoor
open Go.RowKit Go.Wk Go.Sort
structure Pn(w:World)(base:Nat)(v:Value)(P:List Nd):Prop where
 own:w.ownsRow base 28 4 v P.length (zL P)
theorem Pn.alloc{w:World}{base:Nat}{v:Value}{P:List Nd}(h:Pn w base v P)(o:Obj):Pn (w.alloc o) base v P:=⟨h.own.alloc o⟩
theorem Pn.keepN{w w':World}{base:Nat}{v:Value}{P:List Nd}(h:Pn w base v P)(hb:Below w.heap.size w w'):Pn w' base v P:=⟨h.own.kept (zA hb none) (by cases hv:v.ownBlock <;> simp)⟩
def zbM(w:World)(base:Nat)(v:Value)(P:List Nd)(e:Ending)(w':World):Prop :=
 ∃v',e = .returned v'/\Pn w' base v' P/\w.grownBy w' v.ownBlock/\(v'.ownBlock=v.ownBlock\/∃g,v'.ownBlock=some g/\w.heap.size<=g)
theorem zgx{w w1 w2:World}{r r1:Option Nat}(h:w.grownBy w1 r)(k:w1.grownBy w2 r1)(hr:r1=r\/∃g,r1=some g/\w.heap.size<=g):w.grownBy w2 r :=
 ⟨k.os.trans h.os,k.tape.trans h.tape,k.output.trans h.output,Nat.le_trans h.size k.size,λi hi hn=>(k.block i (Nat.lt_of_lt_of_le hi h.size) (λe=>by
  rcases hr with rfl|⟨g,rfl,hg⟩
  ·exact hn e
  ·injection e with e;omega)).trans (h.block i hi hn)⟩
theorem QR{ops:Array Oper}{rest:List Oper}{o:Oper}{a:Act}{w:World}{Q:Exit->Act->World->Prop}(hgd:o.guard=none)(s x:Operand)
 (ho:o.op = .call { callee := .builtin .append,args:=#[s,x],argTypes:=#[22,22] })
 (base:Nat) (v:Value) (P:List Nd) (hs:a.eval s=v) (hrow:Pn w base v P) (z:Nd) (ad:Addr) (m c:Nat) (hx:a.eval x = .slice (some ad) m c) (hm:m=1)
 (hnews:∀j u,(zL [z])[j]?=some u->w.cell? (ad.add j)=some u) (hl:P.length<=1000000) (hbase:base<=w.heap.size)
 (h:∀v' w',Pn w' base v' (P ++ [z])->w.grownBy w' v.ownBlock->(v'.ownBlock=v.ownBlock\/∃g,v'.ownBlock=some g/\w.heap.size<=g)->wpList Tryz.prog ops Q rest (a.put o.dst v') w'):wpList Tryz.prog ops Q (o :: rest) a w:=by
 subst hm;have hi:=Ru
 cases hq:Tryz.prog.info? 28 with
 | none=>rw [hq] at hi;cases hi
 | some i0 =>
  rw [hq] at hi
  simp only [Option.map_some,Option.some.injEq,Prod.mk.injEq] at hi
  refine wpList_append_own_at w hgd s x _ ho base _ i0 _ 4 48 Tryz.underlying22 hq hi.1 hi.2.1 hi.2.2 (by decide) (by decide) v P.length (zL P) hs hrow.own ad 1 c (zL [z]) hx rfl hnews ?_ (by unfold maxLen;omega) (by omega) hbase ?_
  ·intro u hu
   simp [zL] at hu;rcases hu with rfl|rfl|rfl|rfl <;> rfl
  ·intro v' w' h1 h2 _ h4
   refine h v' w' ⟨by rw [ow,List.length_append];exact h1⟩ h2 ?_;rcases h4 with h4|h4
   ·exact .inl h4
   ·exact .inr ⟨_,h4,Nat.le_refl _⟩
theorem Pn.ns{w:World}{base:Nat}{v:Value}{P:List Nd}(h:Pn w base v P)(hok:gh P)(hl:P.length<=1000000):∃(A:Option Addr) (n c:Nat),v = .slice A n c/\n=P.length/\Ns w A n c P:=by
 obtain⟨A,c,rfl,h1,h2,-⟩:=vl h.own;exact⟨A,_,c,rfl,rfl,⟨rfl,h1,by unfold maxLen;omega,h2,hok⟩⟩
theorem Ut(w:World)(base:Nat):Pn w base (.slice none 0 0) []:=⟨World.ownsRow_nil _ _ _ _⟩
def zjM(N:Nat):Prop:=∀(x:Ex) (u:List Value) (w:World) (B:Nat->Prop) (base:Nat) (v:Value) (P:List Nd),x.flat.length<=N->P.length+x.flat.length<=100000->PAt w B x u->Pn w base v P->base<=w.heap.size->(∀b,B b->b<base)->
 Calls Tryz.prog 18 #[.agg u.toArray,v] w (zbM w base v (P ++ x.flat))
structure PLp(w wr:World)(base:Nat)(v u:Value)(P:List Nd):Prop where
 F:Pn wr base u P
 G:w.grownBy wr v.ownBlock
 H:u.ownBlock=v.ownBlock\/∃g,u.ownBlock=some g/\w.heap.size<=g
theorem zh0(ps:Exs)(k:Nat)(h:k<(exL ps).length):(((exL ps).drop k).map Ex.flat).flatten=(exL ps)[k].flat ++(((exL ps).drop (k+1)).map Ex.flat).flatten:=by
 rw [List.drop_eq_getElem_cons h];rfl
theorem Pj:∀(ps:Exs),∀y∈exL ps,y.flat.length<=ps.flat.length
 | .nil,y,h=>nomatch h
 | .cons x r,y,h=>by
  rw [Exs.flat,List.length_append];rcases List.mem_cons.1 h with rfl|h
  ·omega
  ·have:=Pj r y h;omega
theorem zgW(N:Nat)(ih:zjM N)(nd:Nd)(ps:Exs)(A:Option Addr)(c:Nat)(w:World)(B:Nat->Prop)(base:Nat)(v:Value)(P:List Nd)(hN:ps.flat.length<=N)(hP:P.length+(ps.flat.length+1)<=100000)(hk:lV w B A 0 ps)(hown:Pn w base v P)(hbase:base<=w.heap.size)(hB:∀b,B b->b<base):
 Calls Tryz.prog 18 #[.agg #[.int .i64 nd.op,.int .i64 nd.n,.string nd.s,.string nd.t,.slice A ps.len c],v] w (zbM w base v (P ++ nd :: ps.flat)):=by
 have HK:=O hk;have QK:=O hB;have IH:=O ih;have HFL:=O (zaw ps);have hml:ps.len<=100000:=by have:=gY ps;omega
 obtain⟨m,hm⟩:∃m,m=ps.len:=⟨_,rfl⟩
 have HM:=O (hm.trans (J' ps).symm);rw [<-hm] at hml ⊢;obtain⟨PP,hPP⟩:∃PP,PP=P ++ nd :: ps.flat:=⟨_,rfl⟩
 have HPL:=O (show PP.length<=100000 by rw [hPP];simp;omega);have HPP:=O hPP;rw [<-hPP];clear hPP hk hB hm ih;have Ba:=zb w (.cells #[.int .i64 nd.op,.int .i64 nd.n,.string nd.s,.string nd.t,.slice A m c] 49);have Bb:=zb (w.alloc (.cells #[.int .i64 nd.op,.int .i64 nd.n,.string nd.s,.string nd.t,.slice A m c] 49)) (.cells #[.int .i64 nd.op,.int .i64 nd.n,.string nd.s,.string nd.t] 28);have hza:(w.alloc (.cells #[.int .i64 nd.op,.int .i64 nd.n,.string nd.s,.string nd.t,.slice A m c] 49)).heap.size=w.heap.size+1:=by simp
 have hzb:((w.alloc (.cells #[.int .i64 nd.op,.int .i64 nd.n,.string nd.s,.string nd.t,.slice A m c] 49)).alloc (.cells #[.int .i64 nd.op,.int .i64 nd.n,.string nd.s,.string nd.t] 28)).heap.size=w.heap.size+2:=by simp
 have B3:=O (Ba.trans (Bb.mono (by simp)));have X3:=O ((jR w (.int .i64 nd.op) (.int .i64 nd.n) (.string nd.s) (.string nd.t) (.slice A m c) 49).keep Bb);have HO:=O ((hown.alloc (.cells #[.int .i64 nd.op,.int .i64 nd.n,.string nd.s,.string nd.t,.slice A m c] 49)).alloc (.cells #[.int .i64 nd.op,.int .i64 nd.n,.string nd.s,.string nd.t] 28));have rn:=jP (w.alloc (.cells #[.int .i64 nd.op,.int .i64 nd.n,.string nd.s,.string nd.t,.slice A m c] 49)) (zL [nd]) 28;rw [hza] at rn;have RN:=O rn;have HZ:=O hzb;have HOL:=O (λg hg=>hown.own.lt g hg);clear rn hza hzb Ba Bb hown;go_enter Tryz.func18,Tryz.ntmps18;go_wp2_with (at_builtin;refine QR rfl _ _ rfl base v P rfl HO.o nd ⟨w.heap.size+1,0,none⟩ 1 1 rfl rfl RN.o ?c1 ?c2 ?_)
 case c1=>omega
 case c2=>rw [HZ.o];omega
 intro v' w4 hrow hg hb;have X4:=O (X3.o.but hg (λe=>by have:=(HOL.o _ e.symm).2;omega));have LP:=O (show PLp w w4 base v v' (P ++ [nd]) from⟨hrow,z8 (zA B3.o v.ownBlock) hg,by
  rcases hb with hb|⟨g,hb,h2⟩
  ·exact .inl hb
  ·exact .inr ⟨g,hb,by have:=HZ.o;omega⟩⟩)
 obtain⟨x0,x1,x2,x3,x4,-,-,-,-,-⟩:=X4.o;clear hrow hg hb B3 X3 HO RN X4;go_wp2_with fail;go_loopw [1,15] (λu i wr=>∃(k:Nat) (Q:List Nd),i = .int .i64 k/\k<=m/\Hid (Q ++(((exL ps).drop k).map Ex.flat).flatten=PP)/\Hid (PLp w wr base v u Q)) (λ_ i _=>m-(intOf i).toNat)
 case atStart=>exact⟨0,_,rfl,Nat.zero_le _,O (by rw [HPP.o,List.drop_zero,<-HFL.o];simp),LP⟩
 case round =>
  clear x0 x1 x2 x3 x4 LP;obtain⟨k,Q,rfl,hkm,hQ,hL⟩:=hrel;by_cases hlt:k<m
  ·have VG:k<(exL ps).length:=by rw [<-HM.o];exact hlt
   have HOLD:=O (show∀b,B b->wr.heap[b]?=w.heap[b]? from λb hb=>hL.o.G.block b (by have:=QK.o b hb;omega) (λe=>by have:=(HOL.o _ e.symm).1;have:=QK.o b hb;omega));obtain⟨a,u,rfl,hBa,hr,hx⟩:=lV.at ps A 0 (lV.cong HOLD.o ps A 0 HK.o) k _ (List.getElem?_eq_getElem VG);rw [Nat.zero_add] at hr;have HFD:=O (zh0 ps k VG);have HYS:=O (Nat.le_trans (Pj ps _ (List.getElem_mem VG)) hN);obtain⟨y,hy⟩:∃y,y=(exL ps)[k]:=⟨_,rfl⟩
   rw [<-hy] at hx HFD HYS;clear hy;obtain⟨o,n',s,t,A',m',c',rfl,q0,q1,q2,q3,q4⟩:=PAt.cells hr hx;have HX:=O hx;have HLE:=O (show Q.length+y.flat.length<=100000 by
    have h1:=congrArg List.length hQ.o
    have h2:=HPL.o
    rw [HFD.o] at h1
    simp only [List.length_append] at h1
    omega)
   have HQ2:=O (show(Q ++ y.flat)++(((exL ps).drop (k+1)).map Ex.flat).flatten=PP by
    rw [<-hQ.o,HFD.o];simp)
   clear hr hx hBa;have HS:=O hL.o.G.size;have hbr:base<=wr.heap.size:=Nat.le_trans hbase HS.o;have Ba:=zb wr (.cells #[.int .i64 o,.int .i64 n',.string s,.string t,.slice A' m' c'] 49);have KC:=O (IH.o y _ (wr.alloc (.cells #[.int .i64 o,.int .i64 n',.string s,.string t,.slice A' m' c'] 49)) B base u1 Q HYS.o HLE.o (PAt.cong (λb hb=>Ba.block b (Nat.lt_of_lt_of_le (QK.o b hb) hbr)) _ _ HX.o) (hL.o.F.alloc _) (Nat.le_trans hbr Ba.size) QK.o);have BA:=O Ba;clear Ba;go_wp2_with fail;refine KC.o.mono ?_;rintro e w6 ⟨v6,rfl,r6,g6,h6⟩;have L6:=O (show PLp w w6 base v v6 (Q ++ y.flat) from⟨r6,zgx hL.o.G (z8 (zA BA.o u1.ownBlock) g6) hL.o.H,by
    rcases h6 with h|⟨g,h,h2⟩
    ·rw [h];exact hL.o.H
    ·exact .inr ⟨g,h,Nat.le_trans HS.o (Nat.le_trans BA.o.size h2)⟩⟩)
   clear q0 q1 q2 q3 q4 r6 g6 h6 KC;go_wp2_with fail;go_roundw
   case rel=>exact⟨k+1,_,by go_num,hlt,HQ2,L6⟩
   case measure=>simp [intOf];omega
  ·have zou:k=m:=by omega
   subst zou;have HE:=O (show Q=PP by
    have h1:=hQ.o
    rw [List.drop_eq_nil_of_le (by rw [<-HM.o];exact Nat.le_refl _)] at h1
    simpa using h1)
   go_wp2_with fail;go_ret;exact⟨_,rfl,by rw [<-HE.o];exact hL.o.F,hL.o.G,hL.o.H⟩
theorem Ta:∀N,zjM N
 | 0=>λx _ _ _ _ _ _ h=>by have:=jp x;omega
 | N+1=>λx u w B base v P h hP hx hown hbase hB=>by
  cases x with
  | node nd ps =>
   rw [PAt] at hx
   obtain⟨-,A,c,rfl,h1,h2,h3⟩:=hx
   rw [Ex.flat,List.length_cons] at h hP
   rw [Ex.flat]
   exact zgW N (Ta N) nd ps A c w B base v P (by omega) hP h3 hown hbase hB
end Go.Proofs.YtokiogmfgpidmaaGreatDoor
namespace Go.Proofs.YtokiogmfgpidmaaGreatDoor
open Go.RowKit Go.Wk
theorem YO(n:Int)(w:World)(h0:0<=n)(h1:n<=255):Calls Tryz.prog 118 #[.int .u8 n] w λe w'=>e = .returned (.bool (J8 n))/\w=w':=by
 go_enter Tryz.func118,Tryz.ntmps118;go_wp2
 all_goals (go_ret;exact⟨zn (by unfold J8;rw [Bool.eq_iff_iff];simp;omega),rfl⟩)
theorem zb3(n:Int)(w:World)(h0:0<=n)(h1:n<=255):Calls Tryz.prog 119 #[.int .u8 n] w λe w'=>e = .returned (.bool (Qr n))/\w=w':=by
 go_enter Tryz.func119,Tryz.ntmps119;go_wp2
 all_goals (go_ret;exact⟨zn (by unfold Qr;rw [Bool.eq_iff_iff];simp;omega),rfl⟩)
theorem CM(s:ByteArray)(w:World)(hs:s.size<=maxLen):Calls Tryz.prog 71 #[.string s] w λe w'=>e = .returned (.int .i64 (zh s))/\w=w':=by
 unfold maxLen at hs;go_enter Tryz.func71,Tryz.ntmps71;go_wp2;go_loop [2,3] (λr i=>∃k:Nat,k<=s.size/\i = .int .i64 k/\r = .int .i64 0/\Hid (0<k->Ag (s.data.toList.take k)=true)) (λ_ i=>s.size-(intOf i).toNat)
 case atStart=>exact⟨0,Nat.zero_le _,rfl,rfl,λh=>absurd h (by omega)⟩
 case round =>
  obtain⟨k,hk,rfl,rfl,hall⟩:=hrel;by_cases hlt:k<s.size
  ·have C1:=O (λw=>YO (s[k].toNat:Int) w (by omega) (by have:=s[k].toNat_lt;omega));have C2:=O (λw=>zb3 (s[k].toNat:Int) w (by omega) (by have:=s[k].toNat_lt;omega));by_cases hk0:k=0
   ·subst hk0;have G1:=O (λq:J8 (s[0].toNat:Int)=true=>(show Ag (s.data.toList.take 1)=true from SG hlt q));have G2:=O (λq:J8 (s[0].toNat:Int)=false=>(show zh s=1 by unfold zh;rw [MM hlt q];rfl));clear hall;rcases hx:J8 (s[0].toNat:Int) with _|_ <;> rw [hx] at C1 G1 G2 <;> clear hx
    ·go_wp2_with (go_at_call 118;refine(C1.o _).mono ?_;rintro e w' ⟨rfl,rfl⟩);go_ret;exact⟨by rw [G2.o (by simp)];rfl,rfl⟩
    ·go_wp2_with (go_at_call 118;refine(C1.o _).mono ?_;rintro e w' ⟨rfl,rfl⟩);go_round
     case rel=>exact⟨1,by omega,by go_num,rfl,λ_=>G1.o (by simp)⟩
     case measure=>simp [intOf];omega
   ·have hst:IK s[k]=(J8 (s[k].toNat:Int)|| Qr (s[k].toNat:Int)):=rfl;have G1:=O (λq:IK s[k]=true=>(show Ag (s.data.toList.take (k+1))=true from Rj (by omega) hlt (hall.o (by omega)) q));have G2:=O (λq:IK s[k]=false=>(show zh s=1 by unfold zh;rw [zbU (by omega) hlt q];rfl));rw [hst] at G1 G2;have hk1:((k:Int)==0)=false:=by rw [beq_eq_false_iff_ne];omega
    clear hst hall hk0;rcases hx:J8 (s[k].toNat:Int) with _|_ <;> rcases hy:Qr (s[k].toNat:Int) with _|_ <;> rw [hx] at C1 G1 G2 <;> rw [hy] at C2 G1 G2 <;> clear hx hy
    all_goals go_wp2_with (first|(go_at_call 118;refine(C1.o _).mono ?_;rintro e w' ⟨rfl,rfl⟩)|(go_at_call 119;refine(C2.o _).mono ?_;rintro e w' ⟨rfl,rfl⟩))
    ·go_ret;exact⟨by rw [G2.o (by simp)];rfl,rfl⟩
    all_goals
     go_round
     case rel=>exact⟨k+1,by omega,by go_num,rfl,λ_=>G1.o rfl⟩
     case measure=>simp [intOf];omega
  ·by_cases h0:s.size=0
   ·have H3:=O (show zh s=1 by unfold zh;rw [Mw h0];rfl);have h1:((s.size:Int)==0)=true:=by rw [beq_iff_eq];omega
    clear hall;go_wp2;go_ret;exact⟨by rw [H3.o];rfl,rfl⟩
   ·have H2:=O (show Ag s.data.toList=true from zdM (by omega) (hall.o (by omega)));have h1:((s.size:Int)==0)=false:=by rw [beq_eq_false_iff_ne];omega
    clear hall h0;by_cases h20:20<s.size
    ·have H3:=O (show zh s=4 by unfold zh;rw [H2.o,if_pos rfl,if_pos h20]);clear H2;go_wp2;go_ret;exact⟨by rw [H3.o];rfl,rfl⟩
    ·have H3:=O (show zh s=0 by unfold zh;rw [H2.o,if_pos rfl,if_neg h20]);clear H2;go_wp2;go_ret;exact⟨by rw [H3.o];rfl,rfl⟩
theorem LX(s:ByteArray)(w:World)(hs:s.size<=maxLen):Calls Tryz.prog 73 #[.string s] w λe w'=>e = .returned (.int .i64 (zt s))/\Below w.heap.size w w':=by
 unfold maxLen at hs;by_cases h60:60<s.size
 ·have H:=O (show zt s=4 by unfold zt;rw [if_pos h60]);go_enter Tryz.func73,Tryz.ntmps73;go_wp2;go_ret;exact⟨by rw [H.o];rfl,Below.refl _ _⟩
 have H:=O (show zt s=if s.data.toList.all CU then 0 else 1 by unfold zt;rw [if_neg (by omega)]);go_enter Tryz.func73,Tryz.ntmps73;go_wp2;go_loopw [2,3] (λr i wr=>∃k:Nat,k<=s.size/\i = .int .i64 k/\r = .int .i64 0/\Hid ((s.data.toList.take k).all CU=true)/\Below w.heap.size w wr) (λ_ i _=>s.size-(intOf i).toNat)
 case atStart=>exact⟨0,Nat.zero_le _,rfl,rfl,by simp [Hid],Below.refl _ _⟩
 case round =>
  obtain⟨k,hk,rfl,rfl,hall,hb⟩:=hrel;by_cases hlt:k<s.size
  ·by_cases hp:32<=(s[k].toNat:Int)/\(s[k].toNat:Int)<=126
   ·have H2:=O (show(s.data.toList.take (k+1)).all CU=true by rw [TS s CU hlt,hall.o,Bool.true_and];unfold CU zbG;simp;omega);obtain⟨Nn,QM⟩:=hp;have q1:decide ((s[k].toNat:Int)<32)=false:=by simp;omega
    clear hall;go_wp2;go_roundw
    case rel=>exact⟨k+1,by omega,by go_num,rfl,H2,hb⟩
    case measure=>simp [intOf];omega
   ·have H2:=O (show s.data.toList.all CU=false from QC hlt (by unfold CU zbG;rw [Bool.eq_false_iff];simp;omega));clear hall;by_cases hq:(s[k].toNat:Int)<32
    ·clear hp;have q1:decide ((s[k].toNat:Int)<32)=true:=by simp;omega
     go_wp2;go_ret;exact⟨by rw [H.o,H2.o];rfl,hb⟩
    ·have hq2:126<(s[k].toNat:Int):=by omega
     clear hp;have q1:decide ((s[k].toNat:Int)<32)=false:=by simp;omega
     go_wp2;go_ret;exact⟨by rw [H.o,H2.o];rfl,hb⟩
  ·have H2:=O (show s.data.toList.all CU=true from(Yq (k:=k) (by omega)).symm.trans hall.o);clear hall;go_wp2;go_ret;exact⟨by rw [H.o,H2.o];rfl,hb⟩
end Go.Proofs.YtokiogmfgpidmaaGreatDoor
namespace Go.Proofs.YtokiogmfgpidmaaGreatDoor
open Go.RowKit Go.Wk Go.Sort
theorem Zp(s t:ByteArray)(w:World)(hs:s.size<=maxLen)(ht:t.size<=maxLen):
 Calls Tryz.prog 117 #[.agg #[.string s,.string t]] w λe w'=>e = .returned (.int .i64 (or2 (zh s) (zt t)))/\Below w.heap.size w w':=by
 have N:=O (λw=>CM s w hs);have T:=O (λw=>LX t w ht);by_cases h1:zh s=0
 ·rw [h1] at N;have H:=O (show or2 (zh s) (zt t)=zt t by rw [h1,zM]);clear h1;go_enter Tryz.func117,Tryz.ntmps117;go_wp2_with fail;refine(N.o _).mono ?_;rintro e w1 ⟨rfl,rfl⟩;go_wp2_with fail;refine(T.o _).mono ?_;rintro e w2 ⟨rfl,b2⟩;go_wp2_with fail;go_ret;exact⟨jb H.o.symm,zx b2⟩
 ·have H:=O (show or2 (zh s) (zt t)=zh s from jw h1 _);have h2:(zh s==0)=false:=beq_eq_false_iff_ne.2 h1;clear h1;go_enter Tryz.func117,Tryz.ntmps117;go_wp2_with fail;refine(N.o _).mono ?_;rintro e w1 ⟨rfl,rfl⟩;go_wp2_with fail;go_ret;exact⟨jb H.o.symm,zb _ _⟩
theorem XN(n:Int)(s t:ByteArray)(w:World):
 Calls Tryz.prog 69 #[.agg #[.int .i64 1,.int .i64 n,.string s,.string t]] w λe w'=>e = .returned (.bool ((decide (n=0)|| decide (n=1))&& noB s && noB t))/\Below w.heap.size w w':=by
 rcases zJ s with rfl|⟨s1,s2,s3⟩<;> rcases zJ t with rfl|⟨t1,t2,t3⟩
 ·by_cases h0:0<=n
  ·by_cases h1:n<=1
   ·go_enter Tryz.func69,Tryz.ntmps69;go_wp2;go_ret
    exact ⟨zn       (by have : n = 0 ∨ n = 1 := by omega
                        rcases this with rfl|rfl <;> rfl),zb _ _⟩
   ·go_enter Tryz.func69,Tryz.ntmps69;go_wp2;go_ret;exact⟨zn (by rw [decide_eq_false (show¬n=0 by omega),decide_eq_false (show¬n=1 by omega)];rfl),zb _ _⟩
  ·go_enter Tryz.func69,Tryz.ntmps69;go_wp2;go_ret;exact⟨zn (by rw [decide_eq_false (show¬n=0 by omega),decide_eq_false (show¬n=1 by omega)];rfl),zb _ _⟩
 all_goals
  go_enter Tryz.func69,Tryz.ntmps69;go_wp2;go_ret;exact⟨zn (by simp [*]),zb _ _⟩
theorem za3(n:Int)(s t:ByteArray)(w:World):
 Calls Tryz.prog 69 #[.agg #[.int .i64 2,.int .i64 n,.string s,.string t]] w λe w'=>e = .returned (.bool (noB s && noB t))/\Below w.heap.size w w':=by
 rcases zJ s with rfl|⟨s1,s2,s3⟩<;> rcases zJ t with rfl|⟨t1,t2,t3⟩
 all_goals
  go_enter Tryz.func69,Tryz.ntmps69;go_wp2;go_ret;exact⟨zn (by simp [*,jH]),zb _ _⟩
theorem Ym(o n:Int)(s t:ByteArray)(w:World)(ho:o=5\/o=6):
 Calls Tryz.prog 69 #[.agg #[.int .i64 o,.int .i64 n,.string s,.string t]] w λe w'=>e = .returned (.bool (decide (0<=n)&& noB s && noB t))/\Below w.heap.size w w':=by
 by_cases h0:0<=n
 ·rcases ho with rfl|rfl <;> rcases zJ s with rfl|⟨s1,s2,s3⟩<;> rcases zJ t with rfl|⟨t1,t2,t3⟩
  all_goals
   go_enter Tryz.func69,Tryz.ntmps69;go_wp2;go_ret;exact⟨zn (by simp [*,jH]),zb _ _⟩
 ·rcases ho with rfl|rfl <;> rcases zJ s with rfl|⟨s1,s2,s3⟩<;> rcases zJ t with rfl|⟨t1,t2,t3⟩
  all_goals
   go_enter Tryz.func69,Tryz.ntmps69;go_wp2;go_ret;exact⟨zn (by first|rfl|(rw [decide_eq_false (show¬0<=n by omega)];rfl)),zb _ _⟩
theorem Yi(n:Int)(s t:ByteArray)(w:World)(hs:s.size<=maxLen):
 Calls Tryz.prog 69 #[.agg #[.int .i64 3,.int .i64 n,.string s,.string t]] w λe w'=>e = .returned (.bool (decide (n=0)&& noB t && decide (zt s=0)))/\Below w.heap.size w w':=by
 have P:=O (λw=>LX s w hs);by_cases h0:n=0
 ·subst h0;rcases zJ s with rfl|⟨s1,s2,s3⟩<;> rcases zJ t with rfl|⟨t1,t2,t3⟩
  ·have e:zt ⟨#[]⟩=0:=by decide
   rw [e] at P;go_enter Tryz.func69,Tryz.ntmps69;go_wp2_with fail;refine(P.o _).mono ?_;rintro e w1 ⟨rfl,hb⟩;go_wp2;go_ret;exact⟨zn (by simp [e,jH]),zx hb⟩
  ·go_enter Tryz.func69,Tryz.ntmps69;go_wp2;go_ret;exact⟨zn (by simp [t3]),zb _ _⟩
  ·by_cases h1:zt s=0
   ·rw [h1] at P;go_enter Tryz.func69,Tryz.ntmps69;go_wp2_with fail;refine(P.o _).mono ?_;rintro e w1 ⟨rfl,hb⟩;go_wp2;go_ret;exact⟨zn (by simp [h1,jH]),zx hb⟩
   ·have h2:(zt s==0)=false:=beq_eq_false_iff_ne.2 h1;go_enter Tryz.func69,Tryz.ntmps69;go_wp2_with fail;refine(P.o _).mono ?_;rintro e w1 ⟨rfl,hb⟩;go_wp2;go_ret;exact⟨zn (by simp [h1]),zx hb⟩
  ·go_enter Tryz.func69,Tryz.ntmps69;go_wp2;go_ret;exact⟨zn (by simp [t3]),zb _ _⟩
 ·have e0:(n != 0)=true:=by rw [bne_iff_ne];exact h0
  rcases zJ s with rfl|⟨s1,s2,s3⟩<;> rcases zJ t with rfl|⟨t1,t2,t3⟩
  all_goals
   go_enter Tryz.func69,Tryz.ntmps69;go_wp2;go_ret;exact⟨zn (by simp [h0]),zb _ _⟩
theorem zbf(n:Int)(s t:ByteArray)(w:World)(hs:s.size<=maxLen)(ht:t.size<=maxLen):
 Calls Tryz.prog 69 #[.agg #[.int .i64 4,.int .i64 n,.string s,.string t]] w λe w'=>e = .returned (.bool (decide (n=0)&& decide (zh s=0)&& decide (zt t=0)))/\Below w.heap.size w w':=by
 have P:=O (λw=>Zp s t w hs ht);have H:=O (show(or2 (zh s) (zt t)==0)=(decide (zh s=0)&& decide (zt t=0)) by
  by_cases h:zh s=0
  ·rw [h,zM];simp;rfl
  ·rw [jw h,beq_eq_false_iff_ne.2 h];simp [h])
 by_cases h0:n=0
 ·subst h0;rcases zJ s with rfl|⟨s1,s2,s3⟩<;> rcases zJ t with rfl|⟨t1,t2,t3⟩
  all_goals
   go_enter Tryz.func69,Tryz.ntmps69;go_wp2_with fail;refine(P.o _).mono ?_;rintro e w1 ⟨rfl,hb⟩;go_wp2;go_ret;exact⟨zn (by rw [H.o];simp),zx hb⟩
 ·have e0:(n != 0)=true:=by rw [bne_iff_ne];exact h0
  rcases zJ s with rfl|⟨s1,s2,s3⟩<;> rcases zJ t with rfl|⟨t1,t2,t3⟩
  all_goals
   go_enter Tryz.func69,Tryz.ntmps69;go_wp2;go_ret;exact⟨zn (by simp [h0]),zb _ _⟩
theorem V9(n:Int)(s t:ByteArray)(w:World)(hs:s.size<=maxLen):
 Calls Tryz.prog 69 #[.agg #[.int .i64 7,.int .i64 n,.string s,.string t]] w λe w'=>e = .returned (.bool (decide (n=0)&& noB t && decide (zh s=0)))/\Below w.heap.size w w':=by
 have P:=O (λw=>CM s w hs);have H:(zh s==0)=decide (zh s=0):=rfl;by_cases h0:n=0
 ·subst h0;rcases zJ s with rfl|⟨s1,s2,s3⟩<;> rcases zJ t with rfl|⟨t1,t2,t3⟩
  ·have e:zh ⟨#[]⟩=1:=by decide
   rw [e] at P;go_enter Tryz.func69,Tryz.ntmps69;go_wp2_with fail;refine(P.o _).mono ?_;rintro e w1 ⟨rfl,rfl⟩;go_wp2;go_ret;exact⟨zn (by simp [e]),zb _ _⟩
  ·go_enter Tryz.func69,Tryz.ntmps69;go_wp2;go_ret;exact⟨zn (by simp [t3]),zb _ _⟩
  ·by_cases h1:zh s=0
   ·rw [h1] at P;go_enter Tryz.func69,Tryz.ntmps69;go_wp2_with fail;refine(P.o _).mono ?_;rintro e w1 ⟨rfl,rfl⟩;go_wp2;go_ret;exact⟨zn (by simp [h1,jH]),zb _ _⟩
   ·have h2:(zh s==0)=false:=beq_eq_false_iff_ne.2 h1;go_enter Tryz.func69,Tryz.ntmps69;go_wp2_with fail;refine(P.o _).mono ?_;rintro e w1 ⟨rfl,rfl⟩;go_wp2;go_ret;exact⟨zn (by simp [h1]),zb _ _⟩
  ·go_enter Tryz.func69,Tryz.ntmps69;go_wp2;go_ret;exact⟨zn (by simp [t3]),zb _ _⟩
 ·have e0:(n != 0)=true:=by rw [bne_iff_ne];exact h0
  rcases zJ s with rfl|⟨s1,s2,s3⟩<;> rcases zJ t with rfl|⟨t1,t2,t3⟩
  all_goals
   go_enter Tryz.func69,Tryz.ntmps69;go_wp2;go_ret;exact⟨zn (by simp [h0]),zb _ _⟩
theorem Wa(o n:Int)(s t:ByteArray)(w:World)(h1:(o==1)=false)(h2:(o==2)=false)(h3:(o==3)=false)(h4:(o==4)=false)(h5:(o==5)=false)(h6:(o==6)=false)(h7:(o==7)=false):
 Calls Tryz.prog 69 #[.agg #[.int .i64 o,.int .i64 n,.string s,.string t]] w λe w'=>e = .returned (.bool false)/\Below w.heap.size w w':=by
 by_cases h0:n=0
 ·subst h0;rcases zJ s with rfl|⟨s1,s2,s3⟩<;> rcases zJ t with rfl|⟨t1,t2,t3⟩
  all_goals
   go_enter Tryz.func69,Tryz.ntmps69;go_wp2;go_ret;exact⟨rfl,zb _ _⟩
 ·have e0:(n != 0)=true:=by rw [bne_iff_ne];exact h0
  rcases zJ s with rfl|⟨s1,s2,s3⟩<;> rcases zJ t with rfl|⟨t1,t2,t3⟩
  all_goals
   go_enter Tryz.func69,Tryz.ntmps69;go_wp2;go_ret;exact⟨rfl,zb _ _⟩
theorem CJ(x:Nd)(w:World)(hs:x.s.size<=maxLen)(ht:x.t.size<=maxLen):
 Calls Tryz.prog 69 #[ndV x] w λe w'=>e = .returned (.bool (zq x))/\Below w.heap.size w w':=by
 obtain⟨o,n,s,t⟩:=x;unfold ndV zq;simp only at hs ht ⊢;by_cases h1:o=1
 ·subst h1;rw [if_pos rfl];exact XN n s t w
 rw [if_neg h1];by_cases h2:o=2
 ·subst h2;rw [if_pos rfl];exact za3 n s t w
 rw [if_neg h2];by_cases h3:o=3
 ·subst h3;rw [if_pos rfl];exact Yi n s t w hs
 rw [if_neg h3];by_cases h4:o=4
 ·subst h4;rw [if_pos rfl];exact zbf n s t w hs ht
 rw [if_neg h4];by_cases h5:o=5\/o=6
 ·rw [if_pos h5];exact Ym o n s t w h5
 rw [if_neg h5];by_cases h7:o=7
 ·subst h7;rw [if_pos rfl];exact V9 n s t w hs
 rw [if_neg h7];exact Wa o n s t w (beq_eq_false_iff_ne.2 h1) (beq_eq_false_iff_ne.2 h2) (beq_eq_false_iff_ne.2 h3) (beq_eq_false_iff_ne.2 h4) (beq_eq_false_iff_ne.2 λq=>h5 (.inl q)) (beq_eq_false_iff_ne.2 λq=>h5 (.inr q)) (beq_eq_false_iff_ne.2 h7)
def Xu(w:World)(L:List (List Nd))(N:List ByteArray)(e:Ending)(w':World):Prop :=
 ∃(v v':Value) (V:List Sl),e = .returned (.tuple #[v,v'])/\zX w' w.heap.size v V/\V.map Sl.P=L/\w'.ownsRow w.heap.size 9 1 v' N.length (N.map Value.string)/\(∀r∈V,∀a,r.A=some a->w.heap.size<a.block)/\Below w.heap.size w w'
theorem zac{w:World}{B B' n:Nat}{e:TypeId}{size:Nat}{v:Value}{xs:List Value}(h:w.ownsRow B e size v n xs)(hB:B'<=B):w.ownsRow B' e size v n xs:=by
 refine⟨h.1,?_⟩;rcases h.2 with h2|⟨g,cap,cur,hv,hg,r⟩
 ·exact .inl h2
 ·exact .inr ⟨g,cap,cur,hv,Nat.le_trans hB hg,r⟩
theorem zX.mono{w:World}{B B':Nat}{v:Value}{V:List Sl}(h:zX w B v V)(hB:B'<=B):zX w B' v V:=⟨zac h.own hB,h.each,h.apart⟩
theorem Gz.row{w w':World}{R p:Nat}{v:Value}{g:Option Nat}(h:Gz w R v p)(hg:w.grownBy w' g)(hne:some R≠g):Gz w' R v p :=
 ⟨hg.cell h.c0 hne,hg.cell h.c1 hne,(World.frozen?_of_block (w:=w) (hg.block R h.lt hne)).trans h.f1⟩
def Sg(R:Nat)(V:List Sl):Prop:=∀r∈V,∀a,r.A=some a->R<a.block
theorem Sg.apart{R:Nat}{V:List Sl}(h:Sg R V):∀r∈V,td r (some R):=λr hr _ a e q=>by
 have:=h r hr a e;injection q with q;omega
theorem Sg.snoc{R:Nat}{V:List Sl}{r:Sl}(h:Sg R V)(hr:∀a,r.A=some a->R<a.block):Sg R (V ++ [r]):=by
 intro x hx;rcases List.mem_append.1 hx with h1|h1
 ·exact h x h1
 ·simp only [List.mem_cons,List.not_mem_nil,or_false] at h1;subst h1;exact hr
theorem Zo{w:World}{B n:Nat}{e:TypeId}{size:Nat}{v:Value}{xs:List Value}(h:w.ownsRow B e size v n xs){R:Nat}(hR:R<B):v.ownBlock=none\/v.ownBlock≠some R:=by
 rcases hv:v.ownBlock with _|g
 ·exact .inl rfl
 ·have:=zR h g hv;exact .inr (λq=>by injection q with q;omega)
theorem XD{w:World}{B n:Nat}{e:TypeId}{size:Nat}{v:Value}{xs:List Value}(h:w.ownsRow B e size v n xs){R:Nat}(hR:R<B):some R≠v.ownBlock:=by
 rcases Zo h hR with h|h
 ·rw [h];simp
 ·exact λq=>h q.symm
theorem QU{w:World}{a:Addr}{n c:Nat}{P:List Nd}(h:Ns w (some a) n c P){i j:Nat}(h1:i<=j)(h2:j<=n):Ns w (some (a.add (i*4))) (j-i) (c-i) (seg P i j):=by
 have:=h.len;have:=h.cap;have:=h.max;exact⟨(jL (by omega)).symm,by omega,by omega,h.at_.seg i j,h.ok.seg i j⟩
theorem Sa{v:List Nd}{f:Nat->Option Nat}{N k:Nat}{q n:Nat}(hk:k<N)(h:∃lo,zY v f (N-k) lo q=some n):
 ∃e,f q=some e/\(∃lo,zY v f (N-(k+1)) lo e=some n)/\kn v f (N-k) q=seg v q e :: kn v f (N-(k+1)) e:=by
 obtain⟨lo,h⟩:=h;obtain⟨j,hj⟩:∃j,N-k=j+1:=⟨N-k-1,by omega⟩
 rw [hj] at h;rw [hj,show N-(k+1)=j by omega];simp only [zY] at h;rcases hf:f q with _|e
 ·rw [hf] at h;cases h
 ·rw [hf] at h;simp only at h;split at h
  ·exact⟨e,rfl,⟨_,h⟩,by simp only [kn,hf]⟩
  ·cases h
theorem zfz(A:Option Addr)(n c:Nat)(P:List Nd)(w:World)(h:Ns w A n c P)(hv:zc P=0)(h5:zf P=5):
 Calls Tryz.prog 143 #[.slice A n c] w (Xu w (zg P) []):=by
 obtain⟨i0,hi,hz0,hz1,hz2⟩:=info_parts ML;obtain⟨Ms,hV⟩:=zH.1 hv;have hpos:=hV.pos;obtain⟨a,rfl,D⟩:=h.at_.nd hpos;have hn:=h.len;obtain⟨hs0,_,hop,hx0,hN⟩:=za2 hV h5;have hE:zg P=kn P (zl P (P.length+1)) P[0].n.toNat 1:=by unfold zg;rw [hN]
 rw [hN] at hs0;obtain⟨-,-,-,hhi⟩:=h.ok.at hpos;have K:=O (λq w' (hb:Below w.heap.size w w') rd hq=>PQ (some a) P n c w.heap.size hn h.cap h.max h.ok (λh0 a' e=>by have:=h.at_.lt h0 a' e;omega) (P.length+1) q w' rd (h.at_.keep hb) (by omega:n-q<P.length+1));have HN:=O h;have HL:=O hn;have H0:=O hs0;have HE:=O hE;rw [show a.add (0*4)=a from rfl] at D;obtain⟨d0,d1,d2,d3⟩:=D;have r0:Gz (w.alloc (.cells #[.slice (some a) n c,.int .i64 1] 154)) w.heap.size (.slice (some a) n c) 1:=⟨by simp,by simp,by simp⟩
 rw [hop] at d0;have d1':=λo:Obj=>za (zb w o) d1;generalize P[0]=x at *;have zfd:n<=200:=by omega
 have hn1:0<n:=by omega
 clear h hv h5 hV hn hs0 hE hN Ms hop;go_enter Tryz.func143,Tryz.ntmps143;go_wp2_with fail;clear d1';go_loopw [2,3,12] (λv v' i wr=>∃(k q:Nat) (V:List Sl),i = .int .i64 k/\v' = .slice none 0 0/\(k:Int)<=x.n/\q<=n/\k+1<=q/\V.length=k/\Hid (zg P=V.map Sl.P ++ kn P (zl P (P.length+1)) (x.n.toNat-k) q)/\
  Hid (∃lo,zY P (zl P (P.length+1)) (x.n.toNat-k) lo q=some P.length)/\Hid (zX wr (w.heap.size+1) v V)/\Hid (Sg w.heap.size V)/\Hid (Gz wr w.heap.size (.slice (some a) n c) q)/\Hid (Below w.heap.size w wr)) (λ_ _ i _=>(x.n-intOf i).toNat)
 case atStart=>exact⟨0,1,[],rfl,rfl,hx0,hn1,by omega,rfl,HE.o,⟨none,H0.o⟩,zX.nil _ _,(by intro r hr;cases hr),r0,zb _ _⟩
 case round =>
  obtain⟨k,q,V,rfl,rfl,hk,hq,hkq,hVl,hE,hS,hO,hLt,VM,hB⟩:=hrel;have e0:=za hB.o d0;by_cases hlt:(k:Int)<x.n
  ·obtain⟨e,hf,hS',hsp⟩:=Sa (by omega) hS.o;have hle:=jN _ _ _ hf;rw [<-HL.o] at hle;have C:=O (K.o q wr hB.o VM.o (by rw [<-HL.o];omega));rw [hf] at C;have Kq:=O (hE.o.trans (by rw [hsp]:_=V.map Sl.P ++(seg P q e :: kn P (zl P (P.length+1)) (x.n.toNat-(k+1)) e)));have HS2:=O hS';clear hE hS hS' hsp hf;go_wp2_with fail;refine C.o.mono ?_;rintro e' w2 hpost;obtain⟨rfl,r2,g2⟩:=hpost;have B2:=O (hB.o.trans (j7 g2 (Nat.le_refl _) hB.o.size));have O2:=hO.o.row g2 (Zo hO.o.own (by omega)) hLt.o.apart;have CL:=O (RG (a.add (q*4)) (e-q) (c-q) (seg P q e) w2 (QU (HN.o.keep B2.o) (by omega) hle.2) (by rw [jL (by rw [<-HL.o];omega)];omega));have R2:=O r2;have OO2:=O O2;have Zy:=B2.o.size;have hsz3:w.heap.size<w2.heap.size:=R2.o.lt;clear O2 r2 g2 hO hB VM;go_wp2_with fail;refine CL.o.mono ?_;rintro e' w3 hpost;obtain⟨A3,c3,rfl,n3,l3,b3⟩:=hpost;have B3:=bh B2 b3;have hO3:=OO2.o.keep b3;have hR3:=R2.o.keep b3;have O3:=O hO3;have R3:=O hR3;have N3:=O (show Ns w3 (⟨A3,(seg P q e).length,c3,seg P q e⟩:Sl).A _ _ _ from n3);have L3:=O (hLt.o.snoc (r:=⟨A3,(seg P q e).length,c3,seg P q e⟩) (λa' h'=>by have:=l3 a' h';omega));have A3p:Hid (td ⟨A3,(seg P q e).length,c3,seg P q e⟩ u2.ownBlock):=by
    intro h0 a' e' q';have h1:=JL OO2.o.own a'.block q';have h2:=l3 a' e';omega
   have zoD:=B3.o.size;have zku:=b3.size;clear b3 n3 l3 hO3 hR3 OO2 R2 B2 hLt;go_wp2_with (at_builtin;refine wpList_append_own_at _ rfl _ _ 84 rfl (w.heap.size+1) 22 i0 _ 1 24 Tryz.underlying84 hi hz0 hz1 hz2 rfl (by decide) _ V.length (V.map Sl.v) rfl (O3.o.own.alloc _) ⟨_,0,none⟩ 1 1 [.slice A3 (seg P q e).length c3] rfl rfl (cell_one_new _ _ _) (by intro u hu;simp only [List.mem_cons,List.not_mem_nil,or_false] at hu;subst hu;rfl) ?c1 ?c2 ?c3 ?_)
   case c1=>unfold maxLen;omega
   case c2=>omega
   case c3=>simp;omega
   intro v1 w4 hown hgrow _ hat;have B4:=O ((B3.o.alloc B3.o.size _).grown hgrow (by simp;omega) (λg hg=>by have:=zR O3.o.own g hg;omega));have R4:=O ((R3.o.keep (zb w3 _)).row hgrow (XD O3.o.own (by omega)));have O4:=O (O3.o.snoc (r:=⟨A3,(seg P q e).length,c3,seg P q e⟩) N3.o A3p.o (by rw [hVl];exact hown) hgrow (by simpa using hat));have HE4:=O (Kq.o.trans (show _=(V ++ [(⟨A3,(seg P q e).length,c3,seg P q e⟩:Sl)]).map Sl.P ++ kn P (zl P (P.length+1)) (x.n.toNat-(k+1)) e by simp));have hl4:(V ++ [(⟨A3,(seg P q e).length,c3,seg P q e⟩:Sl)]).length=k+1:=by simp [hVl]
   clear hown hgrow hat O3 R3 N3 A3p Kq B3;go_wp2_with fail;go_roundw
   case rel=>exact⟨k+1,e,_,by go_num,rfl,by omega,by omega,by omega,hl4,HE4,HS2,O4,L3,R4,B4⟩
   case measure=>simp [intOf];omega
  ·have HG:=O (hE.o.trans (show _=V.map Sl.P by rw [show x.n.toNat-k=0 by omega];simp [kn]));clear hE hS VM;go_wp2_with fail;go_ret2;exact⟨_,_,V,rfl,hO.o.mono (by omega),HG.o.symm,World.ownsRow_nil _ _ _ 1,hLt.o,hB.o⟩
end Go.Proofs.YtokiogmfgpidmaaGreatDoor
namespace Go.Wk
theorem Sq{v:List Nd}{f:Nat->Option Nat}{N k:Nat}{q n:Nat}(hk:k<N)(h:∃lo,zV v f (N-k) lo q=some n):
 ∃(hq:q<v.length) (e:Nat),f (q+1)=some e/\(∃lo,zV v f (N-(k+1)) lo e=some n)/\lS v f (N-k) q=(v[q].s,seg v (q+1) e):: lS v f (N-(k+1)) e:=by
 obtain⟨lo,h⟩:=h;obtain⟨j,hj⟩:∃j,N-k=j+1:=⟨N-k-1,by omega⟩
 rw [hj] at h;rw [hj,show N-(k+1)=j by omega];simp only [zV] at h;by_cases hq:q<v.length
 ·refine⟨hq,?_⟩;split at h
  ·cases h
  ·rename_i s hs;rcases hf:f (q+1) with _|e
   ·rw [hf] at h;cases h
   ·rw [hf] at h;exact⟨e,rfl,⟨_,h⟩,by simp only [lS,hf];unfold zfl;rw [List.getElem?_eq_getElem hq]⟩
 ·rw [Sp (by omega)] at h;cases h
end Go.Wk
namespace Go.Proofs.YtokiogmfgpidmaaGreatDoor
open Go.RowKit Go.Wk Go.Sort
structure jI(w:World)(B:Nat)(v v':Value)(V:List Sl)(N:List ByteArray):Prop where
 a:zX w B v V
 b:w.ownsRow B 9 1 v' N.length (N.map Value.string)
 ab:v.ownBlock=none\/v.ownBlock≠v'.ownBlock
 ap:∀r∈V,td r v'.ownBlock
theorem jI.keep{w w':World}{B:Nat}{v v':Value}{V:List Sl}{N:List ByteArray}(h:jI w B v v' V N)(hb:Below w.heap.size w w'):jI w' B v v' V N :=
 ⟨h.a.keep hb,aC h.b hb,h.ab,h.ap⟩
theorem jI.other{w w':World}{B R:Nat}{v v':Value}{V:List Sl}{N:List ByteArray}(h:jI w B v v' V N)(hg:w.grownBy w' (some R))(hR:R<B)(hL:Sg R V):jI w' B v v' V N :=
 ⟨h.a.row hg (Zo h.a.own hR) hL.apart,h.b.kept hg (Zo h.b hR),h.ab,h.ap⟩
theorem OC:(Tryz.prog.info? 9).map (λi=>(i.zero,i.size,i.bytes))=some (some (.string ⟨#[]⟩),1,16):=by kernel_rfl
theorem jI.name{w w':World}{B:Nat}{v v' v1:Value}{V:List Sl}{N:List ByteArray}{s:ByteArray}{o:Obj}(h:jI w B v v' V N)
 (hown:w'.ownsRow B 9 1 v1 (N.length+1) (N.map Value.string ++ [.string s])) (hg:(w.alloc o).grownBy w' v'.ownBlock) (hat:v1.ownBlock=v'.ownBlock\/v1.ownBlock=some (w.alloc o).heap.size):jI w' B v v1 V (N ++ [s]):=by
 have hba:Below w.heap.size w (w.alloc o):=zb w o;refine⟨(h.a.keep hba).row hg h.ab h.ap,by simpa using hown,?_,λr hr h0 a e=>?_⟩
 ·rcases hv:v.ownBlock with _|g
  ·exact .inl rfl
  ·have hlt:=JL h.a.own g hv;refine .inr ?_;rcases hat with q|q
   ·rw [q,<-hv];rcases h.ab with z|z
    ·rw [hv] at z;cases z
    ·exact z
   ·rw [q];intro z;injection z with z;simp at z;omega
 ·rcases hat with q|q
  ·rw [q];exact h.ap r hr h0 a e
  ·rw [q];have:=(h.a.each r hr).at_.lt h0 a e;intro z;injection z with z;simp at z;omega
theorem jI.part{w w':World}{B:Nat}{v v' v1:Value}{V:List Sl}{N:List ByteArray}{r:Sl}{o:Obj}(h:jI w B v v' V N)(hr:Ns w r.A r.n r.c r.P)(ha:td r v.ownBlock)(ha':td r v'.ownBlock)
 (hown:w'.ownsRow B 22 1 v1 (V.length+1) (V.map Sl.v ++ [r.v])) (hg:(w.alloc o).grownBy w' v.ownBlock) (hat:v1.ownBlock=v.ownBlock\/v1.ownBlock=some (w.alloc o).heap.size):jI w' B v1 v' (V ++ [r]) N:=by
 have hba:Below w.heap.size w (w.alloc o):=zb w o;refine⟨h.a.snoc hr ha hown hg hat,(aC h.b hba).kept hg ?_,?_,?_⟩
 ·rcases h.ab with z|z
  ·rw [z];cases v'.ownBlock <;> simp
  ·exact .inr (λq=>z q.symm)
 ·rcases hv:v1.ownBlock with _|g
  ·exact .inl rfl
  ·refine .inr ?_;rcases hat with q|q
   ·rcases h.ab with z|z
    ·rw [hv,z] at q;cases q
    ·rw [<-hv,q];exact z
   ·intro z;have:=JL h.b g z.symm;rw [hv] at q;injection q with q;simp at q;omega
 ·intro x hx;rcases List.mem_append.1 hx with h1|h1
  ·exact h.ap x h1
  ·simp only [List.mem_cons,List.not_mem_nil,or_false] at h1;subst h1;exact ha'
theorem Xn(A:Option Addr)(n c:Nat)(P:List Nd)(w:World)(h:Ns w A n c P)(hv:zc P=0)(h6:zf P=6):
 Calls Tryz.prog 143 #[.slice A n c] w (Xu w ((zo P).map (·.2)) ((zo P).map (·.1))):=by
 obtain⟨i0,hi,hz0,hz1,hz2⟩:=info_parts ML;obtain⟨j0,hj,jz0,jz1,jz2⟩:=info_parts OC;obtain⟨Ms,hV⟩:=zH.1 hv;have hpos:=hV.pos;obtain⟨a,rfl,D⟩:=h.at_.nd hpos;have hn:=h.len;obtain⟨hs0,_,hop,hx0,hN⟩:=zb5 hV h6;have hE:zo P=lS P (zl P (P.length+1)) P[0].n.toNat 1:=by unfold zo;rw [hN]
 rw [hN] at hs0;obtain⟨-,-,-,hhi⟩:=h.ok.at hpos;have K:=O (λq w' (hb:Below w.heap.size w w') rd hq=>PQ (some a) P n c w.heap.size hn h.cap h.max h.ok (λh0 a' e=>by have:=h.at_.lt h0 a' e;omega) (P.length+1) q w' rd (h.at_.keep hb) (by omega:n-q<P.length+1));have HN:=O h;have HL:=O hn;have H0:=O hs0;have HE:=O hE;rw [show a.add (0*4)=a from rfl] at D;obtain⟨d0,d1,d2,d3⟩:=D;have r0:Gz (w.alloc (.cells #[.slice (some a) n c,.int .i64 1] 154)) w.heap.size (.slice (some a) n c) 1:=⟨by simp,by simp,by simp⟩
 rw [hop] at d0;have d1':=λo:Obj=>za (zb w o) d1;generalize P[0]=x at *;have zfd:n<=200:=by omega
 have hn1:0<n:=by omega
 clear h hv h6 hV hn hs0 hE hN Ms hop;go_enter Tryz.func143,Tryz.ntmps143;go_wp2_with fail;clear d1';go_loopw [2,3,12] (λv v' i wr=>∃(k q:Nat) (V:List Sl) (X:List (ByteArray × List Nd)),i = .int .i64 k/\(k:Int)<=x.n/\q<=n/\k+1<=q/\V.length=k/\X.length=k/\Hid (V.map Sl.P=X.map (·.2))/\Hid (zo P=X ++ lS P (zl P (P.length+1)) (x.n.toNat-k) q)/\
  Hid (∃lo,zV P (zl P (P.length+1)) (x.n.toNat-k) lo q=some P.length)/\Hid (jI wr (w.heap.size+1) v v' V (X.map (·.1)))/\Hid (Sg w.heap.size V)/\Hid (Gz wr w.heap.size (.slice (some a) n c) q)/\Hid (Below w.heap.size w wr)) (λ_ _ i _=>(x.n-intOf i).toNat)
 case atStart=>exact⟨0,1,[],[],rfl,hx0,hn1,by omega,rfl,rfl,rfl,HE.o,⟨_,H0.o⟩,⟨zX.nil _ _,World.ownsRow_nil _ _ _ 1,.inl rfl,(by intro r hr;cases hr)⟩,(by intro r hr;cases hr),r0,zb _ _⟩
 case round =>
  obtain⟨k,q,V,X,rfl,hk,hq,hkq,hVl,hXl,hVX,hE,hS,hT,hLt,VM,hB⟩:=hrel;have e0:=za hB.o d0;by_cases hlt:(k:Int)<x.n
  ·obtain⟨hq',e,hf,hS',hsp⟩:=Sq (by omega) hS.o;have hle:=jN _ _ _ hf;rw [<-HL.o] at hle;have hqn:q<n:=by omega
   obtain⟨a',ha',⟨-,-,q2,-⟩⟩:=(HN.o.at_.keep hB.o).nd hq';injection ha' with ha';subst ha';have Kq:=O (hE.o.trans (by rw [hsp]:_=X ++((P[q].s,seg P (q+1) e):: lS P (zl P (P.length+1)) (x.n.toNat-(k+1)) e)));have HS2:=O hS';have HF:=O hf;have hsg:(seg P (q+1) e).length=e-(q+1):=jL (by rw [<-HL.o];omega);have HSG:=O hsg;generalize P[q].s=nm at *;obtain⟨c0,c1,f1⟩:=VM.o;have zmr:=hB.o.size;have hRl:=VM.o.lt;clear hE hS hS' hsp hf hsg;go_wp2_with (at_builtin;refine wpList_append_own_at _ rfl _ _ 85 rfl (w.heap.size+1) 9 j0 _ 1 16 Tryz.underlying85 hj jz0 jz1 jz2 rfl (by decide) _ (X.map (·.1)).length ((X.map (·.1)).map Value.string) rfl (hT.o.b.alloc _) ⟨_,0,none⟩ 1 1 [.string nm] rfl rfl (cell_one_new _ _ _) (by intro u hu;simp only [List.mem_cons,List.not_mem_nil,or_false] at hu;subst hu;rfl) ?c1 ?c2 ?c3 ?_)
   case c1=>simp;unfold maxLen;omega
   case c2=>simp;omega
   case c3=>simp;omega
   intro v1 w1 hown hgrow _ hat;have T1:=O (hT.o.name (s:=nm) (by simpa [hXl] using hown) hgrow (by simpa using hat));have B1:=O ((hB.o.alloc hB.o.size _).grown hgrow (by simp;omega) (λg hg=>by have:=zR hT.o.b g hg;omega));have R1:=O ((VM.o.keep (zb wr _)).row hgrow (XD hT.o.b (by omega)));have R2:=O (R1.o.put (q+1));have T2:=O (T1.o.other (R:=w.heap.size) (zr w1 ⟨w.heap.size,1,none⟩ (.int .i64 (q+1:Nat))) (by omega) hLt.o);have B2:=O (B1.o.setCell (p:=⟨w.heap.size,1,none⟩) (Nat.le_refl _) (.int .i64 (q+1:Nat)));have hRl1:=R1.o.lt;obtain⟨c0',c1',f1'⟩:=R1.o;have C:=O (K.o (q+1) _ B2.o R2.o (by rw [<-HL.o];omega));rw [HF.o] at C;clear hown hgrow hat hT hB VM c0 c1 f1 q2 T1 B1 R1;go_wp2_with fail;refine C.o.mono ?_;rintro e' w3 hpost;obtain⟨rfl,r3,g3⟩:=hpost;have B3:=O (B2.o.trans (j7 g3 (Nat.le_refl _) B2.o.size));have T3:=O (T2.o.other g3 (by omega) hLt.o);have CL:=O (RG (a.add ((q+1)*4)) (e-(q+1)) (c-(q+1)) (seg P (q+1) e) w3 (QU (HN.o.keep B3.o) (by omega) hle.2) (by rw [HSG.o];omega));have R3:=O r3;have Zy:=B3.o.size;have hsz3:w.heap.size<w3.heap.size:=R3.o.lt;clear r3 g3 T2 B2 R2 c0' c1' f1';go_wp2_with fail;refine CL.o.mono ?_;rintro e' w4 hpost;obtain⟨A3,c3,rfl,n3,l3,b4⟩:=hpost;have B4:=bh B3 b4;have T4:=O (T3.o.keep b4);have R4:=O (R3.o.keep b4);have N4:=O (show Ns w4 (⟨A3,(seg P (q+1) e).length,c3,seg P (q+1) e⟩:Sl).A _ _ _ from n3);have L4:=O (hLt.o.snoc (r:=⟨A3,(seg P (q+1) e).length,c3,seg P (q+1) e⟩) (λa' h'=>by have:=l3 a' h';omega));have A4:Hid (td ⟨A3,(seg P (q+1) e).length,c3,seg P (q+1) e⟩ u2.ownBlock):=by
    intro h0 a' e' q';have h1:=JL T3.o.a.own a'.block q';have h2:=l3 a' e';omega
   have A5:Hid (td ⟨A3,(seg P (q+1) e).length,c3,seg P (q+1) e⟩ v1.ownBlock):=by
    intro h0 a' e' q';have h1:=JL T3.o.b a'.block q';have h2:=l3 a' e';omega
   have zoD:=B4.o.size;have zku:=b4.size;clear b4 n3 l3 T3 R3 B3 hLt;go_wp2_with (at_builtin;refine wpList_append_own_at _ rfl _ _ 84 rfl (w.heap.size+1) 22 i0 _ 1 24 Tryz.underlying84 hi hz0 hz1 hz2 rfl (by decide) _ V.length (V.map Sl.v) rfl (T4.o.a.own.alloc _) ⟨_,0,none⟩ 1 1 [.slice A3 (seg P (q+1) e).length c3] rfl rfl (cell_one_new _ _ _) (by intro u hu;simp only [List.mem_cons,List.not_mem_nil,or_false] at hu;subst hu;rfl) ?d1 ?d2 ?d3 ?_)
   case d1=>unfold maxLen;omega
   case d2=>omega
   case d3=>simp;omega
   intro v2 w5 hown hgrow _ hat;have B5:=O ((B4.o.alloc B4.o.size _).grown hgrow (by simp;omega) (λg hg=>by have:=zR T4.o.a.own g hg;omega));have R5:=O ((R4.o.keep (zb w4 _)).row hgrow (XD T4.o.a.own (by omega)));have T5:=O (T4.o.part (r:=⟨A3,(seg P (q+1) e).length,c3,seg P (q+1) e⟩) N4.o A4.o A5.o (by rw [hVl];exact hown) hgrow (by simpa using hat));have HE5:=O (Kq.o.trans (show _=(X ++ [(nm,seg P (q+1) e)])++ lS P (zl P (P.length+1)) (x.n.toNat-(k+1)) e by simp));have hl5:(V ++ [(⟨A3,(seg P (q+1) e).length,c3,seg P (q+1) e⟩:Sl)]).length=k+1:=by simp [hVl]
   have hl6:(X ++ [(nm,seg P (q+1) e)]).length=k+1:=by simp [hXl]
   have HV5:=O (show(V ++ [(⟨A3,(seg P (q+1) e).length,c3,seg P (q+1) e⟩:Sl)]).map Sl.P=(X ++ [(nm,seg P (q+1) e)]).map (·.2) by
    rw [List.map_append,List.map_append,hVX.o];rfl)
   have T6:=O (show jI w5 (w.heap.size+1) v2 v1 (V ++ [(⟨A3,(seg P (q+1) e).length,c3,seg P (q+1) e⟩:Sl)]) ((X ++ [(nm,seg P (q+1) e)]).map (·.1)) by
    rw [List.map_append];exact T5.o)
   clear hown hgrow hat R4 N4 A4 A5 Kq B4 T5;go_wp2_with fail;go_roundw
   case rel=>exact⟨k+1,e,_,_,by go_num,by omega,by omega,by omega,hl5,hl6,HV5,HE5,HS2,T6,L4,R5,B5⟩
   case measure=>simp [intOf];omega
  ·have HG:=O (hE.o.trans (show _=X by rw [show x.n.toNat-k=0 by omega];simp [lS]));clear hE hS VM;go_wp2_with fail;go_ret2;exact⟨_,_,V,rfl,hT.o.a.mono (by omega),by rw [HG.o];exact hVX.o,by rw [HG.o];exact zac hT.o.b (by omega),hLt.o,hB.o⟩
end Go.Proofs.YtokiogmfgpidmaaGreatDoor
