/-
  check's setting, and where its parts lie; what is told of an expression: a type, or a panic; behindKind. The document's Got of a type: a type, or what is ..
-/
import Derived.Test.YtjcdeikbghjpkaaGreatDoorQ5
import Derived.Test.YtjcdeikbghjpkaaGreatDoorQ9
import Derived.Test.YtjcdeikbghjpkaaGreatDoorQ19
import Derived.Test.YtjcdeikbghjpkaaGreatDoorQ21
import Derived.Test.YtjcdeikbghjpkaaGreatDoorQ22
set_option maxRecDepth 100000
set_option maxHeartbeats 2000000
namespace Go.Proofs.YtjcdeikbghjpkaaGreatDoor
open Go.RowKit Go.Wk Go.Sort
structure Xs where
 s:Sc
 who:ByteArray
 what:ByteArray
 a:An
 D:Nat
def Xs.v(x:Xs):Value := .agg #[.slice x.s.KA x.s.kn x.s.kc,.slice x.s.AA x.s.an x.s.ac,.string x.who,.string x.what,.string x.a.d.id,.slice x.a.WA x.a.wn x.a.wc,.slice x.a.TA x.a.tn x.a.tc,.slice x.a.NA x.a.nn x.a.nc]
def Xs.o(x:Xs):Obj := .cells #[.slice x.s.KA x.s.kn x.s.kc,.slice x.s.AA x.s.an x.s.ac,.string x.who,.string x.what,.string x.a.d.id,.slice x.a.WA x.a.wn x.a.wc,.slice x.a.TA x.a.tn x.a.tc,.slice x.a.NA x.a.nn x.a.nc] 59
def Xs.t(x:Xs):Stg:=⟨x.s.k,x.a.d,x.who,x.what⟩
structure zft(w:World)(x:Xs):Prop where
 s:zcO w x.s
 a:zmB w x.a
 who:x.who.size≤maxLen
 what:x.what.size≤maxLen
 ok:zcF x.t
 d:x.D≤w.heap.size
 ctx:∀a,x.a.NA=some a→a.block<x.D
 kds:∀y∈x.s.K,∀a,y.NA=some a→a.block<x.D
theorem zft.keep{w w':World}{x:Xs}(h:zft w x)(hb:Below w.heap.size w w'):zft w' x:=⟨h.s.keep hb,h.a.keep hb,h.who,h.what,h.ok,Nat.le_trans h.d hb.size,h.ctx,h.kds⟩
structure Vst(w:World)(b:Nat)(x:Xs):Prop where
 c0:w.cell? ⟨b,0,none⟩=some (.slice x.s.KA x.s.kn x.s.kc)
 c1:w.cell? ⟨b,1,none⟩=some (.slice x.s.AA x.s.an x.s.ac)
 c2:w.cell? ⟨b,2,none⟩=some (.string x.who)
 c3:w.cell? ⟨b,3,none⟩=some (.string x.what)
 c4:w.cell? ⟨b,4,none⟩=some (.string x.a.d.id)
 c5:w.cell? ⟨b,5,none⟩=some (.slice x.a.WA x.a.wn x.a.wc)
 c6:w.cell? ⟨b,6,none⟩=some (.slice x.a.TA x.a.tn x.a.tc)
 c7:w.cell? ⟨b,7,none⟩=some (.slice x.a.NA x.a.nn x.a.nc)
theorem Vst.keep{w w':World}{b:Nat}{x:Xs}(h:Vst w b x)(hb:Below w.heap.size w w'):Vst w' b x :=
 ⟨zb hb h.c0,zb hb h.c1,zb hb h.c2,zb hb h.c3,zb hb h.c4,zb hb h.c5,zb hb h.c6,zb hb h.c7⟩
theorem zbV(w:World)(x:Xs):Vst (w.alloc x.o) w.heap.size x :=
 ⟨zx (heap_alloc_last w _) rfl,zx (heap_alloc_last w _) rfl,zx (heap_alloc_last w _) rfl,zx (heap_alloc_last w _) rfl,zx (heap_alloc_last w _) rfl,zx (heap_alloc_last w _) rfl,zx (heap_alloc_last w _) rfl,zx (heap_alloc_last w _) rfl⟩
def jJ(S:Nat→Prop)(w:World)(r:zb1)(e:Ending)(w':World):Prop :=
 Below w.heap.size w w'∧match r with
  | .ok k=>∃A n c,e = .returned (.slice A n c)∧Ns w' A n c k.flat∧∀a,A=some a→S a.block∨w.heap.size≤a.block
  | .error u=>e = .panicked (zd0 u)
theorem jl{S:Nat→Prop}{w w':World}{u:Int}(hb:Below w.heap.size w w'):jJ S w (.error u) (.panicked (zd0 u)) w':=⟨hb,rfl⟩
theorem jb{S:Nat→Prop}{w w':World}{k:Kd}{A:Option Addr}{n c:Nat}(hb:Below w.heap.size w w')(h:Ns w' A n c k.flat)(hl:∀a,A=some a→S a.block∨w.heap.size≤a.block):jJ S w (.ok k) (.returned (.slice A n c)) w':=⟨hb,A,n,c,rfl,h,hl⟩
theorem jY{S:Nat→Prop}{w w1:World}{A:Option Addr}(hb:Below w.heap.size w w1)(h:∀a,A=some a→S a.block∨w1.heap.size≤a.block):∀a,A=some a→S a.block∨w.heap.size≤a.block:=fun a e=>(h a e).imp id (fun q=>Nat.le_trans hb.size q)
theorem zbF{S:Nat→Prop}{w w':World}{u:Int}{e:Ending}(h:jJ S w (.error u) e w'):e = .panicked (zd0 u)∧Below w.heap.size w w':=⟨h.2,h.1⟩
theorem zaA{S:Nat→Prop}{w w':World}{k:Kd}{e:Ending}(h:jJ S w (.ok k) e w'):∃A n c,e = .returned (.slice A n c)∧Ns w' A n c k.flat∧Below w.heap.size w w'∧∀a,A=some a→S a.block∨w.heap.size≤a.block:=let ⟨A,n,c,h1,h2,h3⟩:=h.2;⟨A,n,c,h1,h2,h.1,h3⟩
theorem zgr(o:Int)(s:ByteArray)(w:World)(hs:s.size≤maxLen):
 Calls Tryz.prog 47 #[.int .i64 o,.string s] w fun e w'=>e = .returned (.slice (some ⟨w.heap.size,0,none⟩) 1 1)∧(zdi w' w.heap.size (.slice (some ⟨w.heap.size,0,none⟩) 1 1) [⟨o,0,s,emp⟩]∧Ns w' (some ⟨w.heap.size,0,none⟩) 1 1 [⟨o,0,s,emp⟩])∧Below w.heap.size w w':=by
 have N1:=hi9 (zdi.one w ⟨o,0,s,emp⟩);have N2:=hi9 (zcN w ⟨o,0,s,emp⟩ ⟨hs,Nat.zero_le _,by show _≤(0:Int);decide,by show(0:Int)≤_;decide⟩);clear hs;go_enter Tryz.func47,Tryz.ntmps47;go_wp2_with fail;go_ret;exact⟨rfl,⟨N1.out,N2.out⟩,za w _⟩
theorem zbD{S:Nat→Prop}{o:Int}{s:ByteArray}{k:Kd}{w:World}(hk:k.flat = [⟨o,0,s,emp⟩])(hs:s.size≤maxLen):
 Calls Tryz.prog 47 #[.int .i64 o,.string s] w (jJ S w (.ok k)):=
 (zgr o s w hs).mono fun e w' ⟨h1,h2,h3⟩=>⟨h3,_,_,_,h1,by rw [hk];exact h2.2,fun a e => .inr (by injection e with e;subst e;exact Nat.le_refl _)⟩
theorem zdq(A:Option Addr)(n c:Nat)(P:List Nd)(p:Nat)(k:Kd)(w:World)(h:Ns w A n c P)(hn:n≤4000)(hO:zeb P p [.ty k]):
 Calls Tryz.prog 81 #[.slice A n c,.int .i64 p] w fun e w'=>e = .returned (.int .i64 ((p+k.flat.length:Nat):Int))∧Below w.heap.size w w':=by
 have HNS:=hi9 h;have HLN:=hi9 h.len;have hle:=hO.le (by simp);have HT:=hi9 (show p+(zaS [Pc.ty k]).length=p+k.flat.length by simp [zaS,Pc.flat]);rw [HT.out] at hle;have hple:p+k.flat.length≤n:=by rw [HLN.out];exact hle
 have HO:=hi9 hO;generalize p+k.flat.length=T at *;clear h hO hle;go_enter Tryz.func81,Tryz.ntmps81;go_wp2_with fail;go_loopw [1,5] (fun u l wr=>∃(q m:Nat) (L:List Pc),u = .int .i64 q∧l = .int .i64 m∧Hid (m=L.length)∧Hid (zeb P q L)∧Hid (q+(zaS L).length=T)∧wr=w) (fun u _ _=>n+1-(intOf u).toNat)
 case atStart=>exact⟨p,1,[.ty k],rfl,rfl,hi9 rfl,HO,HT,rfl⟩
 case round =>
  obtain⟨q,m,L,rfl,rfl,hM,hO,hT,rfl⟩:=hrel;by_cases hl:0<m
  ·obtain⟨x,r,rfl⟩:∃x r,L=x :: r:=by
    cases L with
    | nil=>have:=hM.out;simp at this;omega
    | cons x r=>exact⟨x,r,rfl⟩
   obtain⟨y,L2,hy,hO2,hlen,htot⟩:=hO.out.step
   have hql:q<P.length:=(List.getElem?_eq_some_iff.1 hy).1
   have hqn:q<n:=by rw [HLN.out];exact hql
   obtain⟨a,rfl,d0,d1,d2,d3⟩:=HNS.out.at_ q y hy
   have HO2:=hi9 hO2
   have HT2:=hi9 (htot.trans hT.out)
   have hbl:=zeM L2
   have hmr:m=r.length+1:=by have:=hM.out;simpa using this
   have hsum:(m:Int)+zeS y=(L2.length:Int)+1:=by omega
   have hfl:L2.length+1≤n:=by have:=HT2.out;omega
   have hrl:r.length≤4000:=by have h1:=hT.out;have h2:=zeM (x :: r);simp only [List.length_cons] at h2;omega
   have hml:m≤4001:=by omega
   obtain⟨m2,hm2⟩:∃m2,m2=L2.length:=⟨_,rfl⟩
   have HM2:=hi9 hm2
   rw [←hm2] at hsum hfl
   clear hO hT hy hO2 htot hlen hbl hmr hm2 d2 d3 hrl hM
   unfold zeS at hsum
   have hqi:(q:Int)<(n:Int):=by omega
   have f0:decide (0<m)=true:=decide_eq_true hl
   by_cases g1:y.op=45∨y.op=47
   ·rw [if_pos g1] at hsum
    rcases g1 with g1|g1
    all_goals
     rw [g1] at d0;clear g1;go_wp2_with fail;go_roundw
     case rel=>exact⟨q+1,m2,L2,by go_num,by go_num,HM2,HO2,HT2,trivial⟩
     case measure=>simp [intOf];omega
   ·rw [if_neg g1] at hsum
    have f1:(y.op==45)=false:=beq_eq_false_iff_ne.2 (by omega);have f2:(y.op==47)=false:=beq_eq_false_iff_ne.2 (by omega);by_cases g2:y.op=46
    ·rw [if_pos g2] at hsum;rw [g2] at d0;generalize y.n=yn at *;have hyn:yn=(m2:Int)+1-m:=by omega
     clear g1 g2 f1 f2;go_wp2_with fail;go_roundw
     case rel=>exact⟨q+1,m2,L2,by go_num,by go_num,HM2,HO2,HT2,trivial⟩
     case measure=>simp [intOf];omega
    ·rw [if_neg g2] at hsum;have f3:(y.op==46)=false:=beq_eq_false_iff_ne.2 g2;generalize y.op=yo at *;clear g1 g2;go_wp2_with fail;go_roundw
     case rel=>exact⟨q+1,m2,L2,by go_num,by go_num,HM2,HO2,HT2,trivial⟩
     case measure=>simp [intOf];omega
  ·have hL:L = .nil:=by
    have:=hM.out
    cases L with
    | nil=>rfl
    | cons x r=>simp only [List.length_cons] at this;omega
   have HR:=hi9 (show q=T by have:=hT.out;rw [hL] at this;simpa [zaS] using this)
   have hm0:m=0:=by omega
   subst hm0
   clear hL hl
   go_wp2_with fail
   go_ret
   exact⟨by rw [←HR.out];rfl,Below.refl _ _⟩
theorem zY(w:World):Ns w none 0 0 []:=⟨rfl,Nat.le_refl _,Nat.zero_le _,fun k x hx=>by simp at hx,fun x hx=>by cases hx⟩
def zR(S:Nat→Prop)(w:World)(r:zb1)(e:Ending)(w':World):Prop :=
 ∃A n c,e = .returned (.agg #[.slice A n c,.int .i64 (tyE r)])∧Ns w' A n c (tyV r)∧(∀a,A=some a→S a.block∨w.heap.size≤a.block)∧Below w.heap.size w w'
theorem ztg{S:Nat→Prop}{w w':World}{A:Option Addr}{n c:Nat}{k:Kd}(h:Ns w' A n c k.flat)(hf:∀a,A=some a→S a.block∨w.heap.size≤a.block)(hb:Below w.heap.size w w'):zR S w (.ok k) (.returned (.agg #[.slice A n c,.int .i64 0])) w':=⟨A,n,c,rfl,h,hf,hb⟩
theorem zq{S:Nat→Prop}{w w1:World}{rb:Nat}{r:zb1}{A:Option Addr}{n c:Nat}(hN:Ns w1 A n c (tyV r))(hf:∀a,A=some a→(S a.block∨w.heap.size≤a.block)∧a.block≠rb)(hb:Below w.heap.size w w1)(hrb:w.heap.size≤rb):
 zR S w r (.returned (.agg #[.slice A n c,.int .i64 (tyE r)])) ((w1.setCell ⟨rb,0,none⟩ (.slice A n c)).setCell ⟨rb,1,none⟩ (.int .i64 (tyE r))):=
 ⟨A,n,c,rfl,(hN.but (zg w1 ⟨rb,0,none⟩ (.slice A n c)) (fun _ a e=>(hf a e).2)).but (zg _ ⟨rb,1,none⟩ (.int .i64 (tyE r))) (fun _ a e=>(hf a e).2),fun a e=>(hf a e).1,(hb.setCell (p:=⟨rb,0,none⟩) hrb (.slice A n c)).setCell (p:=⟨rb,1,none⟩) hrb (.int .i64 (tyE r))⟩
theorem jz{S:Nat→Prop}{w w1:World}{rb:Nat}{A:Option Addr}{x y:Value}(hb:Below w.heap.size w w1)(hR:Vr2 w1 rb x y)(h:∀a,A=some a→w1.heap.size≤a.block):∀a,A=some a→(S a.block∨w.heap.size≤a.block)∧a.block≠rb:=fun a e=>by
 have h1:=h a e;have h2:rb<w1.heap.size:=block_lt_of_cell hR.c0;exact⟨.inr (Nat.le_trans hb.size h1),by omega⟩
theorem znZ{S:Nat→Prop}{w:World}{rb:Nat}{A:Option Addr}(hrb:w.heap.size≤rb)(h:∀a,A=some a→S a.block∧a.block<w.heap.size):∀a,A=some a→(S a.block∨w.heap.size≤a.block)∧a.block≠rb:=fun a e=>by
 have h1:=h a e;exact⟨.inl h1.1,by omega⟩
theorem zI{S:Nat→Prop}{w:World}{rb:Nat}:∀a,(none:Option Addr)=some a→(S a.block∨w.heap.size≤a.block)∧a.block≠rb:=fun a e=>by cases e
theorem zeH(w:World)(o:Obj)(t:TypeId):Vr2 ((w.alloc o).alloc (.cells #[.slice none 0 0,.int .i64 0] t)) (w.heap.size+1) (.slice none 0 0) (.int .i64 0):=by
 have h:=zQ (w.alloc o) (.slice none 0 0) (.int .i64 0) t;rwa [show(w.alloc o).heap.size=w.heap.size+1 from by simp [go_sem]] at h
theorem zdI(w:World)(o p:Obj)(t:TypeId):Vr2 (((w.alloc o).alloc p).alloc (.cells #[.slice none 0 0,.int .i64 0] t)) (w.heap.size+1+1) (.slice none 0 0) (.int .i64 0):=by
 have h:=zQ ((w.alloc o).alloc p) (.slice none 0 0) (.int .i64 0) t;rwa [show((w.alloc o).alloc p).heap.size=w.heap.size+1+1 from by simp [go_sem]] at h
structure Vgk(w:World)(b:Nat)(A:Option Addr)(n c:Nat)(e:Int):Prop where
 c0:w.cell? ⟨b,0,none⟩=some (.slice A n c)
 c1:w.cell? ⟨b,1,none⟩=some (.int .i64 e)
theorem Vgk.keep{w w':World}{b:Nat}{A:Option Addr}{n c:Nat}{e:Int}(h:Vgk w b A n c e)(hb:Below w.heap.size w w'):Vgk w' b A n c e:=⟨zb hb h.c0,zb hb h.c1⟩
theorem zcV(w:World)(A:Option Addr)(n c:Nat)(e:Int)(t:TypeId):Vgk (w.alloc (.cells #[.slice A n c,.int .i64 e] t)) w.heap.size A n c e :=
 ⟨(zeK w _ _ t).1,(zeK w _ _ t).2⟩
theorem zbv{w:World}{a:Addr}{n c:Nat}{P:List Nd}(h:Ns w (some a) n c P)(h0:P≠ []):a.block<w.heap.size:=by
 cases P with
 | nil=>exact absurd rfl h0
 | cons y r =>
  obtain⟨b,hb,c0,-⟩:=h.at_ 0 y rfl
  injection hb with hb
  subst hb
  exact block_lt_of_cell c0
theorem zmv{w:World}{A:Option Addr}{n c:Nat}{P:List Nd}(h:Ns w A n c P)(h0:P≠ []):∃a,A=some a:=by
 cases P with
 | nil=>exact absurd rfl h0
 | cons y r =>
  obtain⟨b,hb,-⟩:=h.at_ 0 y rfl
  exact⟨b,hb⟩
def kNm:Kd→ByteArray
 | .ent u=>u
 | _=>emp
theorem zf3{w:World}{A:Option Addr}{n c:Nat}{k:Kd}(h:Ns w A n c k.flat):∃a,A=some a∧1≤n∧w.cell? a=some (.int .i64 (kOp k))∧w.cell? ⟨a.block,a.off+2,none⟩=some (.string (kNm k)):=by
 obtain⟨y,r,hf,ho,hs⟩:∃y r,k.flat=y :: r∧y.op=kOp k∧y.s=kNm k:=by cases k <;> exact⟨_,_,rfl,rfl,rfl⟩
 obtain⟨a,e,d0,d1,d2,d3⟩:=h.at_ 0 y (by rw [hf];rfl);rw [show a.add (0*4)=a from rfl] at d0 d2;rw [ho] at d0;rw [hs] at d2;exact⟨a,e,by rw [h.len,hf];simp,d0,d2⟩
theorem znH(o:Int):zcP ⟨o,0,emp,emp⟩:=⟨Nat.zero_le _,Nat.zero_le _,by show _≤(0:Int);decide,by show(0:Int)≤_;decide⟩
theorem zH(u:Int)(w:World):
 Calls Tryz.prog 12 #[.int .i64 u] w fun e w'=>e = .returned (.agg #[.slice none 0 0,.int .i64 u])∧Below w.heap.size w w':=by
 go_enter Tryz.func12,Tryz.ntmps12;go_wp2_with fail;exact⟨rfl,.agg #[.slice none 0 0,.int .i64 u],by simp [results,Tryz.results12,go_sem],rfl,za w _⟩
theorem jV(A:Option Addr)(n c:Nat)(w:World):
 Calls Tryz.prog 28 #[.slice A n c] w fun e w'=>e = .returned (.agg #[.slice A n c,.int .i64 0])∧Below w.heap.size w w':=by
 go_enter Tryz.func28,Tryz.ntmps28;go_wp2_with fail;exact⟨rfl,.agg #[.slice A n c,.int .i64 0],by simp [results,Tryz.results28,go_sem],rfl,za w _⟩
theorem zqa(S:Nat→Prop)(o:Int)(w:World)(ho:zcP ⟨o,0,emp,emp⟩):
 Calls Tryz.prog 68 #[.int .i64 o] w (zR S w (.ok (.base o))):=by
 have b0:=za w (.cells #[.slice none 0 0,.int .i64 0] 30);have hz:(w.alloc (.cells #[.slice none 0 0,.int .i64 0] 30)).heap.size=w.heap.size+1:=by simp [go_sem]
 have R0:=hi9 ((zQ w (.slice none 0 0) (.int .i64 0) 30).keep (za _ (.cells #[.int .i64 o,.int .i64 0,.string ⟨#[]⟩,.string ⟨#[]⟩] 41)));have N0:=hi9 (zcN (w.alloc (.cells #[.slice none 0 0,.int .i64 0] 30)) ⟨o,0,emp,emp⟩ ho);have B0:=hi9 (b0.trans ((za (w.alloc (.cells #[.slice none 0 0,.int .i64 0] 30)) (.cells #[.int .i64 o,.int .i64 0,.string ⟨#[]⟩,.string ⟨#[]⟩] 41)).mono b0.size));rw [hz] at N0;have HFR:=hi9 (jz (S:=S) (A:=some ⟨w.heap.size+1,0,none⟩) b0 (zQ w (.slice none 0 0) (.int .i64 0) 30) (fun a e=>by injection e with e;subst e;rw [hz];exact Nat.le_refl _));clear b0 ho hz;go_enter Tryz.func68,Tryz.ntmps68;go_wp2_with fail;refine(jV _ _ _ _).mono ?_;rintro e w1 ⟨rfl,b1⟩;have B1:=bh B0 b1;have R1:=hi9 (R0.out.keep b1);have NZ:=hi9 (N0.out.keep b1);clear b1 B0 R0 N0;have RS:=R1.out.set (.slice (some ⟨w.heap.size+1,0,none⟩) 1 1) (.int .i64 0);obtain⟨s0,s1,-,-⟩:=RS;have GF:=hi9 (zq (S:=S) (r := .ok (.base o)) NZ.out HFR.out B1.out (show w.heap.size≤w.heap.size by omega));obtain⟨r0,r1,z0,z1⟩:=R1.out;go_wp2_with fail;exact bodyPost_ret (v := .agg #[.slice (some ⟨w.heap.size+1,0,none⟩) 1 1,.int .i64 0]) (by simp [results,Tryz.results68,go_sem,s0,s1]) rfl GF.out
theorem jh(o:Int)(w:World):
 Calls Tryz.prog 68 #[.int .i64 o] w fun e w'=>∃(A:Option Addr) (n c:Nat),e = .returned (.agg #[.slice A n c,.int .i64 0])∧Ns w' A n c (Kd.base o).flat∧(∀a,A=some a→w.heap.size≤a.block)∧Below w.heap.size w w' :=
 (zqa (fun _=>False) o w (znH o)).mono fun _ _ ⟨A,n,c,h1,h2,h3,h4⟩=>⟨A,n,c,h1,h2,fun a e=>(h3 a e).resolve_left id,h4⟩
theorem zjX(S:Nat→Prop)(A:Option Addr)(n c:Nat)(k:Kd)(w:World)(h:Ns w A n c k.flat)(hf:∀a,A=some a→S a.block∧a.block<w.heap.size):
 Calls Tryz.prog 30 #[.slice A n c] w (zR S w (za6 k)):=by
 have hl:=h.len;rw [jd] at hl;have R0:=hi9 (zQ w (.slice none 0 0) (.int .i64 0) 30);have B0:=hi9 (za w (.cells #[.slice none 0 0,.int .i64 0] 30));have HN:=hi9 (h.keep B0.out);have HFR:=hi9 (show∀a,A=some a→(S a.block∨w.heap.size≤a.block)∧a.block≠w.heap.size from fun a e=>⟨.inl (hf a e).1,by have:=(hf a e).2;omega⟩);by_cases h2:200<n
 ·have HR:=hi9 (show za6 k = .error 4 by unfold za6;rw [if_pos (by omega)]);clear h hf hl;rw [HR.out];go_enter Tryz.func30,Tryz.ntmps30;go_wp2_with fail;refine(zH _ _).mono ?_;rintro e w1 ⟨rfl,b1⟩;have B1:=bh B0 b1;have R1:=hi9 (R0.out.keep b1);have NZ:=hi9 (HN.out.keep b1);clear b1 B0 R0 HN;have RS:=R1.out.set (.slice none 0 0) (.int .i64 4);obtain⟨s0,s1,-,-⟩:=RS;have GF:=hi9 (zq (S:=S) (r := .error 4) (zY _) zI B1.out (show w.heap.size≤w.heap.size by omega));obtain⟨r0,r1,z0,z1⟩:=R1.out;go_wp2_with fail;exact bodyPost_ret (v := .agg #[.slice none 0 0,.int .i64 4]) (by simp [results,Tryz.results30,go_sem,s0,s1]) rfl GF.out
 ·have HR:=hi9 (show za6 k = .ok k by unfold za6;rw [if_neg (by omega)]);clear h hf hl;rw [HR.out];go_enter Tryz.func30,Tryz.ntmps30;go_wp2_with fail;refine(jV _ _ _ _).mono ?_;rintro e w1 ⟨rfl,b1⟩;have B1:=bh B0 b1;have R1:=hi9 (R0.out.keep b1);have NZ:=hi9 (HN.out.keep b1);clear b1 B0 R0 HN;have RS:=R1.out.set (.slice A n c) (.int .i64 0);obtain⟨s0,s1,-,-⟩:=RS;have GF:=hi9 (zq (S:=S) (r := .ok k) NZ.out HFR.out B1.out (show w.heap.size≤w.heap.size by omega));obtain⟨r0,r1,z0,z1⟩:=R1.out;go_wp2_with fail;exact bodyPost_ret (v := .agg #[.slice A n c,.int .i64 0]) (by simp [results,Tryz.results30,go_sem,s0,s1]) rfl GF.out
def zaw:List Sl→List Value
 | [] => []
 | r :: l => .slice r.A r.n r.c :: .int .i64 0 :: zaw l
theorem zgO:∀(a b:List Sl),zaw (a ++ b)=zaw a ++ zaw b
 | [],b=>rfl
 | r :: a,b=>by simp only [List.cons_append,zaw,zgO a b]
theorem zfn:∀(a:List Sl) (k:Nat) (r:Sl),a[k]?=some r→(zaw a)[k*2]?=some (.slice r.A r.n r.c)∧(zaw a)[k*2+1]?=some (.int .i64 0)
 | [],k,r,h=>by simp at h
 | y :: a,0,r,h=>by simp at h;subst h;exact⟨rfl,rfl⟩
 | y :: a,k+1,r,h=>by
  have:=zfn a k r (by simpa using h);rw [show(k+1)*2=k*2+1+1 by omega];simpa [zaw] using this
theorem zkB:(Tryz.prog.info? 30).map (fun i=>(i.zero,i.size,i.bytes))=some (some (.agg #[.slice none 0 0,.int .i64 0]),2,32):=by kernel_rfl
structure zbI(w:World)(B:Nat)(v:Value)(V:List Sl):Prop where
 own:w.ownsRow B 30 2 v V.length (zaw V)
 each:∀r∈V,Ns w r.A r.n r.c r.P
 apart:∀r∈V,za3 r v.ownBlock
theorem zbI.nil(w:World)(B:Nat):zbI w B (.slice none 0 0) []:=⟨⟨rfl,.inl ⟨rfl,rfl⟩⟩,(by intro r hr;cases hr),(by intro r hr;cases hr)⟩
theorem zbI.keep{w w':World}{B:Nat}{v:Value}{V:List Sl}(h:zbI w B v V)(hb:Below w.heap.size w w'):zbI w' B v V :=
 ⟨h.own.kept (zc hb none) (by cases hv:v.ownBlock <;> simp),fun r hr=>(h.each r hr).keep hb,h.apart⟩
theorem zbI.row{w w':World}{B:Nat}{v:Value}{V:List Sl}{g:Option Nat}(h:zbI w B v V)(hg:w.grownBy w' g)(hne:v.ownBlock=none∨v.ownBlock≠g)(ha:∀r∈V,za3 r g):zbI w' B v V :=
 ⟨h.own.kept hg hne,fun r hr=>(h.each r hr).row hg (ha r hr),h.apart⟩
theorem zbI.snoc{w w':World}{B:Nat}{v v':Value}{V:List Sl}{r:Sl}{o:Obj}(h:zbI w B v V)(hr:Ns w r.A r.n r.c r.P)(ha:za3 r v.ownBlock)
 (hown:w'.ownsRow B 30 2 v' (V.length+1) (zaw V ++ [.slice r.A r.n r.c,.int .i64 0])) (hg:(w.alloc o).grownBy w' v.ownBlock) (hat:v'.ownBlock=v.ownBlock∨v'.ownBlock=some (w.alloc o).heap.size):zbI w' B v' (V ++ [r]):=by
 have hba:Below w.heap.size w (w.alloc o):=za w o;have hlt:∀x∈V ++ [r],Ns w x.A x.n x.c x.P∧za3 x v.ownBlock:=by
  intro x hx;rcases List.mem_append.1 hx with h1|h1
  ·exact⟨h.each x h1,h.apart x h1⟩
  ·simp only [List.mem_cons,List.not_mem_nil,or_false] at h1;subst h1;exact⟨hr,ha⟩
 refine⟨?_,fun x hx=>((hlt x hx).1.keep hba).row hg (hlt x hx).2,fun x hx h0 a e=>?_⟩
 ·rw [zgO,List.length_append];exact hown
 ·rcases hat with e'|e'
  ·rw [e'];exact(hlt x hx).2 h0 a e
  ·rw [e'];have:=(hlt x hx).1.at_.lt h0 a e;intro q;injection q with q;simp at q;omega
def zb6(w:World)(A:Option Addr)(V:List Sl):Prop :=
 ∀(k:Nat) (r:Sl),V[k]?=some r→∃a,A=some a∧w.cell? (a.add (k*2))=some (.slice r.A r.n r.c)∧w.cell? ⟨(a.add (k*2)).block,(a.add (k*2)).off+1,none⟩=some (.int .i64 0)∧Ns w r.A r.n r.c r.P
theorem zb6.keep{w w':World}{A:Option Addr}{V:List Sl}(h:zb6 w A V)(hb:Below w.heap.size w w'):zb6 w' A V :=
 fun k r hk=>let ⟨a,h1,h2,h3,h4⟩:=h k r hk;⟨a,h1,zb hb h2,zb hb h3,h4.keep hb⟩
theorem zbI.at{w:World}{B:Nat}{v:Value}{V:List Sl}(h:zbI w B v V):∃A c,v = .slice A V.length c∧zb6 w A V:=by
 rcases h.own.2 with ⟨rfl,h0⟩|⟨g,cap,cur,rfl,_,_,hc,_⟩
 ·have:V = []:=List.eq_nil_of_length_eq_zero h0;subst this;exact⟨none,0,rfl,fun k r hk=>by simp at hk⟩
 ·refine⟨some ⟨g,0,none⟩,cap,rfl,fun k r hk=>⟨_,rfl,?_,?_,h.each r (List.mem_of_getElem? hk)⟩⟩
  ·exact h.own.cells (g:=g) rfl _ _ (zfn V k r hk).1
  ·have:=h.own.cells (g:=g) rfl _ _ (zfn V k r hk).2;rw [zdl] at this ⊢;simpa [Nat.add_assoc] using this
end Go.Proofs.YtjcdeikbghjpkaaGreatDoor
