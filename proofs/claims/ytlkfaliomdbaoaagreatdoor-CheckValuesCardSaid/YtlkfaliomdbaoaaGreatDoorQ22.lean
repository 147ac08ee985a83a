/-
  Types as they lie. check's small functions: a type of one node, may be, full. sync.Once's slow road, one goroutine: the lock, the two deferred calls. ..
-/
import Derived.WalkKit
import Derived.Defers
import Derived.Laws.Pointers
import Derived.Laws.LoneSync
import Derived.RegionCalls
import Derived.Deep.WholeRow
import Derived.Test.YtlkfaliomdbaoaaGreatDoorQ1
import Derived.Test.YtlkfaliomdbaoaaGreatDoorQ7
import Derived.Test.YtlkfaliomdbaoaaGreatDoorQ16
import Derived.Test.YtlkfaliomdbaoaaGreatDoorQ18
import Derived.Test.YtlkfaliomdbaoaaGreatDoorQ20
import Derived.Test.YtlkfaliomdbaoaaGreatDoorQ21
set_option maxRecDepth 100000
set_option maxHeartbeats 4000000
namespace Go.Proofs.YtlkfaliomdbaoaaGreatDoor
open Go.RowKit Go.Wk Go.Sort
def zgm(w:World)(a:Addr)(u:List Value):Prop:=∀(j:Nat) (x:Value),u[j]?=some x→w.cell? (a.add j)=some x
mutual
def KAt(w:World)(B:Nat→Prop):Kd→List Value→Prop
 | .base x,v=>∃n:Int,v = [.int .i64 x,.int .i64 n,.string emp,.string emp,.pointer none,.slice none 0 0]
 | .ent s,v=>∃n:Int,v = [.int .i64 44,.int .i64 n,.string s,.string emp,.pointer none,.slice none 0 0]
 | .set q,v=>∃(n:Int) (b:Nat) (u:List Value),v = [.int .i64 45,.int .i64 n,.string emp,.string emp,.pointer (some ⟨b,0,none⟩),.slice none 0 0]∧B b∧zgm w ⟨b,0,none⟩ u∧KAt w B q u
 | .fs f,v=>∃(n:Int) (A:Option Addr) (c:Nat),v = [.int .i64 46,.int .i64 n,.string emp,.string emp,.pointer none,.slice A f.len c]∧f.len≤c∧c≤maxLen∧FAt w B A 0 f
def FAt(w:World)(B:Nat→Prop):Option Addr→Nat→Fl→Prop
 | _,_,.nil=>True
 | A,i,.cons s m k r=>(∃(a:Addr) (u:List Value),A=some a∧B a.block∧zgm w (a.add (i*8)) (.string s :: .bool m :: u)∧KAt w B k u)∧FAt w B A (i+1) r
end
theorem zgm.cong{w w':World}{a:Addr}{u:List Value}(h:zgm w a u)(hb:w'.heap[a.block]?=w.heap[a.block]?):zgm w' a u:=fun j x hx=>by
 have:=h j x hx;rw [←this];exact World.cell?_of_block (by rw [jI];exact hb)
theorem zgq{w w':World}{B:Nat→Prop}(hB:∀b,B b→w'.heap[b]?=w.heap[b]?):∀(n:Nat),(∀k v,k.sz≤n→KAt w B k v→KAt w' B k v)∧(∀f A i,f.sz≤n→FAt w B A i f→FAt w' B A i f)
 | 0=>by
  refine⟨fun k v h=>by cases k <;> simp [Kd.sz] at h,fun f A i h hf=>?_⟩
  cases f with
  | nil=>trivial
  | cons s m k r=>simp [Fl.sz] at h
 | n+1=>by
  obtain⟨ihK,ihF⟩:=zgq hB n;refine⟨fun k v h hk=>?_,fun f A i h hf=>?_⟩
  ·cases k with
   | base x=>exact hk
   | ent s=>exact hk
   | set q =>
    simp only [Kd.sz] at h
    obtain⟨m,b,u,e,h1,h2,h3⟩:=hk
    exact⟨m,b,u,e,h1,h2.cong (hB b h1),ihK q u (by omega) h3⟩
   | fs f =>
    simp only [Kd.sz] at h
    obtain⟨m,A,c,e,h1,h2,h3⟩:=hk
    exact⟨m,A,c,e,h1,h2,ihF f A 0 (by omega) h3⟩
  ·cases f with
   | nil=>trivial
   | cons s m k r =>
    simp only [Fl.sz] at h
    obtain⟨⟨a,u,e,h1,h2,h3⟩,h4⟩:=hf
    exact⟨⟨a,u,e,h1,h2.cong (by rw [jI];exact hB _ h1),ihK k u (by omega) h3⟩,ihF r A (i+1) (by omega) h4⟩
theorem zar{w:World}{B B':Nat→Prop}(hB:∀b,B b→b<w.heap.size→B' b):∀(n:Nat),(∀k v,k.sz≤n→KAt w B k v→KAt w B' k v)∧(∀f A i,f.sz≤n→FAt w B A i f→FAt w B' A i f)
 | 0=>by
  refine⟨fun k v h=>by cases k <;> simp [Kd.sz] at h,fun f A i h hf=>?_⟩
  cases f with
  | nil=>trivial
  | cons s m k r=>simp [Fl.sz] at h
 | n+1=>by
  obtain⟨ihK,ihF⟩:=zar hB n;refine⟨fun k v h hk=>?_,fun f A i h hf=>?_⟩
  ·cases k with
   | base x=>exact hk
   | ent s=>exact hk
   | set q =>
    simp only [Kd.sz] at h
    obtain⟨m,b,u,e,h1,h2,h3⟩:=hk
    have hlt:b<w.heap.size:=by
     have hu:∃x,u[0]?=some x:=by
      cases q with
      | base x=>obtain⟨_,rfl⟩:=h3;exact⟨_,rfl⟩
      | ent s=>obtain⟨_,rfl⟩:=h3;exact⟨_,rfl⟩
      | set q=>obtain⟨_,_,_,rfl,_⟩:=h3;exact⟨_,rfl⟩
      | fs f=>obtain⟨_,_,_,rfl,_⟩:=h3;exact⟨_,rfl⟩
     obtain⟨x,hx⟩:=hu;exact block_lt_of_cell (h2 0 x hx)
    exact⟨m,b,u,e,hB b h1 hlt,h2,ihK q u (by omega) h3⟩
   | fs f =>
    simp only [Kd.sz] at h
    obtain⟨m,A,c,e,h1,h2,h3⟩:=hk
    exact⟨m,A,c,e,h1,h2,ihF f A 0 (by omega) h3⟩
  ·cases f with
   | nil=>trivial
   | cons s m k r =>
    simp only [Fl.sz] at h
    obtain⟨⟨a,u,e,h1,h2,h3⟩,h4⟩:=hf
    have hlt:a.block<w.heap.size:=by
     have:=block_lt_of_cell (h2 0 _ rfl);rwa [jI,jI] at this
    exact⟨⟨a,u,e,hB _ h1 hlt,h2,ihK k u (by omega) h3⟩,ihF r A (i+1) (by omega) h4⟩
theorem KAt.cong{w w':World}{B:Nat→Prop}{k:Kd}{v:List Value}(h:KAt w B k v)(hB:∀b,B b→w'.heap[b]?=w.heap[b]?):KAt w' B k v:=(zgq hB _).1 k v (Nat.le_refl _) h
theorem KAt.mono{w:World}{B B':Nat→Prop}{k:Kd}{v:List Value}(h:KAt w B k v)(hB:∀b,B b→b<w.heap.size→B' b):KAt w B' k v:=(zar hB _).1 k v (Nat.le_refl _) h
theorem FAt.cong{w w':World}{B:Nat→Prop}{A:Option Addr}{i:Nat}{f:Fl}(h:FAt w B A i f)(hB:∀b,B b→w'.heap[b]?=w.heap[b]?):FAt w' B A i f:=(zgq hB _).2 f A i (Nat.le_refl _) h
theorem FAt.mono{w:World}{B B':Nat→Prop}{A:Option Addr}{i:Nat}{f:Fl}(h:FAt w B A i f)(hB:∀b,B b→b<w.heap.size→B' b):FAt w B' A i f:=(zar hB _).2 f A i (Nat.le_refl _) h
structure RdK(w:World)(R:Nat)(Q:List Nd):Prop where
 c0:∃(A:Option Addr) (n c:Nat),w.cell? ⟨R,0,none⟩=some (.slice A n c)∧Ns w A n c Q∧(0<Q.length→∀a,A=some a→a.block<R)
 f0:w.frozen? ⟨R,0,none⟩=false
theorem RdK.keep{w w':World}{R:Nat}{Q:List Nd}(h:RdK w R Q)(hb:Below w.heap.size w w'):RdK w' R Q:=by
 obtain⟨⟨A,n,c,h1,h2,h3⟩,h4⟩:=h;exact⟨⟨A,n,c,zb hb h1,h2.keep hb,h3⟩,(hb.frozen (p:=⟨R,0,none⟩) (block_lt_of_cell h1)).trans h4⟩
abbrev zgx:List PanicEntry := [{ v := .iface 217 (.agg #[]),recovered:=false }]
def zmY(w:World)(R:Nat):List Nd→Ending→World→Prop
 | [],e,w'=>e = .panicked zgx∧w.grownBy w' (some R)
 | x :: r,e,w'=>e = .returned (ndV x)∧RdK w' R r∧w.grownBy w' (some R)
theorem zie{w:World}{a:Addr}{n c:Nat}{x:Nd}{r:List Nd}(h:Ns w (some a) n c (x :: r)):Ns w (some (a.add 4)) (n-1) (c-1) r:=by
 have hl:=h.len;have hc:=h.cap;have hm:=h.max;rw [List.length_cons] at hl;refine⟨by omega,by omega,by omega,fun k y hy=>?_,fun y hy=>h.ok y (by simp [hy])⟩;obtain⟨b,e,q0,q1,q2,q3⟩:=h.at_ (k+1) y (by simpa using hy);injection e with e;subst e;refine⟨_,rfl,?_⟩;rw [add_add,show 4+k*4=(k+1)*4 by omega];exact⟨q0,q1,q2,q3⟩
theorem zaV(R:Nat)(Q:List Nd)(w:World)(h:RdK w R Q):
 Calls Tryz.prog 151 #[.pointer (some ⟨R,0,none⟩)] w (zmY w R Q):=by
 obtain⟨⟨A,n,c,e0,hns0,hap⟩,g0⟩:=h;have hlt:R<w.heap.size:=block_lt_of_cell e0;have hb:=za w (.cells #[.int .i64 0,.int .i64 0,.string ⟨#[]⟩,.string ⟨#[]⟩] 40);have c0:=zb hb e0;have f0:=(hb.frozen (p:=⟨R,0,none⟩) hlt).trans g0;have hns:=hns0.keep hb;have hne:R≠w.heap.size:=by omega
 have hne2:w.heap.size≠R:=by omega
 clear hb
 cases Q with
 | nil =>
  have hn:n=0:=hns.len
  subst hn
  clear hns hns0 hap
  go_enter Tryz.func151,Tryz.ntmps151
  go_wp2_with fail
  exact⟨rfl,rfl,zc (za w _) _⟩
 | cons x r =>
  have HN:=hi9 hns.len
  have hc:=hns.cap
  have hm:=hns.max
  unfold maxLen at hm
  have hn1:1≤n:=by rw [hns.len,List.length_cons];omega
  obtain⟨a,rfl,q0,q1,q2,q3⟩:=hns.at_ 0 x rfl
  rw [show a.add (0*4)=a from rfl] at q0 q1 q2 q3
  have HNS0:=hi9 hns0
  have HAL:=hi9 (hap (by simp) a rfl)
  have HAP:=hi9 (Nat.ne_of_lt HAL.out)
  clear hns hns0 hap
  go_enter Tryz.func151,Tryz.ntmps151
  go_wp2_with fail
  all_goals
   rename_i h1;have hg:∀v o1 o2,w.grownBy (((w.setCell ⟨R,0,none⟩ v).alloc o1).alloc o2) (some R):=fun v o1 o2=>zcY (zcY (zg w ⟨R,0,none⟩ v) o1) o2;have hc0:∀v o1 o2,(((w.setCell ⟨R,0,none⟩ v).alloc o1).alloc o2).cell? ⟨R,0,none⟩=some v:=fun v o1 o2=>zb (za _ _) (zb (za _ _) (World.cell?_setCell_same _ _ _ e0));have hf0:∀v o1 o2,(((w.setCell ⟨R,0,none⟩ v).alloc o1).alloc o2).frozen? ⟨R,0,none⟩=false:=fun v o1 o2=>by
    rw [((za _ _).frozen (p:=⟨R,0,none⟩) (by simp [World.setCell];omega)),((za _ _).frozen (p:=⟨R,0,none⟩) (by simp [World.setCell];omega)),World.frozen?_setCell];exact g0
  ·have hr0:r = []:=List.eq_nil_of_length_eq_zero (by have:=HN.out;rw [List.length_cons] at this;omega)
   subst hr0;refine bodyPost_ret (v:=ndV x) (by simp [results,Tryz.results151,go_sem,ndV]) rfl ⟨rfl,⟨⟨_,_,_,hc0 _ _ _,⟨by have:=HN.out;simp at this;simp;omega,by omega,by unfold maxLen;omega,(fun k x hx=>by simp at hx),(fun x hx=>nomatch hx)⟩,fun h=>absurd h (by simp)⟩,hf0 _ _ _⟩,hg _ _ _⟩
  ·refine bodyPost_ret (v:=ndV x) (by simp [results,Tryz.results151,go_sem,ndV]) rfl ⟨rfl,⟨⟨_,_,_,hc0 _ _ _,by simpa [Addr.add] using(zie HNS0.out).but (hg _ _ _) (fun _ b e=>by injection e with e;subst e;exact HAP.out),fun _ b e=>by injection e with e;subst e;exact HAL.out⟩,hf0 _ _ _⟩,hg _ _ _⟩
def zex(w:World)(A:Option Addr)(L:List Int):Prop:=∀(k:Nat) (x:Int),L[k]?=some x→∃a,A=some a∧w.cell? (a.add k)=some (.int .i64 x)
theorem zk4(A:Option Addr)(n c:Nat)(L:List Int)(s:Int)(w:World)(hn:n=L.length)(hm:n≤1000)(h:zex w A L):
 Calls Tryz.prog 115 #[.slice A n c,.int .i64 s] w fun e w'=>(∃k:Int,e = .returned (.int .i64 k)∧(0≤k↔L.contains s=true))∧Below w.heap.size w w':=by
 have HL:=hi9 hn;have HT:=hi9 h;clear h hn;go_enter Tryz.func115,Tryz.ntmps115;go_wp2_with fail;go_loopw [5,8] (fun _ i wr=>∃k:Nat,i = .int .i64 k∧k≤n∧Hid ((L.take k).contains s=false)∧w=wr) (fun _ i _=>n-(intOf i).toNat)
 case atStart=>exact⟨0,rfl,Nat.zero_le _,hi9 rfl,rfl⟩
 case round =>
  obtain⟨k,rfl,hk,hF,rfl⟩:=hrel;by_cases hlt:k<n
  ·have hkn:k<L.length:=by rw [←HL.out];exact hlt
   obtain⟨a,rfl,q⟩:=HT.out k L[k] (List.getElem?_eq_getElem hkn);by_cases hs:L[k]=s
   ·have HR:=hi9 (show L.contains s=true by rw [List.contains_iff_mem];rw [←hs];exact List.getElem_mem hkn);rw [hs] at q;clear hF hs;go_wp2_with fail;go_ret;exact⟨⟨k,rfl,by rw [HR.out];simp⟩,Below.refl _ _⟩
   ·have HF:=hi9 (show(L.take (k+1)).contains s=false by
     rw [List.take_succ_eq_append_getElem hkn,List.contains_append,hF.out]
     simp only [List.contains_cons,List.contains_nil,Bool.or_false,Bool.false_or]
     exact beq_eq_false_iff_ne.2 fun e=>hs e.symm)
    have f6:(s==L[k])=false:=beq_eq_false_iff_ne.2 fun e=>hs e.symm
    generalize L[k]=y at *
    clear hF hs
    go_wp2_with fail
    go_roundw
    case rel=>exact⟨k+1,by go_num,hlt,HF,trivial⟩
    case measure=>simp [intOf];omega
  ·have HR:=hi9 (show L.contains s=false by
    have:=hF.out
    rwa [List.take_of_length_le (by rw [←HL.out];omega)] at this)
   clear hF
   go_wp2_with fail
   go_ret
   exact⟨⟨-1,rfl,by rw [HR.out];simp⟩,Below.refl _ _⟩
theorem zhp(A:Option Addr)(n c:Nat)(L:List Int)(s:Int)(w:World)(hn:n=L.length)(hm:n≤1000)(h:zex w A L):
 Calls Tryz.prog 87 #[.slice A n c,.int .i64 s] w fun e w'=>e = .returned (.bool (L.contains s))∧Below w.heap.size w w':=by
 have K:=hi9 (zk4 A n c L s w hn hm h);clear h hn hm;go_enter Tryz.func87,Tryz.ntmps87;go_wp2_with fail;refine K.out.mono ?_;rintro e w1 ⟨⟨k,rfl,hk⟩,b1⟩;have B1:=hi9 b1;have HK:=hi9 (show decide (0≤k)=L.contains s by
  rcases hu:L.contains s with _|_
  ·exact decide_eq_false (fun h=>by have:=hk.1 h;rw [hu] at this;cases this)
  ·exact decide_eq_true (hk.2 hu))
 clear hk b1;go_wp2_with fail;go_ret;exact⟨by rw [←HK.out];rfl,B1.out⟩
abbrev zcE (k:Int):List PanicEntry := [{ v := .iface 28 (.int .i64 k),recovered:=false }]
theorem ziT(A:Option Addr)(n c:Nat)(w:World)(hn:n≤100000):Calls Tryz.prog 56 #[.slice A n c] w fun e w'=>e=(if 200<n then .panicked (zcE 4) else .returned (.slice A n c))∧Below w.heap.size w w':=by
 by_cases h:200<n
 ·have HP:=hi9 (show(if 200<n then Ending.panicked (zcE 4) else .returned (.slice A n c))= .panicked (zcE 4) from if_pos h);generalize (if 200<n then Ending.panicked (zcE 4) else .returned (.slice A n c))=E at *;have hi:(200:Int)<(n:Int):=by omega
  go_enter Tryz.func56,Tryz.ntmps56;go_wp2_with fail;exact⟨rfl,by rw [HP.out],Below.refl _ _⟩
 ·have HP:=hi9 (show(if 200<n then Ending.panicked (zcE 4) else .returned (.slice A n c))= .returned (.slice A n c) from if_neg h);generalize (if 200<n then Ending.panicked (zcE 4) else .returned (.slice A n c))=E at *;have hi:¬(200:Int)<(n:Int):=by omega
  go_enter Tryz.func56,Tryz.ntmps56;go_wp2_with fail;go_ret;exact⟨by rw [HP.out];rfl,Below.refl _ _⟩
theorem zmp(A:Option Addr)(n c:Nat)(x:Nd)(r:List Nd)(B:Option Addr)(m d:Nat)(L:List Int)(w:World)(h:Ns w A n c (x :: r))(hm:m=L.length)(hm2:m≤1000)(k:zex w B L):
 Calls Tryz.prog 51 #[.slice A n c,.slice B m d] w fun e w'=>e=(if x.op=49∨L.contains x.op=true then .returned (.tuple #[]) else .panicked (zcE 2))∧Below w.heap.size w w':=by
 have K:=hi9 (zhp B m d L x.op w hm hm2 k);obtain⟨a,rfl,d0,-,-,-⟩:=h.at_ 0 x rfl;rw [show a.add (0*4)=a from rfl] at d0;have hn:(0:Int)<(n:Int):=by rw [h.len];simp
 clear h k hm hm2;generalize x.op=o at *;by_cases h49:o=49
 ·subst h49;rw [if_pos (Or.inl rfl)];clear K;go_enter Tryz.func51,Tryz.ntmps51;go_wp2_with fail;exact⟨rfl,.tuple #[],by simp [results,Tryz.results51,go_sem],rfl,Below.refl _ _⟩
 ·have f1:(o != 49)=true:=by rw [bne_iff_ne];exact h49
  rcases hc:L.contains o with _|_
  ·rw [hc] at K;rw [if_neg (by intro q;rcases q with q|q;exact h49 q;cases q)];clear hc h49;go_enter Tryz.func51,Tryz.ntmps51;go_wp2_with fail;refine K.out.mono ?_;rintro e w1 ⟨rfl,b1⟩;have B1:=hi9 b1;clear b1 K;go_wp2_with fail;exact⟨rfl,rfl,B1.out⟩
  ·rw [hc] at K;rw [if_pos (Or.inr rfl)];clear hc h49;go_enter Tryz.func51,Tryz.ntmps51;go_wp2_with fail;refine K.out.mono ?_;rintro e w1 ⟨rfl,b1⟩;have B1:=hi9 b1;clear b1 K;go_wp2_with fail;exact⟨rfl,.tuple #[],by simp [results,Tryz.results51,go_sem],rfl,B1.out⟩
end Go.Proofs.YtlkfaliomdbaoaaGreatDoor
namespace Go.Proofs.YtlkfaliomdbaoaaGreatDoor
open Go.RowKit
theorem zer(w:World):(callFunc 172 #[]).run Tryz.prog w = .ok (.value (.tuple #[])) w:=run_call_mark0 Tryz.func172 (by kernel_rfl) (by kernel_rfl) (by kernel_rfl) .disable (by kernel_rfl) w
theorem ze7(w:World):(callFunc 174 #[]).run Tryz.prog w = .ok (.value (.tuple #[])) w:=run_call_mark0 Tryz.func174 (by kernel_rfl) (by kernel_rfl) (by kernel_rfl) .enable (by kernel_rfl) w
theorem ziu(a:Addr)(w:World):(callFunc 175 #[.pointer (some a)]).run Tryz.prog w = .ok (.value (.tuple #[])) w:=run_call_marked Tryz.func175 (by kernel_rfl) (by kernel_rfl) (by kernel_rfl) .acquire (by kernel_rfl) a w
theorem zd6(a:Addr)(w:World):(callFunc 177 #[.pointer (some a)]).run Tryz.prog w = .ok (.value (.tuple #[])) w:=run_call_marked Tryz.func177 (by kernel_rfl) (by kernel_rfl) (by kernel_rfl) .releaseMerge (by kernel_rfl) a w
theorem zgO(a:Addr)(x:Value)(u:FrameMode)(w:World)(hc:w.cell? a=some x)(hz:w.frozen? a=false):
 CallsD Tryz.prog 156 #[.pointer (some a),.bool true] u w fun e u' w'=>u'=u∧(e = .returned (.tuple #[])∧w'=w.drew.setCell a (.int .u32 1)):=by
 have hc':w.drew.cell? a=some x:=by go_simp
 have hz':w.drew.frozen? a=false:=by go_simp
 have hst:=run_call_store (P:=Tryz.prog) Tryz.func167 (by kernel_rfl) (by kernel_rfl) (by kernel_rfl) (by kernel_rfl) (k := .u32) (y:=1) hc' hz';go_enter_d Tryz.func156,Tryz.ntmps156;go_wp2;go_region_calls
 all_goals (go_end0;exact⟨rfl,rfl⟩)
theorem zfI(a:Addr)(u:FrameMode)(w:World)(hc:w.cell? a=some (.int .i32 1))(hz:w.frozen? a=false):
 CallsD Tryz.prog 155 #[.pointer (some a)] u w fun e u' w'=>u'=u∧(e = .returned (.tuple #[])∧w'=w.setCell a (.int .i32 0)):=by
 have hd:=zer;have he:=ze7;have hr:=zd6;have hadd:=run_call_add (P:=Tryz.prog) Tryz.func178 (by kernel_rfl) (by kernel_rfl) (by kernel_rfl) .i32 (by kernel_rfl) (y := -1) (s:=0) hc hz (by simp [go_sem];rfl);have hcv:=run_convert_to_unsafe (P:=Tryz.prog) (src:=277) (dst:=149) Tryz.underlying277 Tryz.underlying149 (by kernel_rfl) hc;go_enter_d Tryz.func155,Tryz.ntmps155;go_wp2;go_end0;go_wp2;go_end0;exact⟨rfl,rfl⟩
theorem zl9(a:Addr)(w:World)(hc:w.cell? a=some (.int .i32 0))(hz:w.frozen? a=false):
 Calls Tryz.prog 154 #[.pointer (some a)] w fun e w'=>e = .returned (.tuple #[])∧w'=w.setCell a (.int .i32 1):=by
 have hd:=zer;have he:=ze7;have ha:=ziu;have hcas:=run_call_cas_hit (P:=Tryz.prog) Tryz.func173 (by kernel_rfl) (by kernel_rfl) (by kernel_rfl) .i32 (by kernel_rfl) (y:=1) hc hz;have hc':(w.setCell a (.int .i32 1)).cell? a=some (.int .i32 1):=World.cell?_setCell_same w a _ hc;have hcv:=run_convert_to_unsafe (P:=Tryz.prog) (src:=277) (dst:=149) Tryz.underlying277 Tryz.underlying149 (by kernel_rfl) hc';go_enter Tryz.func154,Tryz.ntmps154;go_wp2
 first|go_end0|(simp only [Exit.inBlock,Exit.then];refine bodyPost_ret (results_none rfl _ _ _) rfl ?_)|refine bodyPost_ret (results_none rfl _ _ _) rfl ?_
 go_wp2;go_end0;exact⟨rfl,rfl⟩
end Go.Proofs.YtlkfaliomdbaoaaGreatDoor
namespace Go.Proofs.YtlkfaliomdbaoaaGreatDoor
open Go.RowKit Go.Wk
theorem zmT:(Tryz.prog.info? 9).map (fun i=>(i.zero,i.size,i.bytes))=some (some (.string ⟨#[]⟩),1,16):=by kernel_rfl
noncomputable def zd3(v:Value):Array Value:=Tryz.zeroCells251.setIfInBounds 256 v
theorem zjs:Tryz.zeroCells251=Array.replicate 257 (.slice none 0 0):=by kernel_rfl
theorem ziv(v:Value):zd3 v=(Array.replicate 257 (.slice none 0 0)).setIfInBounds 256 v:=by unfold zd3;rw [zjs]
theorem zmK(v:Value):(zd3 v).size=257:=by rw [ziv];simp
theorem zlL(v:Value)(k:Nat)(h:k<256):(zd3 v)[k]?=some (.slice none 0 0):=by
 rw [ziv,Array.getElem?_setIfInBounds];rw [if_neg (by omega),Array.getElem?_replicate,if_pos (by omega)]
theorem zhS(v:Value):(zd3 v)[256]?=some v:=by rw [ziv];simp
structure Tab(w:World)(X:Nat)(f:Nat→Value)(z:Value):Prop where
 at_:∀k,k<256→w.cell? ⟨X,k,none⟩=some (f k)
 last:w.cell? ⟨X,256,none⟩=some z
 thaw:∀k,k≤256→w.frozen? ⟨X,k,none⟩=false
theorem zx{w:World}{b k:Nat}{arr:Array Value}{t:TypeId}{fz:Nat × Nat}{u:Value}(h:w.heap[b]?=some (.cells arr t fz))(hu:arr[k]?=some u):w.cell? ⟨b,k,none⟩=some u:=by
 rw [cell_of_row _ _ k arr t fz h];exact hu
theorem zoZ(w:World)(v:Value):Tab (w.alloc (.cells (zd3 v) 251)) w.heap.size (fun _ => .slice none 0 0) v :=
 ⟨fun k h=>zx (heap_alloc_last w _) (zlL v k h),zx (heap_alloc_last w _) (zhS v),fun k _=>by simp⟩
theorem Tab.lt{w:World}{X:Nat}{f:Nat→Value}{z:Value}(h:Tab w X f z):X<w.heap.size:=block_lt_of_cell h.last
theorem Tab.keep{w w':World}{X:Nat}{f:Nat→Value}{z:Value}(h:Tab w X f z)(hb:Below w.heap.size w w'):Tab w' X f z :=
 ⟨fun k hk=>zb hb (h.at_ k hk),zb hb h.last,fun k hk=>by rw [(jO hb).2 X k h.lt];exact h.thaw k hk⟩
theorem Tab.set{w:World}{X:Nat}{f:Nat→Value}{z:Value}(h:Tab w X f z)(j:Nat)(hj:j<256)(v:Value):Tab (w.setCell ⟨X,j,none⟩ v) X (fun k=>if k=j then v else f k) z :=
 ⟨fun k hk=>by
  by_cases e:k=j
  ·subst e;rw [if_pos rfl];exact World.cell?_setCell_same _ _ _ (h.at_ k hk)
  ·rw [if_neg e,World.cell?_setCell_other _ ⟨X,j,none⟩ ⟨X,k,none⟩ _ (by intro e;injection e;omega)];exact h.at_ k hk,
  by rw [World.cell?_setCell_other _ ⟨X,j,none⟩ ⟨X,256,none⟩ _ (by intro e;injection e;omega)];exact h.last,
  fun k hk=>by rw [World.frozen?_setCell];exact h.thaw k hk⟩
theorem Tab.grown{w w':World}{X:Nat}{f:Nat→Value}{z:Value}{g:Option Nat}(h:Tab w X f z)(hg:w.grownBy w' g)(hn:g≠some X):Tab w' X f z:=by
 have hb:w'.heap[X]?=w.heap[X]?:=hg.block X h.lt (fun e=>hn e.symm);exact⟨fun k hk=>(World.cell?_of_block (a:=⟨X,k,none⟩) hb).trans (h.at_ k hk),(World.cell?_of_block (a:=⟨X,256,none⟩) hb).trans h.last,fun k hk=>(World.frozen?_of_block (a:=⟨X,k,none⟩) hb).trans (h.thaw k hk)⟩
theorem Tab.setLast{w:World}{X:Nat}{f:Nat→Value}{z:Value}(h:Tab w X f z)(v:Value):Tab (w.setCell ⟨X,256,none⟩ v) X f v :=
 ⟨fun k hk=>by rw [World.cell?_setCell_other _ ⟨X,256,none⟩ ⟨X,k,none⟩ _ (by intro e;injection e;omega)];exact h.at_ k hk,
  World.cell?_setCell_same _ _ _ h.last,
  fun k hk=>by rw [World.frozen?_setCell];exact h.thaw k hk⟩
theorem zmn(w:World):(binOp .eql 135 (.slice none 0 0) (.slice none 0 0)).run Tryz.prog w = .ok (.bool true) w:=by kernel_rfl
theorem zjn(w:World)(b:UInt8)(n:Int)(hn:n=b.toNat):(convert 135 9 (.slice (some ⟨w.heap.size,0,none⟩) 1 1)).run Tryz.prog (w.alloc (.cells #[.int .u8 n] 5))= .ok (.string ⟨#[b]⟩) (w.alloc (.cells #[.int .u8 n] 5)):=by
 subst hn;exact run_convert_bytes_back (P:=Tryz.prog) _ 135 9 5 ⟨w.heap.size,0,none⟩ 1 [b] Tryz.underlying135 Tryz.underlying5 Tryz.underlying9 (fun j hj=>by
  have:j=0:=by simpa using hj
  subst this
  exact cell_one_new w _ _ 0 _ rfl)
theorem zlx(w:World)(o:Array Value)(x:Value)(t t':TypeId):∀j u,[x][j]?=some u→((w.alloc (.cells o t')).alloc (.cells #[x] t)).cell? ((⟨w.heap.size+1,0,none⟩:Addr).add j)=some u:=by
 intro j u hj;have:=cell_one_new (w.alloc (.cells o t')) x t j u hj;simpa using this
theorem zhZ{w:World}{B n size:Nat}{e:TypeId}{v:Value}{xs:List Value}(h:w.ownsRow B e size v n xs):∃A c,v = .slice A n c:=by
 rcases h.2 with ⟨rfl,h0⟩|⟨g,cap,cur,rfl,_⟩
 ·exact⟨none,0,by rw [h0]⟩
 ·exact⟨_,_,rfl⟩
def Tx(w:World)(X:Nat)(g:Option Nat)(v:Value)(l:List UInt8):Prop:=∃P c,v = .slice (some ⟨P,0,none⟩) l.length c∧P≠X∧g≠some P∧P<w.heap.size∧∀(j:Nat) (b:UInt8),l[j]?=some b→w.cell? ⟨P,j,none⟩=some (.int .u8 (b.toNat:Int))
theorem Tx.keep{w w':World}{X:Nat}{g:Option Nat}{v:Value}{l:List UInt8}(h:Tx w X g v l)(hb:Below w.heap.size w w'):Tx w' X g v l :=
 let ⟨P,c,h1,h2,h3,h4,h5⟩:=h;⟨P,c,h1,h2,h3,Nat.lt_of_lt_of_le h4 hb.size,fun j b hj=>zb hb (h5 j b hj)⟩
theorem Tx.grown{w w':World}{X:Nat}{g:Option Nat}{v:Value}{l:List UInt8}(h:Tx w X g v l)(hg:w.grownBy w' g):Tx w' X g v l :=
 let ⟨P,c,h1,h2,h3,h4,h5⟩:=h;⟨P,c,h1,h2,h3,Nat.lt_of_lt_of_le h4 hg.size,fun j b hj=>(World.cell?_of_block (a:=⟨P,j,none⟩) (hg.block P h4 (fun e=>h3 e.symm))).trans (h5 j b hj)⟩
theorem Tx.setX{w:World}{X:Nat}{g:Option Nat}{v:Value}{l:List UInt8}(h:Tx w X g v l)(k:Nat)(u:Value):Tx (w.setCell ⟨X,k,none⟩ u) X g v l :=
 let ⟨P,c,h1,h2,h3,h4,h5⟩:=h;⟨P,c,h1,h2,h3,by simpa [World.setCell] using h4,fun j b hj=>by
  rw [World.cell?_setCell_other _ ⟨X,k,none⟩ ⟨P,j,none⟩ _ (by intro e;injection e with e;exact h2 e.symm)];exact h5 j b hj⟩
theorem Tx.regrow{w w':World}{X:Nat}{g g':Option Nat}{v:Value}{l:List UInt8}{o o':Obj}(h:Tx w X g v l)(hg:((w.alloc o).alloc o').grownBy w' g)(hat:g'=g∨g'=some (w.heap.size+1+1)):Tx w' X g' v l:=by
 have h1:=((h.keep (za w o)).keep (za _ o')).grown hg;obtain⟨P,c,h1,h2,h3,h4,h5⟩:=h1;refine⟨P,c,h1,h2,?_,h4,h5⟩;rcases hat with rfl|rfl
 ·exact h3
 ·obtain⟨P',c',k1,k2,k3,k4,k5⟩:=h;rw [h1] at k1;injection k1 with k1;injection k1 with k1;injection k1 with k1;intro e;injection e with e;omega
theorem zpn{w:World}{X P c:Nat}{g:Option Nat}(l:List UInt8)(hX:P≠X)(hg:g≠some P)(hP:P<w.heap.size)(h:∀(k:Nat) (h:k<(⟨l.toArray⟩:ByteArray).size),w.cell? ⟨P,k,none⟩=some (.int .u8 ((⟨l.toArray⟩:ByteArray)[k].toNat:Int))):Tx w X g (.slice (some ⟨P,0,none⟩) l.length c) l :=
 ⟨P,c,rfl,hX,hg,hP,fun j b hj=>by
  obtain⟨hk,e⟩:=List.getElem?_eq_some_iff.1 hj
  have:=h j (by show j<l.toArray.size;rw [List.size_toArray];exact hk)
  rw [this,←e];rfl⟩
def Rnd(w:World)(X:Nat)(wr:World)(i:Value):Prop:=∃(f:Nat→Value) (z:Value) (L:List Value),
 wr.ownsRow w.heap.size 9 1 z L.length L∧Tab wr X f z∧z.ownBlock≠some X∧Below w.heap.size w wr∧
 ((i = .int .i64 2∧L = []∧f=fun _ => .slice none 0 0)∨
  (i = .int .i64 0∧L = [.string ⟨#[34]⟩]∧Tx wr X z.ownBlock (f 34) [92,34]∧∀k,k≠34→f k = .slice none 0 0)∨
  (i = .int .i64 (-2)∧L = [.string ⟨#[34]⟩,.string ⟨#[92]⟩]∧Tx wr X z.ownBlock (f 34) [92,34]∧Tx wr X z.ownBlock (f 92) [92,92]∧∀k,k≠34→k≠92→f k = .slice none 0 0))
structure zcC(w:World)(X:Nat)(f:Nat→Value)(T c:Nat):Prop where
 tab:Tab w X f (.slice (some ⟨T,0,none⟩) 2 c)
 t0:w.cell? ⟨T,0,none⟩=some (.string ⟨#[34]⟩)
 t1:w.cell? ⟨T,1,none⟩=some (.string ⟨#[92]⟩)
 q:∃P d,f 34 = .slice (some ⟨P,0,none⟩) 2 d∧w.cell? ⟨P,0,none⟩=some (.int .u8 92)∧w.cell? ⟨P,1,none⟩=some (.int .u8 34)
 s:∃P d,f 92 = .slice (some ⟨P,0,none⟩) 2 d∧w.cell? ⟨P,0,none⟩=some (.int .u8 92)∧w.cell? ⟨P,1,none⟩=some (.int .u8 92)
 o:∀k,k≠34→k≠92→f k = .slice none 0 0
theorem zcC.keep{w w':World}{X:Nat}{f:Nat→Value}{T c:Nat}(h:zcC w X f T c)(hb:Below w.heap.size w w'):zcC w' X f T c :=
 ⟨h.tab.keep hb,zb hb h.t0,zb hb h.t1,let ⟨P,d,h1,h2,h3⟩:=h.q;⟨P,d,h1,zb hb h2,zb hb h3⟩,let ⟨P,d,h1,h2,h3⟩:=h.s;⟨P,d,h1,zb hb h2,zb hb h3⟩,h.o⟩
theorem zpt{w:World}{X B:Nat}{f:Nat→Value}{z:Value}(hO:w.ownsRow B 9 1 z 2 [.string ⟨#[34]⟩,.string ⟨#[92]⟩])(hT:Tab w X f z)
 (h34:Tx w X z.ownBlock (f 34) [92,34]) (h92:Tx w X z.ownBlock (f 92) [92,92]) (hk:∀k,k≠34→k≠92→f k = .slice none 0 0):∃T c,zcC w X f T c:=by
 have hc:=fun g (e:z.ownBlock=some g)=>hO.cells (g:=g) e;obtain⟨P,d,p1,-,-,-,p2⟩:=h34;obtain⟨Q,d',q1,-,-,-,q2⟩:=h92;rcases hO.2 with ⟨rfl,h0⟩|⟨g,cap,cur,rfl,_⟩
 ·omega
 ·exact⟨g,cap,hT,hc g rfl 0 _ rfl,hc g rfl 1 _ rfl,⟨P,d,p1,p2 0 92 rfl,p2 1 34 rfl⟩,⟨Q,d',q1,q2 0 92 rfl,q2 1 92 rfl⟩,hk⟩
theorem zm7(w0:World)(A:Option Addr)(n c:Nat):
 Sem.run Tryz.prog (storeCells ⟨w0.heap.size,0,none⟩ (Tryz.zeroCells251.toList.set 256 (.slice A n c))) (w0.alloc (.cells Tryz.zeroCells251 251))= .ok () (w0.alloc (.cells (zd3 (.slice A n c)) 251)):=by
 have hs:=zmK (.slice A n c);have hz:Tryz.zeroCells251.size=257:=by rw [zjs];simp
 have h1:(zd3 (.slice A n c)).all (·.oneCell')=true:=by
  rw [Array.all_eq_true];intro i hi;have:=Array.getElem?_eq_getElem hi;rcases Nat.lt_or_ge i 256 with h|h
  ·rw [zlL _ i h] at this;injection this with this;rw [←this];rfl
  ·have e:i=256:=by omega
   subst e;rw [zhS] at this;injection this with this;rw [←this];rfl
 have:=run_storeCells_new (P:=Tryz.prog) w0 251 Tryz.zeroCells251 (zd3 (.slice A n c)) (by rw [hs];kernel_rfl) (by omega) h1;have e:(zd3 (.slice A n c)).toList=Tryz.zeroCells251.toList.set 256 (.slice A n c):=by unfold zd3;simp
 rw [e] at this;exact this
theorem zk7(b G C:Nat)(w:World)(h4:w.cell? ⟨b,4,none⟩=some (.slice (some ⟨G,0,none⟩) 4 C))
 (t0:w.cell? ⟨G,0,none⟩=some (.string ⟨#[92]⟩)) (t1:w.cell? ⟨G,1,none⟩=some (.string ⟨#[92,92]⟩)) (t2:w.cell? ⟨G,2,none⟩=some (.string ⟨#[34]⟩)) (t3:w.cell? ⟨G,3,none⟩=some (.string ⟨#[92,34]⟩)):
 Calls Tryz.prog 135 #[.pointer (some ⟨b,0,none⟩)] w fun e w'=>∃X f T c,e = .returned (.iface 252 (.pointer (some ⟨X,0,none⟩)))∧w.heap.size≤X∧zcC w' X f T c∧Below w.heap.size w w':=by
 obtain⟨j0,hj,jz0,jz1,jz2⟩:=info_parts zmT;have T0:=hi9 t0;have T1:=hi9 t1;have T2:=hi9 t2;have T3:=hi9 t3;clear t0 t1 t2 t3;go_enter Tryz.func135,Tryz.ntmps135;go_wp2_with fail;go_loopw [4,5] (fun f i wr=>((i = .int .i64 0∧f = .bool true)∨(i = .int .i64 2∧f = .bool false)∨(i = .int .i64 4∧f = .bool false))∧Hid (Below w.heap.size w wr)) (fun _ i _=>4-(intOf i).toNat)
 case atStart=>exact⟨.inl ⟨rfl,rfl⟩,Below.refl _ _⟩
 case round =>
  obtain⟨hk,hB⟩:=hrel;have e0:=zb hB.out T0.out;have e1:=zb hB.out T1.out;have e2:=zb hB.out T2.out;have e3:=zb hB.out T3.out;rcases hk with ⟨rfl,rfl⟩|⟨rfl,rfl⟩|⟨rfl,rfl⟩
  ·go_wp2_with fail;go_roundw
   case rel=>exact⟨.inr (.inl ⟨rfl,rfl⟩),hB⟩
   case measure=>simp [intOf]
  ·go_wp2_with fail;go_roundw
   case rel=>exact⟨.inr (.inr ⟨rfl,rfl⟩),hB⟩
   case measure=>simp [intOf]
  ·have hsz:=hB.out.size;go_wp2_with (at_make;refine wpList_make_own _ rfl _ _ 42 rfl w.heap.size 9 j0 (.string ⟨#[]⟩) 1 Tryz.underlying42 hj jz0 jz1 .i64 .i64 _ 2 rfl rfl (by simp) (by rw [jz2];omega) (by unfold maxLen;omega) hsz ?_;intro w0 hown0 hgrow0);have hst:=zm7 w0 (some ⟨wr.heap.size,0,none⟩) 0 2;rw [hst];clear hst;have hX:=hgrow0.size;have hYX:=zcc hown0 wr.heap.size rfl;have TB:=hi9 (zoZ w0 (.slice (some ⟨wr.heap.size,0,none⟩) 0 2));have OW:=hi9 (hown0.alloc (.cells (zd3 (.slice (some ⟨wr.heap.size,0,none⟩) 0 2)) 251));have B1:=bh hB (((zcp hgrow0)).alloc hX (.cells (zd3 (.slice (some ⟨wr.heap.size,0,none⟩) 0 2)) 251));obtain⟨w1,hw1⟩:∃w1,w0.alloc (.cells (zd3 (.slice (some ⟨wr.heap.size,0,none⟩) 0 2)) 251)=w1:=⟨_,rfl⟩
   rw [hw1] at TB OW B1 ⊢;clear hw1 hown0 hgrow0 hB e0 e1 e2 e3;have hXB:w.heap.size≤w0.heap.size:=by omega
   go_wp2_with fail;generalize w0.heap.size=X at *;generalize wr.heap.size=Y at *;go_loopw [12,13,14] (fun i _ _ wr=>Hid (Rnd w X wr i)) (fun i _ _ _=>(intOf i+2).toNat)
   case atStart=>exact⟨_,_,_,OW.out,TB.out,by simp [Value.ownBlock];omega,B1.out,.inl ⟨rfl,rfl,rfl⟩⟩
   case round =>
    obtain⟨f,z,L,hO,hT,hN,hB,hk⟩:=hrel.out;have e0:=zb hB T0.out;have e1:=zb hB T1.out;have e2:=zb hB T2.out;have e3:=zb hB T3.out;have HO:=hi9 hO;have HT:=hi9 hT;have HN:=hi9 hN;have HB:=hi9 hB;clear hO hT hN hB hrel;have qnil:=zmn;have q34:((⟨#[34]⟩:ByteArray)[0]'(by decide)).toNat=34:=rfl;have q92:((⟨#[92]⟩:ByteArray)[0]'(by decide)).toNat=92:=rfl;rcases hk with ⟨rfl,rfl,rfl⟩|⟨rfl,rfl,h34,hk⟩|⟨rfl,rfl,h34,h92,hk⟩
    ·have c0:=HT.out.at_ 34 (by omega);have c1:=HT.out.last;have qs:=zjn wr 34 34 rfl;have hsz2:=HB.out.size;go_wp2_with (at_builtin;refine wpList_append_own_at _ rfl _ _ 42 rfl w.heap.size 9 j0 _ 1 16 Tryz.underlying42 hj jz0 jz1 jz2 rfl (by decide) _ 0 [] rfl ((HO.out.alloc _).alloc _) ⟨wr.heap.size+1,0,none⟩ 1 1 [.string ⟨#[34]⟩] rfl rfl (zlx wr _ _ _ _) (by intro u hu;simp only [List.mem_cons,List.not_mem_nil,or_false] at hu;subst hu;rfl) ?d1 ?d2 ?d3 ?_)
     case d1=>unfold maxLen;omega
     case d2=>omega
     case d3=>simp;omega
     intro v2 w3 hown hgrow _ hat;have T3':=hi9 (((HT.out.keep (za wr _)).keep (za _ _)).grown hgrow HN.out);obtain⟨A2,n2,rfl⟩:=zhZ hown;have O3:=hi9 hown;have B3:=hi9 ((((HB.out.alloc hsz2 _).alloc (by simp;omega) _)).grown hgrow (by simp;omega) (fun g hg=>jB HO.out g hg));have N3:=hi9 (show(Value.slice A2 1 n2).ownBlock≠some X by
      rcases hat with q|q
      ·rw [q];exact HN.out
      ·rw [q];intro e;injection e with e;have:=HT.out.lt;omega)
     have d1:=T3'.out.last;have d2:=T3'.out.thaw 256 (by omega);clear hown hgrow hat HT HO HB HN c0 c1 e0 e1 e2 e3 qs hsz2;go_wp2_with fail;have O4:=hi9 (ownsRow_setCell_other O3.out (a:=⟨X,256,none⟩) N3.out (.slice A2 1 n2));have T4:=hi9 (T3'.out.setLast (.slice A2 1 n2));have B4:=hi9 (B3.out.setCell (p:=⟨X,256,none⟩) hXB (.slice A2 1 n2));obtain⟨w4,hw4⟩:∃w4,w3.setCell ⟨X,256,none⟩ (.slice A2 1 n2)=w4:=⟨_,rfl⟩
     rw [hw4] at O4 T4 B4 ⊢;clear hw4 d1 d2 O3 T3' B3;obtain⟨c5,w5,hrun,hb5,hcell⟩:=zdm ⟨#[92,34]⟩ w4;rw [hrun];clear hrun;have hc0:=hcell 0 (by decide);have X5:=hi9 (zpn (w:=w5) (X:=X) (P:=w4.heap.size) (c:=c5) (g:=(Value.slice A2 1 n2).ownBlock) [92,34] (by have:=T4.out.lt;omega) (by intro e;have:=zcc O4.out _ e;omega) (block_lt_of_cell hc0) hcell);have T5:=hi9 (T4.out.keep hb5);have B5:=bh B4 hb5;have O5:=hi9 (zaK O4.out hb5);have e1:=T5.out.at_ 34 (by omega);have e2:=T5.out.thaw 34 (by omega);clear hcell hb5 O4 T4 B4 hc0;go_wp2_with fail;go_roundw
     case rel =>
      refine hi9 ⟨_,_,[.string ⟨#[34]⟩],ownsRow_setCell_other O5.out (a:=⟨X,34,none⟩) N3.out _,T5.out.set 34 (by omega) _,N3.out,B5.out.setCell (p:=⟨X,34,none⟩) hXB _,.inr (.inl ⟨rfl,rfl,by rw [if_pos rfl];exact X5.out.setX 34 _,fun k hk=>by rw [if_neg hk]⟩)⟩
     case measure=>simp [intOf]
    ·have c0:=HT.out.at_ 92 (by omega);have c1:=HT.out.last;have qs:=zjn wr 92 92 rfl;have hsz2:=HB.out.size;have H34:=hi9 h34;have HK:=hi9 hk;have ek:f 92 = .slice none 0 0:=hk 92 (by decide);rw [ek] at c0;clear h34 hk ek;go_wp2_with (at_builtin;refine wpList_append_own_at _ rfl _ _ 42 rfl w.heap.size 9 j0 _ 1 16 Tryz.underlying42 hj jz0 jz1 jz2 rfl (by decide) _ 1 [.string ⟨#[34]⟩] rfl ((HO.out.alloc _).alloc _) ⟨wr.heap.size+1,0,none⟩ 1 1 [.string ⟨#[92]⟩] rfl rfl (zlx wr _ _ _ _) (by intro u hu;simp only [List.mem_cons,List.not_mem_nil,or_false] at hu;subst hu;rfl) ?d1 ?d2 ?d3 ?_)
     case d1=>unfold maxLen;omega
     case d2=>omega
     case d3=>simp;omega
     intro v2 w3 hown hgrow _ hat;have T3':=hi9 (((HT.out.keep (za wr _)).keep (za _ _)).grown hgrow HN.out);obtain⟨A2,n2,rfl⟩:=zhZ hown;have O3:=hi9 hown;have B3:=hi9 ((((HB.out.alloc hsz2 _).alloc (by simp;omega) _)).grown hgrow (by simp;omega) (fun g hg=>jB HO.out g hg));have N3:=hi9 (show(Value.slice A2 2 n2).ownBlock≠some X by
      rcases hat with q|q
      ·rw [q];exact HN.out
      ·rw [q];intro e;injection e with e;have:=HT.out.lt;omega)
     have K3:=hi9 (H34.out.regrow hgrow hat);have d1:=T3'.out.last;have d2:=T3'.out.thaw 256 (by omega);clear hown hgrow hat HT HO HB HN c0 c1 e0 e1 e2 e3 qs hsz2 H34;go_wp2_with fail;have O4:=hi9 (ownsRow_setCell_other O3.out (a:=⟨X,256,none⟩) N3.out (.slice A2 2 n2));have T4:=hi9 (T3'.out.setLast (.slice A2 2 n2));have B4:=hi9 (B3.out.setCell (p:=⟨X,256,none⟩) hXB (.slice A2 2 n2));have K4:=hi9 (K3.out.setX 256 (.slice A2 2 n2));obtain⟨w4,hw4⟩:∃w4,w3.setCell ⟨X,256,none⟩ (.slice A2 2 n2)=w4:=⟨_,rfl⟩
     rw [hw4] at O4 T4 B4 K4 ⊢;clear hw4 d1 d2 O3 T3' B3 K3;obtain⟨c5,w5,hrun,hb5,hcell⟩:=zdm ⟨#[92,92]⟩ w4;rw [hrun];clear hrun;have hc0:=hcell 0 (by decide);have X5:=hi9 (zpn (w:=w5) (X:=X) (P:=w4.heap.size) (c:=c5) (g:=(Value.slice A2 2 n2).ownBlock) [92,92] (by have:=T4.out.lt;omega) (by intro e;have:=zcc O4.out _ e;omega) (block_lt_of_cell hc0) hcell);have T5:=hi9 (T4.out.keep hb5);have B5:=bh B4 hb5;have O5:=hi9 (zaK O4.out hb5);have K5:=hi9 (K4.out.keep hb5);have e1:=T5.out.at_ 92 (by omega);have e2:=T5.out.thaw 92 (by omega);clear hcell hb5 O4 T4 B4 K4 hc0;go_wp2_with fail;go_roundw
     case rel =>
      refine hi9 ⟨_,_,[.string ⟨#[34]⟩,.string ⟨#[92]⟩],ownsRow_setCell_other O5.out (a:=⟨X,92,none⟩) N3.out _,T5.out.set 92 (by omega) _,N3.out,B5.out.setCell (p:=⟨X,92,none⟩) hXB _,.inr (.inr ⟨rfl,rfl,by rw [if_neg (by decide)];exact K5.out.setX 92 _,by rw [if_pos rfl];exact X5.out.setX 92 _,fun k hk1 hk2=>by rw [if_neg hk2];exact HK.out k hk1⟩)⟩
     case measure=>simp [intOf]
    ·have R:=hi9 (zpt HO.out HT.out h34 h92 hk);clear h34 h92 hk HO HT HN e0 e1 e2 e3;go_wp2_with fail;go_ret;obtain⟨T,c,R⟩:=R.out;exact⟨X,f,T,c,rfl,hXB,R,HB.out⟩
theorem zhk(b G C:Nat)(w:World)(h3:w.cell? ⟨b,3,none⟩=some .nilIface)(z3:w.frozen? ⟨b,3,none⟩=false)(z4:w.frozen? ⟨b,4,none⟩=false)(h4:w.cell? ⟨b,4,none⟩=some (.slice (some ⟨G,0,none⟩) 4 C))
 (t0:w.cell? ⟨G,0,none⟩=some (.string ⟨#[92]⟩)) (t1:w.cell? ⟨G,1,none⟩=some (.string ⟨#[92,92]⟩)) (t2:w.cell? ⟨G,2,none⟩=some (.string ⟨#[34]⟩)) (t3:w.cell? ⟨G,3,none⟩=some (.string ⟨#[92,34]⟩)):
 Calls Tryz.prog 113 #[.pointer (some ⟨b,0,none⟩)] w fun e w'=>∃w1 X f T c,e = .returned (.tuple #[])∧w.heap.size≤X∧zcC w1 X f T c∧Below w.heap.size w w1∧
  w'=(w1.setCell ⟨b,3,none⟩ (.iface 252 (.pointer (some ⟨X,0,none⟩)))).setCell ⟨b,4,none⟩ (.slice none 0 0):=by
 have K:=hi9 (zk7 b G C w h4 t0 t1 t2 t3);have H3:=hi9 h3;have H4:=hi9 h4;have Z3:=hi9 z3;have Z4:=hi9 z4;have hb3:=block_lt_of_cell h3;clear h3 h4 z3 z4 t0 t1 t2 t3;go_enter Tryz.func113,Tryz.ntmps113;go_wp2_with fail;refine(K.out).mono ?_;rintro e w1 ⟨X,f,T,c,rfl,hX,R,b1⟩;have R1:=hi9 R;have B1:=hi9 b1;have c3:=zb b1 H3.out;have c4:=zb b1 H4.out;have y3:=(jO b1).2 b 3 hb3;have y4:=(jO b1).2 b 4 hb3;rw [Z3.out] at y3;rw [Z4.out] at y4;clear R b1 K;go_wp2_with fail;go_end0;exact⟨w1,X,f,T,c,rfl,hX,R1.out,B1.out,rfl⟩
structure zih(w:World)(b G C:Nat):Prop where
 c0:w.cell? ⟨b,0,none⟩=some (.int .u32 0)
 c1:w.cell? ⟨b,1,none⟩=some (.int .i32 0)
 c3:w.cell? ⟨b,3,none⟩=some .nilIface
 c4:w.cell? ⟨b,4,none⟩=some (.slice (some ⟨G,0,none⟩) 4 C)
 z:∀k,w.frozen? ⟨b,k,none⟩=false
 t0:w.cell? ⟨G,0,none⟩=some (.string ⟨#[92]⟩)
 t1:w.cell? ⟨G,1,none⟩=some (.string ⟨#[92,92]⟩)
 t2:w.cell? ⟨G,2,none⟩=some (.string ⟨#[34]⟩)
 t3:w.cell? ⟨G,3,none⟩=some (.string ⟨#[92,34]⟩)
theorem zcC.other{w:World}{X:Nat}{f:Nat→Value}{T c b:Nat}{n:Int}(h:zcC w X f T c)(hb:w.cell? ⟨b,0,none⟩=some (.int .u32 n))(k:Nat)(u:Value):zcC (w.setCell ⟨b,k,none⟩ u) X f T c:=by
 have ne:∀(Y:Nat) (v:Value),w.cell? ⟨Y,0,none⟩=some v→v≠ .int .u32 n→∀j,(w.setCell ⟨b,k,none⟩ u).cell? ⟨Y,j,none⟩=w.cell? ⟨Y,j,none⟩:=fun Y v hv hn j =>
  World.cell?_setCell_other _ ⟨b,k,none⟩ ⟨Y,j,none⟩ _ (by
   intro e;injection e with e;subst e
   rw [hb] at hv;injection hv with hv;exact hn hv.symm)
 have eX:=ne X _ (h.tab.at_ 0 (by decide)) (by rw [h.o 0 (by decide) (by decide)];simp);have eT:=ne T _ h.t0 (by simp);refine⟨⟨fun j hj=>(eX j).trans (h.tab.at_ j hj),(eX 256).trans h.tab.last,fun j hj=>by rw [World.frozen?_setCell];exact h.tab.thaw j hj⟩,(eT 0).trans h.t0,(eT 1).trans h.t1,?_,?_,h.o⟩
 ·obtain⟨P,d,h1,h2,h3⟩:=h.q;have e:=ne P _ h2 (by simp);exact⟨P,d,h1,(e 0).trans h2,(e 1).trans h3⟩
 ·obtain⟨P,d,h1,h2,h3⟩:=h.s;have e:=ne P _ h2 (by simp);exact⟨P,d,h1,(e 0).trans h2,(e 1).trans h3⟩
theorem zmH(b G C:Nat)(w:World)(h:zih w b G C)(hbG:b≠G):
 Calls Tryz.prog 134 #[.pointer (some ⟨b,0,none⟩),.func (.func 113) #[.pointer (some ⟨b,0,none⟩)] #[]] w fun e w'=>∃X f T c,e = .returned (.tuple #[])∧w.heap.size≤X∧zcC w' X f T c∧
  w'.cell? ⟨b,3,none⟩=some (.iface 252 (.pointer (some ⟨X,0,none⟩)))∧w.grownBy w' (some b):=by
 have oth:∀(u:World) (i k:Nat) (v:Value),i≠k→(u.setCell ⟨b,i,none⟩ v).cell? ⟨b,k,none⟩=u.cell? ⟨b,k,none⟩:=fun u i k v hik=>World.cell?_setCell_other _ ⟨b,i,none⟩ ⟨b,k,none⟩ _ (by intro e;injection e with _ e;exact hik e);have othG:∀(u:World) (i k:Nat) (v:Value),(u.setCell ⟨b,i,none⟩ v).cell? ⟨G,k,none⟩=u.cell? ⟨G,k,none⟩:=fun u i k v=>World.cell?_setCell_other _ ⟨b,i,none⟩ ⟨G,k,none⟩ _ (by intro e;injection e with e;exact hbG e);have hl:=run_call_load (P:=Tryz.prog) Tryz.func153 (by kernel_rfl) (by kernel_rfl) (by kernel_rfl) .u32 (by kernel_rfl) (w:=w.setCell ⟨b,1,none⟩ (.int .i32 1)) (a:=⟨b,0,none⟩) (x:=0) ((oth _ _ _ _ (by decide)).trans h.c0);have hnot:∀(x:Bool) (w:World),(Op.unary .not (.bool x)).run Tryz.prog w = .ok (.bool (!x)) w:=fun _ _=>rfl;have OTH:=hi9 oth;have KB:=hi9 (zhk b G C (w.setCell ⟨b,1,none⟩ (.int .i32 1)) ((oth _ _ _ _ (by decide)).trans h.c3) (by simp [h.z]) (by simp [h.z]) ((oth _ _ _ _ (by decide)).trans h.c4) ((othG _ _ _ _).trans h.t0) ((othG _ _ _ _).trans h.t1) ((othG _ _ _ _).trans h.t2) ((othG _ _ _ _).trans h.t3));have K:=hi9 (zl9 ⟨b,1,none⟩ w h.c1 (h.z 1));have H:=hi9 h;clear h oth othG;go_enter_defers Tryz.func134,Tryz.ntmps134;go_wp2_with fail;refine(K.out).mono ?_;rintro e w1 ⟨rfl,rfl⟩;clear K;go_wp2_with (first|(go_at_call 113;refine(KB.out).mono ?_;rintro e w2 ⟨w1,X,f,T,c,rfl,hX,R,hb,rfl⟩)|(go_at_call 133;go_in));have hbl:=block_lt_of_cell H.out.c0;have q0:w1.cell? ⟨b,0,none⟩=some (.int .u32 0):=zb hb ((OTH.out _ _ _ _ (by decide)).trans H.out.c0);have q1:w1.cell? ⟨b,1,none⟩=some (.int .i32 1):=zb hb (World.cell?_setCell_same w ⟨b,1,none⟩ _ H.out.c1);have q3:w1.cell? ⟨b,3,none⟩=some .nilIface:=zb hb ((OTH.out _ _ _ _ (by decide)).trans H.out.c3);have qz:∀k,w1.frozen? ⟨b,k,none⟩=false:=fun k=>((jO hb).2 b k (by simpa [World.setCell] using hbl)).trans (by simp [H.out.z]);have R1:=R.other q0 3 (.iface 252 (.pointer (some ⟨X,0,none⟩)));have p0:=(OTH.out w1 3 0 (.iface 252 (.pointer (some ⟨X,0,none⟩))) (by decide)).trans q0;have p1:=(OTH.out w1 3 1 (.iface 252 (.pointer (some ⟨X,0,none⟩))) (by decide)).trans q1;have p3:=World.cell?_setCell_same w1 ⟨b,3,none⟩ (.iface 252 (.pointer (some ⟨X,0,none⟩))) q3;have pz:∀k,(w1.setCell ⟨b,3,none⟩ (.iface 252 (.pointer (some ⟨X,0,none⟩)))).frozen? ⟨b,k,none⟩=false:=fun k=>by rw [World.frozen?_setCell];exact qz k
 have G1:=((zg w ⟨b,1,none⟩ (.int .i32 1)).trans (zc hb (some b))).trans (zg w1 ⟨b,3,none⟩ (.iface 252 (.pointer (some ⟨X,0,none⟩))));generalize w1.setCell ⟨b,3,none⟩ (.iface 252 (.pointer (some ⟨X,0,none⟩)))=w3 at *;have R2:=R1.other p0 4 (.slice none 0 0);have s0:=(OTH.out w3 4 0 (.slice none 0 0) (by decide)).trans p0;have s1:=(OTH.out w3 4 1 (.slice none 0 0) (by decide)).trans p1;have s3:=(OTH.out w3 4 3 (.slice none 0 0) (by decide)).trans p3;have sz:∀k,(w3.setCell ⟨b,4,none⟩ (.slice none 0 0)).frozen? ⟨b,k,none⟩=false:=fun k=>by rw [World.frozen?_setCell];exact pz k
 have G2:=G1.trans (zg w3 ⟨b,4,none⟩ (.slice none 0 0));generalize w3.setCell ⟨b,4,none⟩ (.slice none 0 0)=w4 at *;refine leaves_cons (f:=156) (args:=#[.pointer (some ⟨b,0,none⟩),.bool true]) (by simp) (by simp [go_sem]) ?_;refine(zgO ⟨b,0,none⟩ (.int .u32 0) .returning _ s0 (sz 0)).mono ?_;rintro e u' w'' ⟨rfl,rfl,rfl⟩;have R3:=(R2.keep ((Below.refl _ _).drew)).other (b:=b) (n:=0) (by rw [World.cell?_drew];exact s0) 0 (.int .u32 1);have v0:=World.cell?_setCell_same w4.drew ⟨b,0,none⟩ (.int .u32 1) (by rw [World.cell?_drew];exact s0);have v1:=(OTH.out w4.drew 0 1 (.int .u32 1) (by decide)).trans s1;have v3:=(OTH.out w4.drew 0 3 (.int .u32 1) (by decide)).trans s3;have vz:∀k,(w4.drew.setCell ⟨b,0,none⟩ (.int .u32 1)).frozen? ⟨b,k,none⟩=false:=fun k=>by rw [World.frozen?_setCell,World.frozen?_drew];exact sz k
 have G3:=(G2.trans (zc ((Below.refl w4.heap.size w4).drew) (some b))).trans (zg w4.drew ⟨b,0,none⟩ (.int .u32 1));generalize w4.drew.setCell ⟨b,0,none⟩ (.int .u32 1)=w5 at *;refine leaves_cons (f:=155) (args:=#[.pointer (some ⟨b,1,none⟩)]) (by simp [settle]) (by simp [go_sem]) ?_;refine(zfI ⟨b,1,none⟩ _ _ v1 (vz 1)).mono ?_;rintro e u' w'' ⟨rfl,rfl,rfl⟩;have R4:=R3.other v0 1 (.int .i32 0);have y3:=(OTH.out w5 1 3 (.int .i32 0) (by decide)).trans v3;have G4:=G3.trans (zg w5 ⟨b,1,none⟩ (.int .i32 0));simp [Leaves,settle,results,Tryz.results134];exact⟨X,by simpa [World.setCell] using hX,⟨f,T,c,R4⟩,y3,G4⟩
theorem zoD(b G C:Nat)(w:World)(h:zih w b G C)(hbG:b≠G):
 Calls Tryz.prog 112 #[.pointer (some ⟨b,0,none⟩),.func (.func 113) #[.pointer (some ⟨b,0,none⟩)] #[]] w fun e w'=>∃X f T c,e = .returned (.tuple #[])∧w.heap.size≤X∧zcC w' X f T c∧
  w'.cell? ⟨b,3,none⟩=some (.iface 252 (.pointer (some ⟨X,0,none⟩)))∧w.grownBy w' (some b):=by
 have hl:=run_call_load (P:=Tryz.prog) Tryz.func153 (by kernel_rfl) (by kernel_rfl) (by kernel_rfl) .u32 (by kernel_rfl) h.c0;have hnot:∀(x:Bool) (w:World),(Op.unary .not (.bool x)).run Tryz.prog w = .ok (.bool (!x)) w:=fun _ _=>rfl;have KS:=hi9 (zmH b G C w h hbG);clear h;go_enter Tryz.func112,Tryz.ntmps112;go_wp2_with (first|(go_at_call 134;refine(KS.out).mono ?_;rintro e w1 ⟨X,f,T,c,rfl,hX,R,h3,hg⟩)|(go_at_call 133;go_in));go_end0;exact⟨X,f,T,c,rfl,hX,R,h3,hg⟩
theorem zm3(g:Nat)(w:World)(t0:w.cell? ⟨g,0,none⟩=some (.string ⟨#[92]⟩))(t1:w.cell? ⟨g,1,none⟩=some (.string ⟨#[92,92]⟩))(t2:w.cell? ⟨g,2,none⟩=some (.string ⟨#[34]⟩))(t3:w.cell? ⟨g,3,none⟩=some (.string ⟨#[92,34]⟩)):
 Calls Tryz.prog 82 #[.slice (some ⟨g,0,none⟩) 4 4] w fun e w'=>∃b G C,e = .returned (.pointer (some ⟨b,0,none⟩))∧zih w' b G C∧b≠G∧w.heap.size≤b∧Below w.heap.size w w':=by
 obtain⟨j0,hj,jz0,jz1,jz2⟩:=info_parts zmT;go_enter Tryz.func82,Tryz.ntmps82;go_wp2_with fail;go_ret;generalize (Question.appendCap 4 0 9).cut (w.tape w.drawn (Question.appendCap 4 0 9))=C;have hs:∀(k:Nat) (v:Value),[Value.string ⟨#[92]⟩,.string ⟨#[92,92]⟩,.string ⟨#[34]⟩,.string ⟨#[92,34]⟩][k]?=some v→∀(o:Obj),((w.alloc (.cells (#[.string ⟨#[92]⟩,.string ⟨#[92,92]⟩,.string ⟨#[34]⟩,.string ⟨#[92,34]⟩] ++ Builtin.zeroCells #[.string ⟨#[]⟩] (C-4)) 9)).alloc o).drew.cell? ⟨w.heap.size,k,none⟩=some v:=fun k v hk o=>by
  rw [World.cell?_drew];refine zb (za _ o) (zx (heap_alloc_last w _) ?_);rw [Array.getElem?_append,if_pos (by have:=(List.getElem?_eq_some_iff.1 hk).1;simpa using this)];simpa using hk
 refine⟨w.heap.size+1,w.heap.size,C,rfl,?_,by omega,by omega,(((Below.refl _ _).alloc (Nat.le_refl _) _).alloc (by simp) _).drew⟩;have hn:∀(k:Nat) (v:Value),[Value.int .u32 0,.int .i32 0,.int .u32 0,.nilIface,.slice (some ⟨w.heap.size,0,none⟩) 4 C][k]?=some v→((w.alloc (.cells (#[.string ⟨#[92]⟩,.string ⟨#[92,92]⟩,.string ⟨#[34]⟩,.string ⟨#[92,34]⟩] ++ Builtin.zeroCells #[.string ⟨#[]⟩] (C-4)) 9)).alloc (.cells #[.int .u32 0,.int .i32 0,.int .u32 0,.nilIface,.slice (some ⟨w.heap.size,0,none⟩) 4 C] 186)).drew.cell? ⟨w.heap.size+1,k,none⟩=some v:=fun k v hk=>by
  rw [World.cell?_drew];have:=zx (heap_alloc_last (w.alloc (.cells (#[.string ⟨#[92]⟩,.string ⟨#[92,92]⟩,.string ⟨#[34]⟩,.string ⟨#[92,34]⟩] ++ Builtin.zeroCells #[.string ⟨#[]⟩] (C-4)) 9)) (.cells #[.int .u32 0,.int .i32 0,.int .u32 0,.nilIface,.slice (some ⟨w.heap.size,0,none⟩) 4 C] 186)) (k:=k) (u:=v) (by simpa using hk);simpa using this
 exact⟨hn 0 _ rfl,hn 1 _ rfl,hn 3 _ rfl,hn 4 _ rfl,fun k=>by simp,hs 0 _ rfl _,hs 1 _ rfl _,hs 2 _ rfl _,hs 3 _ rfl _⟩
end Go.Proofs.YtlkfaliomdbaoaaGreatDoor
