/-
  The contract of the reference's Fits: the table from behind.
-/
import Derived.Test.YtkfgabdnppmglaaGreatDoorQ30
set_option maxRecDepth 100000
set_option maxHeartbeats 8000000
namespace Go.Proofs.YtkfgabdnppmglaaGreatDoor
open Go.RowKit Go.Wk
def zbi(l:List UInt8)(k:Nat):Option UInt8 :=
 if l.getD k 0=42 then none else if l.getD k 0=92∧k+1<l.length∧l.getD (k+1) 0=42 then some 42 else some (l.getD k 0)
def Pos(l:List UInt8)(E:List Nat)(Q:List (Option UInt8)):Prop:=E.length=Q.length∧∀(t e:Nat) (x:Option UInt8),E[t]?=some e→Q[t]?=some x→e<l.length∧zbi l e=x
theorem Pos.nil(l:List UInt8):Pos l [] []:=⟨rfl,fun t e x h=>by simp at h⟩
theorem Pos.snoc{l:List UInt8}{E:List Nat}{Q:List (Option UInt8)}(h:Pos l E Q){k:Nat}(hk:k<l.length):Pos l (E ++ [k]) (Q ++ [zbi l k]):=by
 refine⟨by simp [h.1],fun t e x he hx=>?_⟩;by_cases ht:t<E.length
 ·rw [List.getElem?_append_left ht] at he;rw [List.getElem?_append_left (by rw [←h.1];exact ht)] at hx;exact h.2 t e x he hx
 ·rw [List.getElem?_append_right (by omega)] at he;rw [List.getElem?_append_right (by rw [←h.1];omega)] at hx;rw [h.1] at he;rcases Nat.eq_zero_or_pos (t-Q.length) with h0|h0
  ·rw [h0] at he hx;simp at he hx;subst he;subst hx;exact⟨hk,rfl⟩
  ·rw [List.getElem?_eq_none (by simp;omega)] at he;cases he
def wid(l:List UInt8)(e:Nat):Nat:=if zbi l e=some 42∧l.getD e 0=92 then e+2 else e+1
def zgR(l:List UInt8)(E:List Nat)(Q:List (Option UInt8))(k:Nat):Prop:=Pos l E Q∧∀t,(h:t<E.length)→(E ++ [k])[t+1]?=some (wid l E[t])
theorem zgR.nil(l:List UInt8):zgR l [] [] 0:=⟨Pos.nil l,fun t h=>by simp at h⟩
theorem zgR.snoc{l:List UInt8}{E:List Nat}{Q:List (Option UInt8)}{k:Nat}(h:zgR l E Q k)(hk:k<l.length):zgR l (E ++ [k]) (Q ++ [zbi l k]) (if zbi l k=some 42∧l.getD k 0=92 then k+2 else k+1):=by
 refine⟨h.1.snoc hk,fun t ht=>?_⟩;by_cases hlt:t<E.length
 ·rw [List.getElem?_append_left (by simp;omega)];have:=h.2 t hlt;rw [this,List.getElem_append_left hlt]
 ·have e:t=E.length:=by simp at ht;omega
  subst e;rw [List.getElem?_append_right (by simp)];simp [wid]
theorem zsi{l:List UInt8}{k:Nat}(h:k<l.length):jw (l.drop k)=zbi l k :: jw (l.drop (if zbi l k=some 42∧l.getD k 0=92 then k+2 else k+1)):=by
 have g:l.getD k 0=l[k]:=by simp [h]
 unfold zbi;rw [g];by_cases h1:l[k]=42
 ·rw [if_pos h1,if_neg (by simp),zhO h h1]
 ·rw [if_neg h1];by_cases h2:l[k]=92∧k+1<l.length∧l.getD (k+1) 0=42
  ·rw [if_pos h2,if_pos ⟨rfl,h2.1⟩,zjN h2.2.1 h2.1 (by have:=h2.2.2;simpa [h2.2.1] using this)]
  ·rw [if_neg h2,if_neg (fun q=>by have:=q.1;simp at this;exact h1 this),zid h h1 (fun q=>h2 ⟨q.1,q.2.1,by obtain⟨_,q1,q2⟩:=q;simpa [q1] using q2⟩)]
def zaL(s:ByteArray)(k:Nat):Bool:=decide (s.data.toList.getD k 0=92)&& decide (k+1<s.size)&& decide (s.data.toList.getD (k+1) 0=42)
theorem zcJ{s:ByteArray}{k:Nat}(h:k<s.size):s.data.toList.getD k 0=s[k]:=by
 have h':k<s.data.toList.length:=by simpa using h
 rw [List.getD_eq_getElem?_getD,List.getElem?_eq_getElem h'];rfl
theorem zeI(s:ByteArray)(k:Nat):zaL s k=true↔s.data.toList.getD k 0=92∧k+1<s.size∧s.data.toList.getD (k+1) 0=42:=by
 unfold zaL;simp only [Bool.and_eq_true,decide_eq_true_eq,and_assoc]
theorem zhx{s:ByteArray}{k:Nat}(_h:k<s.data.toList.length):(if zbi s.data.toList k=some 42∧s.data.toList.getD k 0=92 then k+2 else k+1)=if zaL s k=true then k+2 else k+1:=by
 have e:(zbi s.data.toList k=some 42∧s.data.toList.getD k 0=92)↔zaL s k=true:=by
  rw [zeI];unfold zbi;rw [show s.data.toList.length=s.size from Array.length_toList];constructor
  ·rintro ⟨h1,h2⟩;rw [h2,if_neg (by decide)] at h1;by_cases c:(92:UInt8)=92∧k+1<s.size∧s.data.toList.getD (k+1) 0=42
   ·exact⟨h2,c.2⟩
   ·rw [if_neg c] at h1;exact absurd h1 (by decide)
  ·rintro ⟨h1,h2⟩;rw [h1,if_neg (by decide),if_pos ⟨rfl,h2⟩];exact⟨rfl,rfl⟩
 simp only [e]
theorem zlx(s:ByteArray)(k:Nat)(w:World)(hk:k<s.size)(hs:s.size≤60):
 Calls Tryz.prog 104 #[.string s,.int .i64 k] w fun e w'=>e = .returned (.bool (zaL s k))∧w=w':=by
 by_cases c1:(s[k].toNat:Int)=92
 ·have e1:s.data.toList.getD k 0=92:=(zcJ hk).trans (zek (b:=92) hk c1);by_cases c2:k+1<s.size
  ·by_cases c3:(s[k+1].toNat:Int)=42
   ·have H:=hi9 (show zaL s k=true by unfold zaL;rw [e1,(zcJ c2).trans (zek (b:=42) c2 c3)];simp [c2]);clear e1;go_enter Tryz.func104,Tryz.ntmps104;go_wp2;go_ret;exact⟨by rw [H.out];rfl,rfl⟩
   ·have c3':((s[k+1].toNat:Int)==42)=false:=beq_eq_false_iff_ne.2 c3;have H:=hi9 (show zaL s k=false by unfold zaL;rw [e1,zcJ c2];simp [c2];exact fun q=>c3 (by rw [q];rfl));clear e1 c3;go_enter Tryz.func104,Tryz.ntmps104;go_wp2;go_ret;exact⟨by rw [H.out];rfl,rfl⟩
  ·have H:=hi9 (show zaL s k=false by unfold zaL;simp [c2]);clear e1;go_enter Tryz.func104,Tryz.ntmps104;go_wp2;go_ret;exact⟨by rw [H.out];rfl,rfl⟩
 ·have c1':((s[k].toNat:Int)==92)=false:=beq_eq_false_iff_ne.2 c1;have H:=hi9 (show zaL s k=false by unfold zaL;rw [zcJ hk];simp;intro q;exact absurd (by rw [q];rfl) c1);clear c1;go_enter Tryz.func104,Tryz.ntmps104;go_wp2;go_ret;exact⟨by rw [H.out];rfl,rfl⟩
def zon(w:World)(A:Option Addr)(E:List Nat):Prop:=∀(k e:Nat),E[k]?=some e→∃a,A=some a∧w.cell? (a.add k)=some (.int .i64 (e:Int))
def zbH(E:List Nat):List Value:=E.map fun e:Nat=>Value.int .i64 (e:Int)
theorem zmT{w:World}{B:Nat}{v:Value}{E:List Nat}(h:w.ownsRow B 3 1 v E.length (zbH E)):∃A c,v = .slice A E.length c∧zon w A E:=by
 rcases h.2 with ⟨rfl,h0⟩|⟨g,cap,cur,rfl,_⟩
 ·have:E = []:=List.eq_nil_of_length_eq_zero h0;subst this;exact⟨none,0,rfl,fun k x hx=>by simp at hx⟩
 ·refine⟨some ⟨g,0,none⟩,cap,rfl,fun k x hx=>⟨_,rfl,h.cells (g:=g) rfl _ _ ?_⟩⟩;unfold zbH;rw [List.getElem?_map,hx];rfl
theorem ztg:(Tryz.prog.info? 3).map (fun i=>(i.zero,i.size,i.bytes))=some (some (.int .i64 0),1,8):=by kernel_rfl
theorem zti{w1:World}{B:Nat}{v':Value}{E:List Nat}{x:Nat}(h:w1.ownsRow B 3 1 v' (E.length+1) (zbH E ++ [.int .i64 (x:Int)])):
 w1.ownsRow B 3 1 v' (E ++ [x]).length (zbH (E ++ [x])):=by
 rw [show zbH (E ++ [x])=zbH E ++ [.int .i64 (x:Int)] by simp [zbH],List.length_append];exact h
theorem zlg(n:Int):∀u∈ [Value.int .i64 n],u.oneCell'=true:=by
 intro u hu;simp only [List.mem_cons,List.not_mem_nil,or_false] at hu;subst hu;rfl
theorem zlW(s:ByteArray)(w:World)(hs:s.size≤60):
 Calls Tryz.prog 103 #[.string s] w fun e w'=>∃A c E,e = .returned (.slice A E.length c)∧zgR s.data.toList E (jw s.data.toList) s.size∧zon w' A E∧Below w.heap.size w w':=by
 have HS:=hi9 (show s.data.toList.length=s.size from Array.length_toList);obtain⟨i0,hi,hz0,hz1,hz2⟩:=info_parts ztg;go_enter Tryz.func103,Tryz.ntmps103;go_wp2;go_loopw [3,4] (fun v i wr=>∃(k:Nat) (E:List Nat),i = .int .i64 k∧k≤s.size∧E.length≤k∧Hid (∃Q,jw s.data.toList=Q ++ jw (s.data.toList.drop k)∧zgR s.data.toList E Q k)∧Hid (wr.ownsRow w.heap.size 3 1 v E.length (zbH E))∧Hid (Below w.heap.size w wr)) (fun _ i _=>s.size-(intOf i).toNat)
 case atStart=>exact⟨0,[],rfl,Nat.zero_le _,Nat.le_refl _,⟨[],rfl,zgR.nil _⟩,⟨rfl,.inl ⟨rfl,rfl⟩⟩,Below.refl _ _⟩
 case round =>
  obtain⟨k,E,rfl,hk,hq,hE,hown,hb⟩:=hrel;by_cases hlt:k<s.size
  ·have hlt':k<s.data.toList.length:=by rw [HS.out];exact hlt
   have HE:=hi9 (show∃Q,jw s.data.toList=Q ++ jw (s.data.toList.drop (if zaL s k=true then k+2 else k+1))∧zgR s.data.toList (E ++ [k]) Q (if zaL s k=true then k+2 else k+1) by
    obtain⟨Q,h1,h2⟩:=hE.out
    refine⟨Q ++ [zbi s.data.toList k],?_,by rw [←zhx hlt'];exact h2.snoc hlt'⟩
    rw [h1,List.append_assoc]
    congr 1
    rw [zsi hlt',List.singleton_append]
    rw [zhx hlt])
   have C:=hi9 (fun w=>zlx s k w hlt hs);have hst:zaL s k=true→k+2≤s.size:=fun q=>by
    unfold zaL at q;simp only [Bool.and_eq_true,decide_eq_true_eq] at q;omega
   have Hst:=hi9 hst;clear hst hE;generalize zaL s k=b at *;go_wp2_with (at_builtin;refine wpList_append_own _ rfl _ _ 65 rfl w.heap.size 3 i0 _ 1 8 Tryz.underlying65 hi hz0 hz1 hz2 rfl (by decide) _ E.length (zbH E) rfl (hown.out.alloc _) ⟨_,0,none⟩ 1 1 [.int .i64 (k:Int)] rfl rfl (jW _ _ _) (zlg _) (by unfold maxLen;omega) (by omega) ?c5 ?_)
   case c5=>have:=hb.out.size;simp;omega
   intro v1 w1 hown1 hgrow1 _;have B1:=hi9 (zbe hb.out (Nat.le_refl _) hown.out _ hgrow1);have O1:=hi9 (zti hown1);clear hown hb hown1 hgrow1;cases b
   ·have HE':=hi9 (show∃Q,jw s.data.toList=Q ++ jw (s.data.toList.drop (k+1))∧zgR s.data.toList (E ++ [k]) Q (k+1) by simpa using HE.out);clear HE Hst;go_wp2_with (go_at_call 104;refine(C.out _).mono ?_;rintro e w2 ⟨rfl,rfl⟩);go_roundw
    case rel=>exact⟨k+1,E ++ [k],by go_num,by omega,by simp;omega,HE',O1,B1⟩
    case measure=>simp [intOf];omega
   ·have HE':=hi9 (show∃Q,jw s.data.toList=Q ++ jw (s.data.toList.drop (k+2))∧zgR s.data.toList (E ++ [k]) Q (k+2) by simpa using HE.out);have h2:=Hst.out rfl;clear HE Hst;go_wp2_with (go_at_call 104;refine(C.out _).mono ?_;rintro e w2 ⟨rfl,rfl⟩);go_roundw
    case rel=>exact⟨k+2,E ++ [k],by go_num,by omega,by simp;omega,HE',O1,B1⟩
    case measure=>simp [intOf];omega
  ·obtain⟨Q,h1,h2⟩:=hE.out;rw [zjT (by rw [HS.out];omega),List.append_nil] at h1;have HE:=hi9 (show zgR s.data.toList E (jw s.data.toList) s.size by
    rw [h1]
    have e:k=s.size:=by omega
    rw [←e];exact h2)
   obtain⟨A,c,hv,hsg⟩:=zmT hown.out;subst hv;have HV:=hi9 hsg;clear hE hown hsg h1 h2;go_wp2;go_ret;exact⟨A,c,E,rfl,HE.out,HV.out,hb.out⟩
theorem zn4(s:ByteArray)(w:World)(hs:s.size≤60):
 Calls Tryz.prog 103 #[.string s] w fun e w'=>∃A c E,e = .returned (.slice A E.length c)∧Pos s.data.toList E (jw s.data.toList)∧zon w' A E∧Below w.heap.size w w' :=
 (zlW s w hs).mono fun _ _ ⟨A,c,E,q1,q2,q3,q4⟩=>⟨A,c,E,q1,q2.1,q3,q4⟩
def zaD(w:World)(g n:Nat)(f:Nat→Bool):Prop:=∃cs:Array Value,w.heap[g]?=some (.cells cs 4 (0,0))∧cs.size=n∧∀k,k<n→cs[k]?=some (.bool (f k))
theorem zaD.cell{w:World}{g n:Nat}{f:Nat→Bool}(h:zaD w g n f){k:Nat}(hk:k<n):w.cell? ⟨g,k,none⟩=some (.bool (f k)):=by
 obtain⟨cs,h1,h2,h3⟩:=h;unfold World.cell?;rw [h1];simpa using h3 k hk
theorem zaD.frozen{w:World}{g n:Nat}{f:Nat→Bool}(h:zaD w g n f)(k:Nat):w.frozen? ⟨g,k,none⟩=false:=by
 obtain⟨cs,h1,_⟩:=h;unfold World.frozen?;rw [h1];simp
theorem zaD.lt{w:World}{g n:Nat}{f:Nat→Bool}(h:zaD w g n f):g<w.heap.size:=by
 obtain⟨cs,h1,_⟩:=h;exact(Array.getElem?_eq_some_iff.1 h1).1
theorem zaD.keep{w w':World}{g n:Nat}{f:Nat→Bool}{B:Nat}(h:zaD w g n f)(hb:Below B w w')(hg:g<B):zaD w' g n f:=by
 obtain⟨cs,h1,h2⟩:=h;exact⟨cs,(hb.block g hg).trans h1,h2⟩
theorem zaD.alloc{w:World}{g n:Nat}{f:Nat→Bool}(h:zaD w g n f)(o:Obj):zaD (w.alloc o) g n f:=h.keep ((Below.refl _ _).alloc (Nat.le_refl _) o) h.lt
theorem zaD.other{w:World}{g n:Nat}{f:Nat→Bool}(h:zaD w g n f){a:Addr}(ha:a.block≠g)(v:Value):zaD (w.setCell a v) g n f:=by
 obtain⟨cs,h1,h2⟩:=h;exact⟨cs,(Below.heap_setCell w a v g (Ne.symm ha)).trans h1,h2⟩
theorem zaD.set{w:World}{g n:Nat}{f f':Nat→Bool}(h:zaD w g n f)(m:Nat)(b:Bool)(hf:∀k,k<n→f' k=if k=m then b else f k):zaD (w.setCell ⟨g,m,none⟩ (.bool b)) g n f':=by
 obtain⟨cs,h1,h2,h3⟩:=h;refine⟨cs.setIfInBounds m (.bool b),?_,by simpa using h2,fun k hk=>?_⟩
 ·simp only [World.setCell,Array.getElem?_modify,if_true,h1];simp
 ·rw [hf k hk,Array.getElem?_setIfInBounds];by_cases e:k=m
  ·subst e;rw [if_pos rfl,if_pos rfl,if_pos (by omega)]
  ·rw [if_neg (fun q=>e q.symm),if_neg e];exact h3 k hk
theorem zaD.made(w:World)(n:Nat):zaD (w.alloc (.cells (madeCells #[.bool false] n) 4)) w.heap.size n (fun _=>false):=by
 refine⟨_,heap_alloc_new w _,size_madeCells _ _,fun k hk=>?_⟩;rw [←Array.getElem?_toList,toList_madeCells_one,List.getElem?_replicate,if_pos hk]
theorem zr6:(Tryz.prog.info? 4).map (fun i=>(i.zero,i.size,i.bytes))=some (some (.bool false),1,1):=by kernel_rfl
theorem zqF(n:Nat)(hn:n≤100)(w:World):(Instr.makeSlice 156 (.int .i64 (n:Int)) (.int .i64 (n:Int))).run Tryz.prog w = .ok (.slice (some ⟨w.heap.size,0,none⟩) n n) (w.alloc (.cells (madeCells #[.bool false] n) 4)):=by
 obtain⟨i,hi,hz,h1,h2⟩:=info_parts zr6;have:=run_make (P:=Tryz.prog) w 156 4 i _ Tryz.underlying156 hi hz .i64 .i64 (n:Int) (n:Int) (by omega) (by omega) (by rw [h2];omega) (by omega);rw [h1] at this;simpa [Value.cells] using this
theorem zov(n:Nat)(hn:n≤100)(w:World):∃w0,(Instr.makeSlice 156 (.int .i64 (n:Int)) (.int .i64 (n:Int))).run Tryz.prog w = .ok (.slice (some ⟨w.heap.size,0,none⟩) n n) w0∧zaD w0 w.heap.size n (fun _=>false)∧
 Below w.heap.size w w0∧w0.heap.size=w.heap.size+1 :=
 ⟨_,zqF n hn w,zaD.made w n,(Below.refl w.heap.size w).alloc (Nat.le_refl _) _,by simp⟩
theorem zmD{P:List (Option UInt8)}{S:List UInt8}{t m:Nat}(ht:t<P.length)(hP:P[t]=none)(hm:m≤S.length):
 zX (P.drop t) (S.drop m)=(zX (P.drop (t+1)) (S.drop m)||(decide (m<S.length)&& zX (P.drop t) (S.drop (m+1)))):=by
 rw [List.drop_eq_getElem_cons ht,hP];by_cases h:m<S.length
 ·rw [List.drop_eq_getElem_cons h,zb3];simp [h]
 ·have hm':S.drop m = []:=List.drop_of_length_le (by omega);rw [hm',zcr];simp [h]
theorem zsE{P:List (Option UInt8)}{S:List UInt8}{t m:Nat}{b:UInt8}(ht:t<P.length)(hP:P[t]=some b)(h:m<S.length):
 zX (P.drop t) (S.drop m)=((S[m]==b)&& zX (P.drop (t+1)) (S.drop (m+1))):=by
 rw [List.drop_eq_getElem_cons ht,hP,List.drop_eq_getElem_cons h,zbk];congr 1;rw [Bool.eq_iff_iff,beq_iff_eq,beq_iff_eq];exact⟨Eq.symm,Eq.symm⟩
theorem zrM{P:List (Option UInt8)}{S:List UInt8}{t m:Nat}{b:UInt8}(ht:t<P.length)(hP:P[t]=some b)(h:S.length≤m):zX (P.drop t) (S.drop m)=false:=by
 rw [List.drop_eq_getElem_cons ht,hP,List.drop_of_length_le h,zcx]
theorem zqj{P:List (Option UInt8)}{S:List UInt8}{m n:Nat}(h:n=P.length)(hm:m≤S.length):zX (P.drop n) (S.drop m)=decide (m=S.length):=by
 rw [List.drop_of_length_le (by omega),zgf];by_cases e:m=S.length
 ·rw [List.drop_of_length_le (by omega)];simp [e]
 ·rw [List.drop_eq_getElem_cons (show m<S.length by omega)];simp only [e,decide_false,List.isEmpty_cons]
theorem zgw{s:ByteArray}{k:Nat}(h:k<s.size):zbi s.data.toList k=none↔(s[k].toNat:Int)=42:=by
 unfold zbi;rw [zcJ h];constructor
 ·intro q;by_cases c:s[k]=42
  ·rw [c];rfl
  ·rw [if_neg c] at q;split at q <;> cases q
 ·intro q;rw [if_pos];exact UInt8.toNat_inj.1 (show s[k].toNat=(42:UInt8).toNat by have:((42:UInt8).toNat:Int)=42:=rfl;omega)
theorem zlr{s:ByteArray}{k:Nat}(h:k<s.size){b:UInt8}(hb:zbi s.data.toList k=some b):(b.toNat:Int)=if zaL s k=true then 42 else(s[k].toNat:Int):=by
 unfold zbi at hb;rw [zcJ h,show s.data.toList.length=s.size from Array.length_toList] at hb;by_cases c:s[k]=42
 ·rw [if_pos c] at hb;cases hb
 ·rw [if_neg c] at hb;by_cases c2:s[k]=92∧k+1<s.size∧s.data.toList.getD (k+1) 0=42
  ·rw [if_pos c2] at hb;rw [if_pos ((zeI s k).2 (by rw [zcJ h];exact c2))];injection hb with hb;subst hb;rfl
  ·rw [if_neg c2] at hb;rw [if_neg (fun q=>c2 (by have:=(zeI s k).1 q;rw [zcJ h] at this;exact this))];injection hb with hb;rw [hb]
def Row(P:List (Option UInt8))(S:List UInt8)(t u:Nat)(m:Nat):Bool:=decide (u≤m)&& zX (P.drop t) (S.drop m)
theorem zdm{P:List (Option UInt8)}{S:List UInt8}{t u:Nat}{b:Bool}(hb:zX (P.drop t) (S.drop u)=b)(k:Nat):Row P S t u k=if k=u then b else Row P S t (u+1) k:=by
 unfold Row;by_cases e:k=u
 ·subst e;rw [if_pos rfl,hb];simp
 ·rw [if_neg e];congr 1;by_cases h:u≤k
  ·simp [h];omega
  ·simp [h];omega
theorem zsw(P:List (Option UInt8))(S:List UInt8)(t m:Nat):Row P S t 0 m=zX (P.drop t) (S.drop m):=by unfold Row;simp
theorem zlT(P:List (Option UInt8))(S:List UInt8)(t n m:Nat)(h:m<n):Row P S t n m=false:=by unfold Row;simp;omega
theorem zr4(p s:ByteArray)(w:World)(hp:p.size≤60)(hs:s.size≤60):
 Calls Tryz.prog 62 #[.string p,.int .i64 0,.string s,.int .i64 0] w fun e w'=>e = .returned (.bool (zX (jw p.data.toList) s.data.toList))∧Below w.heap.size w w':=by
 have HS:=hi9 (show s.data.toList.length=s.size from Array.length_toList);have MK:=hi9 (zov (s.size+1) (by omega));have ec:((s.size+1:Nat):Int)=(s.size:Int)+1:=by omega
 rw [ec] at MK;clear ec;have C1:=hi9 (fun w=>zn4 p w hp);have C2:=hi9 (fun k w hk=>zlx p k w hk hp);have SL:=hi9 (zfy p.data.toList);have PL:=hi9 (show p.data.toList.length=p.size from Array.length_toList);generalize jw p.data.toList=P at *;obtain⟨w0,hrun,M0,b0,z0⟩:=MK.out w;have q1:=M0.cell (k:=s.size) (by omega);have q2:=M0.frozen s.size;have M1:=hi9 (M0.set (f':=fun m=>decide (m=s.size)) s.size true (fun k hk=>by by_cases e:k=s.size <;> simp [e]));have B0:=hi9 (b0.setCell (p:=⟨w.heap.size,s.size,none⟩) (Nat.le_refl _) (.bool true));have Z0:=hi9 z0;clear M0 b0 z0;go_enter Tryz.func62,Tryz.ntmps62;go_wp2_with fail;refine(C1.out _).mono ?_;rintro e w1 ⟨A,c,E,rfl,hpos,hints,hb1⟩;have hg:w.heap.size<w1.heap.size:=by have:=hb1.size;have:=Z0.out;simp at *;omega
 have M2:=hi9 (M1.out.keep hb1 (by have:=Z0.out;simp;omega));have B1:=hi9 (B0.out.trans (hb1.mono (by have:=Z0.out;simp;omega)));have Pos1:=hi9 hpos;have Ints1:=hi9 hints;have EL:=hi9 (hpos.1);have el:E.length≤60:=by have:=EL.out;have:=SL.out;have:=PL.out;omega
 clear hrun q1 q2 M1 B0 Z0 hpos hints hb1;go_wp2;go_loopw [9,11] (fun v k wr=>∃(t gc:Nat),k = .int .i64 ((t:Int)-1)∧t≤E.length∧v = .slice (some ⟨gc,0,none⟩) (s.size+1) (s.size+1)∧Hid (zaD wr gc (s.size+1) (fun m=>zX (P.drop t) (s.data.toList.drop m)))∧Hid (Below w1.heap.size w1 wr)) (fun _ k _=>(intOf k+1).toNat)
 case atStart =>
  refine⟨E.length,w.heap.size,rfl,Nat.le_refl _,rfl,?_,Below.refl _ _⟩;obtain⟨cs,e1,e2,e3⟩:=M2.out;exact⟨cs,e1,e2,fun k hk=>by rw [e3 k hk];show some (Value.bool (decide (k=s.size)))=some (Value.bool (zX (P.drop E.length) (s.data.toList.drop k)));rw [zqj EL.out (by rw [HS.out];omega),HS.out]⟩
 case round =>
  obtain⟨t,gc,rfl,ht,rfl,K,B⟩:=hrel
  cases t with
  | zero =>
   have KC:=K.out.cell (k:=0) (by omega)
   simp only [List.drop_zero] at KC
   clear M2 MK
   go_wp2
   go_ret
   exact⟨rfl,B1.out.trans (B.out.mono B1.out.size)⟩
  | succ t =>
   rw [show(((t+1:Nat):Int)-1)=(t:Int) by omega]
   obtain⟨wo,rfl⟩:∃wo:World,wo=wr:=⟨_,rfl⟩
   have hte:t<E.length:=by omega
   have htp:t<P.length:=by rw [←EL.out];exact hte
   obtain⟨ad,rfl,hc⟩:=Ints1.out t E[t] (List.getElem?_eq_getElem hte)
   obtain⟨hel,hsx⟩:=Pos1.out.2 t E[t] P[t] (List.getElem?_eq_getElem hte) (List.getElem?_eq_getElem htp)
   rw [PL.out] at hel
   have hcw:=B.out.cell (block_lt_of_cell hc)
   rw [hc] at hcw
   have hgc:=K.out.lt
   obtain⟨w2,hrun,N0,b2,z2⟩:=MK.out wo
   have K1:=hi9 (K.out.keep b2 hgc)
   have N1:=hi9 (show zaD w2 wo.heap.size (s.size+1) (Row P s.data.toList t (s.size+1)) by
    obtain⟨cs,e1,e2,e3⟩:=N0
    exact⟨cs,e1,e2,fun k hk=>by rw [e3 k hk,zlT _ _ _ _ _ hk]⟩)
   have hB:=B.out.size
   have B2:=hi9 (B.out.trans (b2.mono hB))
   have Z2:=hi9 z2
   have C2e:=hi9 (fun w=>C2.out E[t] w hel)
   have HX:=hi9 hsx
   clear M2 MK C2 hc K N0 b2 z2 hsx
   generalize E[t]=e at *
   go_wp2
   clear hrun hcw
   go_loopw [14] (fun m wr2=>∃u:Nat,m = .int .i64 ((u:Int)-1)∧u≤s.size+1∧Hid (zaD wr2 wo.heap.size (s.size+1) (Row P s.data.toList t u))∧Hid (zaD wr2 gc (s.size+1) (fun m=>zX (P.drop (t+1)) (s.data.toList.drop m)))∧Hid (Below w1.heap.size w1 wr2)) (fun m _=>(intOf m+1).toNat)
   case atStart=>exact⟨s.size+1,by go_num,Nat.le_refl _,N1,K1,B2⟩
   case round =>
    obtain⟨u,rfl,hu,N,K,B⟩:=hrel
    cases u with
    | zero =>
     have N2:=hi9 (show zaD wr wo.heap.size (s.size+1) (fun m=>zX (P.drop t) (s.data.toList.drop m)) by
      obtain⟨cs,e1,e2,e3⟩:=N.out
      exact⟨cs,e1,e2,fun k hk=>by rw [e3 k hk,zsw]⟩)
     clear N K
     go_wp2
     go_roundw
     case rel=>exact⟨t,wo.heap.size,rfl,by omega,rfl,N2,B⟩
     case measure=>(simp [intOf] <;> omega)
    | succ u =>
     rw [show(((u+1:Nat):Int)-1)=(u:Int) by omega]
     have c1:=K.out.cell (k:=u) (by omega)
     have c2:=N.out.cell (k:=u) (by omega)
     have f2:=N.out.frozen u
     rcases hx:P[t] with _|b
     ·have h42:=(zgw hel).1 (HX.out.trans hx)
      by_cases hun:u<s.size
      ·have c3:=N.out.cell (k:=u+1) (by omega);have hval:zX (P.drop t) (s.data.toList.drop u)=(zX (P.drop (t+1)) (s.data.toList.drop u)|| zX (P.drop t) (s.data.toList.drop (u+1))):=by
        rw [zmD htp hx (by rw [HS.out];omega)];simp [HS.out,hun]
       have hr:Row P s.data.toList t (u+1) (u+1)=zX (P.drop t) (s.data.toList.drop (u+1)):=by unfold Row;simp
       rw [hr] at c3;clear hx hr;generalize hv1:zX (P.drop (t+1)) (s.data.toList.drop u)=v1 at *;generalize hv2:zX (P.drop t) (s.data.toList.drop (u+1))=v2 at *;clear hv1 hv2;generalize Row P s.data.toList t (u+1) u=v0 at *;have N2:=hi9 (N.out.set (f':=Row P s.data.toList t u) u (v1 || v2) (fun k _=>zdm hval k));have K2:=hi9 (K.out.other (a:=⟨wo.heap.size,u,none⟩) (by simp;omega) (.bool (v1 || v2)));have B3:=hi9 (B.out.setCell (p:=⟨wo.heap.size,u,none⟩) hB (.bool (v1 || v2)));clear N K B hval;cases v1 <;> cases v2
       all_goals
        go_wp2;go_roundw
        case rel=>exact⟨u,rfl,by omega,N2,K2,B3⟩
        case measure=>(simp [intOf] <;> omega)
      ·obtain rfl:u=s.size:=by omega
       have hval:zX (P.drop t) (s.data.toList.drop s.size)=zX (P.drop (t+1)) (s.data.toList.drop s.size):=by
        rw [zmD htp hx (by rw [HS.out];omega)];simp [HS.out]
       clear hx;generalize hv1:zX (P.drop (t+1)) (s.data.toList.drop s.size)=v1 at *;clear hv1;generalize Row P s.data.toList t (s.size+1) s.size=v0 at *;have N2:=hi9 (N.out.set (f':=Row P s.data.toList t s.size) s.size (v1) (fun k _=>zdm hval k));have K2:=hi9 (K.out.other (a:=⟨wo.heap.size,s.size,none⟩) (by simp;omega) (.bool (v1)));have B3:=hi9 (B.out.setCell (p:=⟨wo.heap.size,s.size,none⟩) hB (.bool (v1)));clear N K B hval;cases v1
       all_goals
        go_wp2;go_roundw
        case rel=>exact⟨s.size,rfl,by omega,N2,K2,B3⟩
        case measure=>(simp [intOf] <;> omega)
     ·have h42:((p[e].toNat:Int)==42)=false:=beq_eq_false_iff_ne.2 (fun q=>by
       have:=(zgw hel).2 q
       rw [HX.out,hx] at this;cases this)
      by_cases hun:u<s.size
      ·have c3:=K.out.cell (k:=u+1) (by omega)
       have hun':u<s.data.toList.length:=by rw [HS.out];exact hun
       have hval:zX (P.drop t) (s.data.toList.drop u)=(((s[u].toNat:Int)==(b.toNat:Int))&& zX (P.drop (t+1)) (s.data.toList.drop (u+1))):=by
        rw [zsE htp hx hun'];congr 1;have e0:s.data.toList[u]=s[u]:=rfl;rw [e0,Bool.eq_iff_iff,beq_iff_eq,beq_iff_eq];exact⟨fun q=>by rw [q],fun q=>UInt8.toNat_inj.1 (by omega)⟩
       have hbv:=zlr hel (HX.out.trans hx);rw [hbv] at hval;clear hx hbv;generalize hv2:zX (P.drop (t+1)) (s.data.toList.drop (u+1))=v2 at *;clear hv2;generalize Row P s.data.toList t (u+1) u=v0 at *;generalize zX (P.drop (t+1)) (s.data.toList.drop u)=v3 at *;rcases hst:zaL p e with _|_
       ·rw [hst] at C2e hval;rw [if_neg (by decide)] at hval;clear hst;by_cases heq:(s[u].toNat:Int)=(p[e].toNat:Int)
        ·rw [beq_iff_eq.2 heq,Bool.true_and] at hval;have heq':=beq_iff_eq.2 heq;clear heq;have N2:=hi9 (N.out.set (f':=Row P s.data.toList t u) u (v2) (fun k _=>zdm hval k));have K2:=hi9 (K.out.other (a:=⟨wo.heap.size,u,none⟩) (by simp;omega) (.bool (v2)));have B3:=hi9 (B.out.setCell (p:=⟨wo.heap.size,u,none⟩) hB (.bool (v2)));clear N K B hval;go_wp2_with (go_at_call 104;refine(C2e.out _).mono ?_;rintro e' w' ⟨rfl,rfl⟩);go_roundw
         case rel=>exact⟨u,rfl,by omega,N2,K2,B3⟩
         case measure=>(simp [intOf] <;> omega)
        ·rw [beq_eq_false_iff_ne.2 heq,Bool.false_and] at hval;have heq':=beq_eq_false_iff_ne.2 heq;clear heq;have N2:=hi9 (N.out.set (f':=Row P s.data.toList t u) u (false) (fun k _=>zdm hval k));have K2:=hi9 (K.out.other (a:=⟨wo.heap.size,u,none⟩) (by simp;omega) (.bool (false)));have B3:=hi9 (B.out.setCell (p:=⟨wo.heap.size,u,none⟩) hB (.bool (false)));clear N K B hval;go_wp2_with (go_at_call 104;refine(C2e.out _).mono ?_;rintro e' w' ⟨rfl,rfl⟩);go_roundw
         case rel=>exact⟨u,rfl,by omega,N2,K2,B3⟩
         case measure=>(simp [intOf] <;> omega)
       ·rw [hst] at C2e hval;rw [if_pos rfl] at hval;clear hst;by_cases heq:(s[u].toNat:Int)=42
        ·rw [beq_iff_eq.2 heq,Bool.true_and] at hval;have heq':=beq_iff_eq.2 heq;clear heq;have N2:=hi9 (N.out.set (f':=Row P s.data.toList t u) u (v2) (fun k _=>zdm hval k));have K2:=hi9 (K.out.other (a:=⟨wo.heap.size,u,none⟩) (by simp;omega) (.bool (v2)));have B3:=hi9 (B.out.setCell (p:=⟨wo.heap.size,u,none⟩) hB (.bool (v2)));clear N K B hval;go_wp2_with (go_at_call 104;refine(C2e.out _).mono ?_;rintro e' w' ⟨rfl,rfl⟩);go_roundw
         case rel=>exact⟨u,rfl,by omega,N2,K2,B3⟩
         case measure=>(simp [intOf] <;> omega)
        ·rw [beq_eq_false_iff_ne.2 heq,Bool.false_and] at hval;have heq':=beq_eq_false_iff_ne.2 heq;clear heq;have N2:=hi9 (N.out.set (f':=Row P s.data.toList t u) u (false) (fun k _=>zdm hval k));have K2:=hi9 (K.out.other (a:=⟨wo.heap.size,u,none⟩) (by simp;omega) (.bool (false)));have B3:=hi9 (B.out.setCell (p:=⟨wo.heap.size,u,none⟩) hB (.bool (false)));clear N K B hval;go_wp2_with (go_at_call 104;refine(C2e.out _).mono ?_;rintro e' w' ⟨rfl,rfl⟩);go_roundw
         case rel=>exact⟨u,rfl,by omega,N2,K2,B3⟩
         case measure=>(simp [intOf] <;> omega)
      ·obtain rfl:u=s.size:=by omega
       have hval:zX (P.drop t) (s.data.toList.drop s.size)=false:=zrM htp hx (by rw [HS.out];omega);have N2:=hi9 (show zaD wr wo.heap.size (s.size+1) (Row P s.data.toList t s.size) by
        obtain⟨cs,e1,e2,e3⟩:=N.out
        refine⟨cs,e1,e2,fun k hk=>?_⟩
        rw [e3 k hk,zdm hval k]
        by_cases ek:k=s.size
        ·rw [if_pos ek,zlT _ _ _ _ _ hk]
        ·rw [if_neg ek])
       clear hx hval N;go_wp2;go_roundw
       case rel=>exact⟨s.size,rfl,by omega,N2,K,B⟩
       case measure=>(simp [intOf] <;> omega)
end Go.Proofs.YtkfgabdnppmglaaGreatDoor
