/-
  byteStringReplacer's Replace at the table of quotes. name.Quote: a text between quotes. strings.Builder: WriteByte, WriteString, String: the library's ..
-/
import Derived.Deep.RegionLaw
import Derived.Laws.CopyOwn
import Derived.Shelf.Strings.Builder1
import Derived.Shelf.Strings.BuilderK
import Derived.Shelf.Strings.BuilderCap
import Derived.Shelf.Lay
import Derived.Shelf.Vars
import Derived.DeepKeys4
import Derived.Maps.Own
import Derived.Maps.OwnOps
import Derived.Maps.OwnSet
import Derived.Maps.Views
import Derived.SizedLaws
import Derived.Test.YtjcdeikbghjpkaaGreatDoorProg
import Derived.Test.YtjcdeikbghjpkaaGreatDoorQ6
import Derived.Test.YtjcdeikbghjpkaaGreatDoorQ7
import Derived.Test.YtjcdeikbghjpkaaGreatDoorQ8
import Derived.Test.YtjcdeikbghjpkaaGreatDoorQ15
import Derived.Test.YtjcdeikbghjpkaaGreatDoorQ16
import Derived.Test.YtjcdeikbghjpkaaGreatDoorQ17
import Derived.Test.YtjcdeikbghjpkaaGreatDoorQ18
import Derived.Test.YtjcdeikbghjpkaaGreatDoorQ20
set_option maxRecDepth 100000
set_option maxHeartbeats 4000000
namespace Go.Proofs.YtjcdeikbghjpkaaGreatDoor
open Go.RowKit Go.Wk
def zed(l:List UInt8):Nat:=l.count 34+l.count 92
theorem zrY(l:List UInt8):zed l≤2*l.length:=by
 have h1:=List.count_le_length (a:=(34:UInt8)) (l:=l);have h2:=List.count_le_length (a:=(92:UInt8)) (l:=l);unfold zed;omega
theorem zo9(s:ByteArray){k:Nat}(h:k<s.size):zed (s.data.toList.take (k+1))=zed (s.data.toList.take k)+if s[k].toNat=34∨s[k].toNat=92 then 1 else 0:=by
 have h':k<s.data.toList.length:=by simpa using h
 have e:s.data.toList.take (k+1)=s.data.toList.take k ++ [s[k]]:=by rw [List.take_succ_eq_append_getElem h'];rfl
 have t34:s[k]=34↔s[k].toNat=34:=⟨fun e=>by rw [e];rfl,fun e=>UInt8.toNat_inj.1 e⟩
 have t92:s[k]=92↔s[k].toNat=92:=⟨fun e=>by rw [e];rfl,fun e=>UInt8.toNat_inj.1 e⟩
 unfold zed;rw [e,List.count_append,List.count_append,List.count_singleton,List.count_singleton];by_cases h1:s[k]=34
 ·have:s[k].toNat=34:=t34.1 h1;simp [h1];omega
 ·by_cases h2:s[k]=92
  ·simp [h2];omega
  ·have n1:s[k].toNat≠34:=fun e=>h1 (t34.2 e);have n2:s[k].toNat≠92:=fun e=>h2 (t92.2 e);simp [h1,h2,n1,n2]
theorem zsv:(Tryz.prog.info? 5).map (fun i=>(i.zero,i.size,i.bytes))=some (some (.int .u8 0),1,1):=by kernel_rfl
theorem zbl(w:World)(a:Option Addr)(l c:Nat):(binOp .neq 117 (.slice a l c) (.slice none 0 0)).run Tryz.prog w = .ok (.bool (!a.isNone)) w :=
 run_neq_slice_nil (P:=Tryz.prog) w 117 5 a l c Tryz.underlying117
def zcW(w:World)(g:Nat)(cur:List Value):Prop:=w.heap[g]?=some (.cells cur.toArray 5 (0,0))
theorem znP{w:World}{B g n:Nat}{xs:List Value}(h:w.ownsRow B 5 1 (.slice (some ⟨g,0,none⟩) n n) n xs):∃cur,zcW w g cur∧cur.length=n:=by
 rcases h.2 with ⟨h0,_⟩|⟨g',cap,cur,h1,h2,h3,h4,h5,h6⟩
 ·cases h0
 ·injection h1 with h1 _ h1c;injection h1 with h1;injection h1 with h1;subst h1 h1c;exact⟨cur.toList,by unfold zcW;simpa using h3,by simp;omega⟩
theorem zcW.cell{w:World}{g:Nat}{cur:List Value}(h:zcW w g cur){m:Nat}{v:Value}(hm:cur[m]?=some v):w.cell? ⟨g,m,none⟩=some v:=zx h (by simpa using hm)
theorem zcW.thaw{w:World}{g:Nat}{cur:List Value}(h:zcW w g cur)(m:Nat):w.frozen? ⟨g,m,none⟩=false:=by
 unfold zcW at h;unfold World.frozen?;rw [h];simp
theorem zcW.set{w:World}{g:Nat}{cur:List Value}(h:zcW w g cur)(m:Nat)(v:Value):zcW (w.setCell ⟨g,m,none⟩ v) g (cur.set m v):=by
 unfold zcW;rw [setCell_eq_setRow w g m _ _ _ v h,setRow_heap w g _ _ _ _ h];simp
theorem zms{α:Type}{l:List α}{m:Nat}(h:m<l.length)(v:α):(l.set m v).take (m+1)=l.take m ++ [v]:=by
 rw [List.take_succ_eq_append_getElem (by simpa using h),List.getElem_set_self,List.take_set];congr 1;exact List.set_eq_of_length_le (by simp;omega)
theorem zcR{α:Type}(l:List α)(m:Nat)(cs:List α)(h:m+cs.length≤l.length):(splice l m cs).take (m+cs.length)=l.take m ++ cs:=by
 unfold splice;rw [←List.append_assoc,List.take_left' (by simp;omega)]
def zdj(l:List UInt8):List Value:=l.map fun b => .int .u8 (b.toNat:Int)
theorem zaW(a b:List UInt8):zdj (a ++ b)=zdj a ++ zdj b:=List.map_append
theorem zlp(s:ByteArray){k:Nat}(h:k<s.size):quo (s.data.toList.take (k+1))=quo (s.data.toList.take k)++ if s[k].toNat=34∨s[k].toNat=92 then [92,s[k]] else [s[k]]:=by
 have h':k<s.data.toList.length:=by simpa using h
 have e:s.data.toList.take (k+1)=s.data.toList.take k ++ [s[k]]:=by rw [List.take_succ_eq_append_getElem h'];rfl
 have t34:s[k]=34↔s[k].toNat=34:=⟨fun e=>by rw [e];rfl,fun e=>UInt8.toNat_inj.1 e⟩
 have t92:s[k]=92↔s[k].toNat=92:=⟨fun e=>by rw [e];rfl,fun e=>UInt8.toNat_inj.1 e⟩
 rw [e,zid];congr 1;by_cases h1:s[k]=34∨s[k]=92
 ·rw [quo,if_pos h1,if_pos (h1.imp t34.1 t92.1)];rfl
 ·rw [quo,if_neg h1,if_neg (fun e=>h1 (e.imp t34.2 t92.2))];rfl
theorem zgS(l:List UInt8)(k:Nat):(quo (l.take k)).length≤(quo l).length:=by
 conv=>rhs;rw [←List.take_append_drop k l,zid]
 simp
theorem zhT(w:World)(g:Nat)(s:ByteArray)(h:zcW w g (zdj (quo s.data.toList))):
 (convert 117 9 (.slice (some ⟨g,0,none⟩) (quo s.data.toList).length (quo s.data.toList).length)).run Tryz.prog w = .ok (.string (zbc (quo s.data.toList))) w :=
 run_convert_bytes_back (P:=Tryz.prog) _ 117 9 5 ⟨g,0,none⟩ _ (quo s.data.toList) Tryz.underlying117 Tryz.underlying5 Tryz.underlying9 (fun j hj=>by
  have e:(⟨g,0,none⟩:Addr).add j=⟨g,j,none⟩:=by unfold Addr.add;split <;> simp_all
  rw [e]
  refine h.cell ?_
  unfold zdj
  rw [List.getElem?_map,List.getElem?_eq_getElem hj];rfl)
theorem zho{w w':World}{P:Nat}{x y:Value}(hb:Below w.heap.size w w')(h:w.cell? ⟨P,0,none⟩=some x∧w.cell? ⟨P,1,none⟩=some y):∀j v,[x,y][j]?=some v→w'.cell? ((⟨P,0,none⟩:Addr).add j)=some v:=by
 intro j v hv;rcases j with _|_|j
 ·simp at hv;subst hv;exact zb hb h.1
 ·simp at hv;subst hv;exact zb hb (by simpa [Addr.add] using h.2)
 ·simp at hv
theorem zrE(X T c:Nat)(f:Nat→Value)(s:ByteArray)(w:World)(R:zdZ w X f T c)(hs:s.size≤60):
 Calls Tryz.prog 233 #[.pointer (some ⟨X,0,none⟩),.string s] w fun e w'=>e = .returned (.string (zbc (quo s.data.toList)))∧Below w.heap.size w w':=by
 obtain⟨i0,hi,hz0,hz1,hz2⟩:=info_parts zsv;have HR:=hi9 R;have c0:=R.tab.last;have hl:=zgW s;have n34:=List.count_le_length (a:=(34:UInt8)) (l:=s.data.toList);have n92:=List.count_le_length (a:=(92:UInt8)) (l:=s.data.toList);rw [hl] at n34 n92;have K34:=hi9 (fun w=>Tryz.strings_Count_one s 34 w);have K92:=hi9 (fun w=>Tryz.strings_Count_one s 92 w);have EQ:=hi9 (show zed s.data.toList=s.data.toList.count 34+s.data.toList.count 92 from rfl);unfold Lib.countByte at K34 K92;generalize s.data.toList.count 34=a34 at *;generalize s.data.toList.count 92=a92 at *;obtain⟨P,d,ep,qp⟩:=R.q;obtain⟨Q,d',eq,qq⟩:=R.s;have QP:=hi9 qp;have QQ:=hi9 qq;clear qp qq;have p34:=R.tab.at_ 34 (by decide);have p92:=R.tab.at_ 92 (by decide);rw [ep] at p34;rw [eq] at p92;have P34:=hi9 p34;have P92:=hi9 p92;clear R p34 p92 ep eq;go_enter Tryz.func233,Tryz.ntmps233;by_cases h16:16≤s.size
 ·have hd:decide ((16:Int)≤(s.size:Int))=true:=decide_eq_true (by omega);go_wp2_with fail;clear c0;go_loopw [5,6,8,9,32] (fun m y _ _ i wr=>((i = .int .i64 0∧m = .int .i64 s.size∧y = .bool false)∨(i = .int .i64 1∧m = .int .i64 ((s.size+a34:Nat):Int)∧y = .bool (decide (a34≠0)))∨(i = .int .i64 2∧m = .int .i64 ((s.size+(a34+a92):Nat):Int)∧y = .bool (decide (a34+a92≠0))))∧Hid (Below w.heap.size w wr)) (fun _ _ _ _ i _=>2-(intOf i).toNat)
  case atStart=>exact⟨.inl ⟨rfl,rfl,rfl⟩,Below.refl _ _⟩
  case round =>
   obtain⟨hk,hB⟩:=hrel;have R1:=hi9 (HR.out.keep hB.out);have r0:=R1.out.t0;have r1:=R1.out.t1;have q34:((⟨#[34]⟩:ByteArray)[0]'(by decide)).toNat=34:=rfl;have q92:((⟨#[92]⟩:ByteArray)[0]'(by decide)).toNat=92:=rfl;have p34:=zb hB.out P34.out;have p92:=zb hB.out P92.out;rcases hk with ⟨rfl,rfl,rfl⟩|⟨rfl,rfl,rfl⟩|⟨rfl,rfl,rfl⟩
   ·go_wp2_with fail;refine(K34.out wr).mono ?_;rintro e w1 ⟨rfl,rfl⟩;rcases a34 with _|a
    ·go_wp2_with fail;go_roundw
     case rel=>exact⟨.inr (.inl ⟨rfl,rfl,rfl⟩),hB⟩
     case measure=>simp [intOf]
    ·go_wp2_with fail;have k34:=cell_regrown p34;refine wp_region_quiet_below (by kernel_rfl) (by kernel_rfl) ?_
     repeat (first|go_big_quiet_step (fail)|quiet_step (fail))
     refine wpQuiet_nil ?_;intro w2 hw';have B2:=hi9 (show Below w1.heap.size w1 w2 by obtain⟨⟨d,os⟩,rfl⟩:=hw';exact below_regrown _ _ _);clear hw';have BX:=zhL hB B2 (Nat.le_refl _);clear k34 hB B2 R1 r0 r1 p34 p92;go_wp2_with fail;go_roundw
     case rel=>exact⟨.inr (.inl ⟨rfl,by go_num,rfl⟩),BX⟩
     case measure=>simp [intOf]
   ·go_wp2_with fail;refine(K92.out wr).mono ?_;rintro e w1 ⟨rfl,rfl⟩;rcases a92 with _|a
    ·go_wp2_with fail;go_roundw
     case rel=>exact⟨.inr (.inr ⟨rfl,by simp,by simp⟩),hB⟩
     case measure=>simp [intOf]
    ·go_wp2_with fail;have k92:=cell_regrown p92;refine wp_region_quiet_below (by kernel_rfl) (by kernel_rfl) ?_
     repeat (first|go_big_quiet_step (fail)|quiet_step (fail))
     refine wpQuiet_nil ?_;intro w2 hw';have B2:=hi9 (show Below w1.heap.size w1 w2 by obtain⟨⟨d,os⟩,rfl⟩:=hw';exact below_regrown _ _ _);clear hw';have BX:=zhL hB B2 (Nat.le_refl _);clear k92 hB B2 R1 r0 r1 p34 p92;go_wp2_with fail;go_roundw
     case rel=>exact⟨.inr (.inr ⟨rfl,by go_num,by simp⟩),BX⟩
     case measure=>simp [intOf]
   ·have HQ:=EQ;clear K34 K92 R1 r0 r1 p34 p92 n34 n92;generalize a34+a92=q at *;rcases q with _|q
    ·have e0:decide ((0:Nat)≠0)=false:=rfl;rw [e0];have Z:=hi9 (show quo s.data.toList=s.data.toList from zlg (by have:=HQ.out;unfold zed at this;omega) (by have:=HQ.out;unfold zed at this;omega));go_wp2_with fail;go_ret;exact⟨by rw [Z.out,zia];rfl,hB.out⟩
    ·have e0:decide (q+1≠0)=true:=decide_eq_true (by omega);rw [e0];have hn:(quo s.data.toList).length=s.size+(q+1):=by rw [zjC,hl];have:=HQ.out;unfold zed at this;omega
     generalize s.size+(q+1)=n at *;have hn2:=(zfb s.data.toList).2;rw [hn,hl] at hn2;have hn120:n≤120:=by omega
     have HN:=hi9 hn;have hsz:=hB.out.size;clear hn hn2 e0;go_wp2_with (at_make;refine wpList_make_full _ rfl _ _ 117 rfl w.heap.size 5 i0 (.int .u8 0) 1 Tryz.underlying117 hi hz0 hz1 .i64 .i64 _ _ n rfl rfl rfl rfl (by rw [hz2];omega) (by unfold maxLen;omega) hsz ?_;intro w0 hown0 hgrow0);obtain⟨cur0,BF0,hcl0⟩:=znP hown0;have B0:=hi9 (hB.out.trans ((zdy hgrow0).mono hsz));have GB:=hi9 (show w.heap.size≤wr.heap.size from hsz);generalize wr.heap.size=g at *;clear hown0 hgrow0 hsz hB;go_wp2_with fail;go_loopw [13,14,15] (fun j i _ wr=>∃(k m:Nat) (cur:List Value),k≤s.size∧i = .int .i64 k∧j = .int .i64 m∧Hid (m=(quo (s.data.toList.take k)).length)∧Hid (zcW wr g cur)∧cur.length=n∧Hid (cur.take m=zdj (quo (s.data.toList.take k)))∧Hid (Below w.heap.size w wr)) (fun _ i _ _=>s.size-(intOf i).toNat)
     case atStart=>exact⟨0,0,cur0,Nat.zero_le _,rfl,rfl,rfl,BF0,hcl0,rfl,B0⟩
     case round =>
      obtain⟨k,m,cur,hk,rfl,rfl,hm,hBF,hcl,hcv,hB⟩:=hrel;by_cases hlt:k<s.size
      ·have hst:=zlp s hlt;have hle:=zgS s.data.toList (k+1);rw [HN.out] at hle;have hb:s[k].toNat<256:=UInt8.toNat_lt _;have R1:=hi9 (HR.out.keep hB.out);have p34:=zb hB.out P34.out;have p92:=zb hB.out P92.out;have nq:=zbl;by_cases h34:s[k].toNat=34
       ·rw [if_pos (.inl h34)] at hst;have HST:=hi9 hst;rw [hst,List.length_append,←hm.out] at hle;simp only [List.length_cons,List.length_nil] at hle;clear hst;go_wp2_with fail;have hs2:=zho hB.out QP.out;have e1:m≤n:=by omega
        have e2:¬n=m:=by omega
        have e3:(m:Int)≤(n:Int):=by omega
        go_region_law (refine step_copy_splice rfl (.tmp 105) (.tmp 111) 117 117 rfl 5 Tryz.underlying117 (by kernel_rfl) (some ⟨g,m,none⟩) (some ⟨P,0,none⟩) (n-m) (n-m) 2 d (by simp [Act.eval]) (by simp [Act.eval]) g m cur 5 hBF.out [.int .u8 92,.int .u8 34] (by simp [Nat.min_def];omega) (fun _=>⟨rfl,_,rfl,hs2⟩) (by simp;omega) (by intro v hv;simp at hv;rcases hv with rfl|rfl <;> rfl) w.heap.size w hB.out.drew GB.out ?_;intro w4 hg4 hb4);go_wp2_with fail;go_roundw
        case rel=>exact⟨k+1,m+2,_,by omega,by go_num,by go_num,hi9 (by rw [HST.out,List.length_append,←hm.out];rfl),hg4,(length_splice _ _ _ (by simp;omega)).trans hcl,hi9 ((zcR cur m [.int .u8 92,.int .u8 34] (by simp;omega)).trans (by rw [HST.out,zaW,hcv.out];simp [zdj,h34])),hb4⟩
        case measure=>simp [intOf];omega
       ·by_cases h92:s[k].toNat=92
        ·rw [if_pos (.inr h92)] at hst;have HST:=hi9 hst;rw [hst,List.length_append,←hm.out] at hle;simp only [List.length_cons,List.length_nil] at hle;clear hst;go_wp2_with fail;have hs2:=zho hB.out QQ.out;have e1:m≤n:=by omega
         have e2:¬n=m:=by omega
         have e3:(m:Int)≤(n:Int):=by omega
         go_region_law (refine step_copy_splice rfl (.tmp 105) (.tmp 111) 117 117 rfl 5 Tryz.underlying117 (by kernel_rfl) (some ⟨g,m,none⟩) (some ⟨Q,0,none⟩) (n-m) (n-m) 2 d' (by simp [Act.eval]) (by simp [Act.eval]) g m cur 5 hBF.out [.int .u8 92,.int .u8 92] (by simp [Nat.min_def];omega) (fun _=>⟨rfl,_,rfl,hs2⟩) (by simp;omega) (by intro v hv;simp at hv;rcases hv with rfl|rfl <;> rfl) w.heap.size w hB.out.drew GB.out ?_;intro w4 hg4 hb4);go_wp2_with fail;go_roundw
         case rel=>exact⟨k+1,m+2,_,by omega,by go_num,by go_num,hi9 (by rw [HST.out,List.length_append,←hm.out];rfl),hg4,(length_splice _ _ _ (by simp;omega)).trans hcl,hi9 ((zcR cur m [.int .u8 92,.int .u8 92] (by simp;omega)).trans (by rw [HST.out,zaW,hcv.out];simp [zdj,h92])),hb4⟩
         case measure=>simp [intOf];omega
        ·rw [if_neg (fun e=>e.elim h34 h92)] at hst;have HST:=hi9 hst;rw [hst,List.length_append,←hm.out] at hle;simp only [List.length_cons,List.length_nil] at hle;have pn:=R1.out.tab.at_ s[k].toNat hb;rw [R1.out.o _ h34 h92] at pn;have e1:m<n:=by omega
         have e3:(m:Int)<(n:Int):=by omega
         have hml:m<cur.length:=by omega
         have d0:=hBF.out.cell (List.getElem?_eq_getElem hml);have d1:=hBF.out.thaw m;clear hst;go_wp2_with fail;go_roundw
         case rel=>exact⟨k+1,m+1,_,by omega,by go_num,by go_num,hi9 (by rw [HST.out,List.length_append,←hm.out];rfl),hi9 (hBF.out.set m _),by simpa using hcl,hi9 ((zms hml _).trans (by rw [HST.out,zaW,hcv.out];rfl)),hB.out.setCell (p:=⟨g,m,none⟩) GB.out _⟩
         case measure=>simp [intOf];omega
      ·have ek:s.data.toList.take k=s.data.toList:=List.take_of_length_le (by omega);rw [ek] at hm hcv;have hlm:cur.length≤m:=by rw [hcl,hm.out,HN.out];exact Nat.le_refl _
       have hcv2:cur=zdj (quo s.data.toList):=by
        have:=hcv.out;rwa [List.take_of_length_le hlm] at this
       have hcvt:=zhT wr g s (hcv2 ▸ hBF.out);rw [HN.out] at hcvt;clear ek hm hcv hcl hcv2;go_wp2_with fail;go_ret;exact⟨rfl,hB.out⟩
 ·have hd:decide ((16:Int)≤(s.size:Int))=false:=decide_eq_false (by omega);go_wp2_with fail;clear c0;go_loopw [5,6,10,11] (fun m y i _ wr=>∃k:Nat,k≤s.size∧i = .int .i64 k∧m = .int .i64 ((s.size+zed (s.data.toList.take k):Nat):Int)∧y = .bool (decide (zed (s.data.toList.take k)≠0))∧Hid (Below w.heap.size w wr)) (fun _ _ i _ _=>s.size-(intOf i).toNat)
  case atStart=>exact⟨0,Nat.zero_le _,rfl,rfl,rfl,Below.refl _ _⟩
  case round =>
   obtain⟨k,hk,rfl,rfl,rfl,hB⟩:=hrel;by_cases hlt:k<s.size
   ·have hc:=zo9 s hlt;have HC:=hi9 hc;have hcl:=zrY (s.data.toList.take k);have htl:(s.data.toList.take k).length≤k:=List.length_take_le _ _;have hb:s[k].toNat<256:=UInt8.toNat_lt _;have R1:=hi9 (HR.out.keep hB.out);have p34:=zb hB.out P34.out;have p92:=zb hB.out P92.out;have nq:=zbl;by_cases h34:s[k].toNat=34
    ·rw [if_pos (.inl h34)] at hc;go_wp2_with fail;go_roundw
     case rel=>exact⟨k+1,by omega,by go_num,by rw [HC.out,if_pos (.inl h34)];go_num,by rw [HC.out,if_pos (.inl h34)];simp,hB⟩
     case measure=>simp [intOf];omega
    ·by_cases h92:s[k].toNat=92
     ·rw [if_pos (.inr h92)] at hc;go_wp2_with fail;go_roundw
      case rel=>exact⟨k+1,by omega,by go_num,by rw [HC.out,if_pos (.inr h92)];go_num,by rw [HC.out,if_pos (.inr h92)];simp,hB⟩
      case measure=>simp [intOf];omega
     ·rw [if_neg (fun e=>e.elim h34 h92)] at hc;have pn:=R1.out.tab.at_ s[k].toNat hb;rw [R1.out.o _ h34 h92] at pn;go_wp2_with fail;go_roundw
      case rel=>exact⟨k+1,by omega,by go_num,by rw [HC.out,if_neg (fun e=>e.elim h34 h92)];rfl,by rw [HC.out,if_neg (fun e=>e.elim h34 h92)];rfl,hB⟩
      case measure=>simp [intOf];omega
   ·have HQ:=hi9 (show zed s.data.toList=zed (s.data.toList.take k) by rw [List.take_of_length_le (by omega)]);generalize zed (s.data.toList.take k)=q at *;clear K34 K92 n34 n92 EQ;rcases q with _|q
    ·have e0:decide ((0:Nat)≠0)=false:=rfl;rw [e0];have Z:=hi9 (show quo s.data.toList=s.data.toList from zlg (by have:=HQ.out;unfold zed at this;omega) (by have:=HQ.out;unfold zed at this;omega));go_wp2_with fail;go_ret;exact⟨by rw [Z.out,zia];rfl,hB.out⟩
    ·have e0:decide (q+1≠0)=true:=decide_eq_true (by omega);rw [e0];have hn:(quo s.data.toList).length=s.size+(q+1):=by rw [zjC,hl];have:=HQ.out;unfold zed at this;omega
     generalize s.size+(q+1)=n at *;have hn2:=(zfb s.data.toList).2;rw [hn,hl] at hn2;have hn120:n≤120:=by omega
     have HN:=hi9 hn;have hsz:=hB.out.size;clear hn hn2 e0;go_wp2_with (at_make;refine wpList_make_full _ rfl _ _ 117 rfl w.heap.size 5 i0 (.int .u8 0) 1 Tryz.underlying117 hi hz0 hz1 .i64 .i64 _ _ n rfl rfl rfl rfl (by rw [hz2];omega) (by unfold maxLen;omega) hsz ?_;intro w0 hown0 hgrow0);obtain⟨cur0,BF0,hcl0⟩:=znP hown0;have B0:=hi9 (hB.out.trans ((zdy hgrow0).mono hsz));have GB:=hi9 (show w.heap.size≤wr.heap.size from hsz);generalize wr.heap.size=g at *;clear hown0 hgrow0 hsz hB;go_wp2_with fail;go_loopw [13,14,15] (fun j i _ wr=>∃(k m:Nat) (cur:List Value),k≤s.size∧i = .int .i64 k∧j = .int .i64 m∧Hid (m=(quo (s.data.toList.take k)).length)∧Hid (zcW wr g cur)∧cur.length=n∧Hid (cur.take m=zdj (quo (s.data.toList.take k)))∧Hid (Below w.heap.size w wr)) (fun _ i _ _=>s.size-(intOf i).toNat)
     case atStart=>exact⟨0,0,cur0,Nat.zero_le _,rfl,rfl,rfl,BF0,hcl0,rfl,B0⟩
     case round =>
      obtain⟨k,m,cur,hk,rfl,rfl,hm,hBF,hcl,hcv,hB⟩:=hrel;by_cases hlt:k<s.size
      ·have hst:=zlp s hlt;have hle:=zgS s.data.toList (k+1);rw [HN.out] at hle;have hb:s[k].toNat<256:=UInt8.toNat_lt _;have R1:=hi9 (HR.out.keep hB.out);have p34:=zb hB.out P34.out;have p92:=zb hB.out P92.out;have nq:=zbl;by_cases h34:s[k].toNat=34
       ·rw [if_pos (.inl h34)] at hst;have HST:=hi9 hst;rw [hst,List.length_append,←hm.out] at hle;simp only [List.length_cons,List.length_nil] at hle;clear hst;go_wp2_with fail;have hs2:=zho hB.out QP.out;have e1:m≤n:=by omega
        have e2:¬n=m:=by omega
        have e3:(m:Int)≤(n:Int):=by omega
        go_region_law (refine step_copy_splice rfl (.tmp 105) (.tmp 111) 117 117 rfl 5 Tryz.underlying117 (by kernel_rfl) (some ⟨g,m,none⟩) (some ⟨P,0,none⟩) (n-m) (n-m) 2 d (by simp [Act.eval]) (by simp [Act.eval]) g m cur 5 hBF.out [.int .u8 92,.int .u8 34] (by simp [Nat.min_def];omega) (fun _=>⟨rfl,_,rfl,hs2⟩) (by simp;omega) (by intro v hv;simp at hv;rcases hv with rfl|rfl <;> rfl) w.heap.size w hB.out.drew GB.out ?_;intro w4 hg4 hb4);go_wp2_with fail;go_roundw
        case rel=>exact⟨k+1,m+2,_,by omega,by go_num,by go_num,hi9 (by rw [HST.out,List.length_append,←hm.out];rfl),hg4,(length_splice _ _ _ (by simp;omega)).trans hcl,hi9 ((zcR cur m [.int .u8 92,.int .u8 34] (by simp;omega)).trans (by rw [HST.out,zaW,hcv.out];simp [zdj,h34])),hb4⟩
        case measure=>simp [intOf];omega
       ·by_cases h92:s[k].toNat=92
        ·rw [if_pos (.inr h92)] at hst;have HST:=hi9 hst;rw [hst,List.length_append,←hm.out] at hle;simp only [List.length_cons,List.length_nil] at hle;clear hst;go_wp2_with fail;have hs2:=zho hB.out QQ.out;have e1:m≤n:=by omega
         have e2:¬n=m:=by omega
         have e3:(m:Int)≤(n:Int):=by omega
         go_region_law (refine step_copy_splice rfl (.tmp 105) (.tmp 111) 117 117 rfl 5 Tryz.underlying117 (by kernel_rfl) (some ⟨g,m,none⟩) (some ⟨Q,0,none⟩) (n-m) (n-m) 2 d' (by simp [Act.eval]) (by simp [Act.eval]) g m cur 5 hBF.out [.int .u8 92,.int .u8 92] (by simp [Nat.min_def];omega) (fun _=>⟨rfl,_,rfl,hs2⟩) (by simp;omega) (by intro v hv;simp at hv;rcases hv with rfl|rfl <;> rfl) w.heap.size w hB.out.drew GB.out ?_;intro w4 hg4 hb4);go_wp2_with fail;go_roundw
         case rel=>exact⟨k+1,m+2,_,by omega,by go_num,by go_num,hi9 (by rw [HST.out,List.length_append,←hm.out];rfl),hg4,(length_splice _ _ _ (by simp;omega)).trans hcl,hi9 ((zcR cur m [.int .u8 92,.int .u8 92] (by simp;omega)).trans (by rw [HST.out,zaW,hcv.out];simp [zdj,h92])),hb4⟩
         case measure=>simp [intOf];omega
        ·rw [if_neg (fun e=>e.elim h34 h92)] at hst;have HST:=hi9 hst;rw [hst,List.length_append,←hm.out] at hle;simp only [List.length_cons,List.length_nil] at hle;have pn:=R1.out.tab.at_ s[k].toNat hb;rw [R1.out.o _ h34 h92] at pn;have e1:m<n:=by omega
         have e3:(m:Int)<(n:Int):=by omega
         have hml:m<cur.length:=by omega
         have d0:=hBF.out.cell (List.getElem?_eq_getElem hml);have d1:=hBF.out.thaw m;clear hst;go_wp2_with fail;go_roundw
         case rel=>exact⟨k+1,m+1,_,by omega,by go_num,by go_num,hi9 (by rw [HST.out,List.length_append,←hm.out];rfl),hi9 (hBF.out.set m _),by simpa using hcl,hi9 ((zms hml _).trans (by rw [HST.out,zaW,hcv.out];rfl)),hB.out.setCell (p:=⟨g,m,none⟩) GB.out _⟩
         case measure=>simp [intOf];omega
      ·have ek:s.data.toList.take k=s.data.toList:=List.take_of_length_le (by omega);rw [ek] at hm hcv;have hlm:cur.length≤m:=by rw [hcl,hm.out,HN.out];exact Nat.le_refl _
       have hcv2:cur=zdj (quo s.data.toList):=by
        have:=hcv.out;rwa [List.take_of_length_le hlm] at this
       have hcvt:=zhT wr g s (hcv2 ▸ hBF.out);rw [HN.out] at hcvt;clear ek hm hcv hcl hcv2;go_wp2_with fail;go_ret;exact⟨rfl,hB.out⟩
theorem zkg(b G C:Nat)(s:ByteArray)(w:World)(h:zkP w b G C)(hbG:b≠G)(hs:s.size≤60):
 Calls Tryz.prog 74 #[.pointer (some ⟨b,0,none⟩),.string s] w fun e w'=>e = .returned (.string (zbc (quo s.data.toList)))∧∃w1,w.grownBy w1 (some b)∧Below w1.heap.size w1 w':=by
 have K:=hi9 (zrh b G C w h hbG);clear h;go_enter Tryz.func74,Tryz.ntmps74;go_wp2_with fail;refine(K.out).mono ?_;rintro e w1 ⟨X,f,T,c,rfl,hX,R,h3,hg⟩;have KR:=hi9 (zrE X T c f s w1 R hs);have HG:=hi9 hg;clear R hg K;go_wp2_with fail;refine(KR.out).mono ?_;rintro e w2 ⟨rfl,b2⟩;go_wp2_with fail;go_ret;exact⟨rfl,w1,HG.out,b2⟩
theorem zmN(s:ByteArray):(⟨#[34]⟩:ByteArray)++ zbc (quo s.data.toList)++⟨#[34]⟩=Wk.quoted s:=by
 refine zaD ?_;rw [zlY];simp [ByteArray.data_append,zbc]
theorem znE(s:ByteArray)(w:World)(hs:s.size≤maxLen):
 Calls Tryz.prog 39 #[.string s] w fun e w'=>e = .returned (.tuple #[.string (zss s),zao (zk s)])∧Below w.heap.size w w':=by
 have K:=hi9 (zdE s w hs);by_cases h0:zk s=0
 ·rw [h0,zM] at K;have h60:s.size≤60:=by
   unfold zk at h0;by_cases h:60<s.size
   ·rw [if_pos h] at h0;cases h0
   ·omega
  have HV:=hi9 (show zss s=Wk.quoted s from if_pos h0);rw [h0,zM,HV.out];clear h0;go_enter Tryz.func39,Tryz.ntmps39;go_wp2_with fail;refine(K.out).mono ?_;rintro e w1 ⟨rfl,b1⟩;have B1:=hi9 b1;clear b1 K;go_wp2_with fail;have T2:=hi9 (zV w1 [.string ⟨#[92]⟩,.string ⟨#[92,92]⟩,.string ⟨#[34]⟩,.string ⟨#[92,34]⟩] 9);have B2:=bh B1 (za w1 (.cells #[.string ⟨#[92]⟩,.string ⟨#[92,92]⟩,.string ⟨#[34]⟩,.string ⟨#[92,34]⟩] 9));obtain⟨w2,hw2⟩:∃w2,w1.alloc (.cells #[.string ⟨#[92]⟩,.string ⟨#[92,92]⟩,.string ⟨#[34]⟩,.string ⟨#[92,34]⟩] 9)=w2:=⟨_,rfl⟩
  have e2:w1.alloc (.cells [Value.string ⟨#[92]⟩,.string ⟨#[92,92]⟩,.string ⟨#[34]⟩,.string ⟨#[92,34]⟩].toArray 9)=w2:=hw2;rw [e2] at T2;rw [hw2] at B2 ⊢;clear hw2 e2;refine(zqw w1.heap.size w2 (by simpa [Addr.add] using T2.out 0 _ rfl) (by simpa [Addr.add] using T2.out 1 _ rfl) (by simpa [Addr.add] using T2.out 2 _ rfl) (by simpa [Addr.add] using T2.out 3 _ rfl)).mono ?_;rintro e w3 ⟨b,G,C,rfl,hN,hbG,hb,b3⟩;have B3:=bh B2 b3;have KR:=hi9 (zkg b G C s w3 hN hbG h60);have HB:=hi9 (show w.heap.size≤b from Nat.le_trans B2.out.size hb);clear T2 hN b3 B2 hb hbG B1;go_wp2_with fail;refine(KR.out).mono ?_;rintro e w4 ⟨rfl,w5,hg,b4⟩;have B4:=hi9 ((B3.out.trans (zaL hg HB.out B3.out.size)).trans (b4.mono (Nat.le_trans B3.out.size hg.size)));clear KR hg b4;have hz:(zbc (quo s.data.toList)).size≤120:=by
   rw [zkk];have:=(zfb s.data.toList).2;rw [zgW] at this;omega
  have HS:=hi9 (zmN s);generalize zbc (quo s.data.toList)=q at *;go_wp2_with fail;go_ret2;exact⟨by rw [←HS.out];rfl,B4.out⟩
 ·have HE:=hi9 (jc h0);have HV:=hi9 (show zss s=⟨#[]⟩ from if_neg h0);rw [HE.out] at K;rw [HE.out,HV.out];clear h0;go_enter Tryz.func39,Tryz.ntmps39;go_wp2_with fail;refine(K.out).mono ?_;rintro e w1 ⟨rfl,b1⟩;have B1:=hi9 b1;clear b1 K;go_wp2_with fail;go_ret2;exact⟨rfl,B1.out⟩
end Go.Proofs.YtjcdeikbghjpkaaGreatDoor
namespace Go.Proofs.YtjcdeikbghjpkaaGreatDoor
open Go.RowKit Go.Shelf
end Go.Proofs.YtjcdeikbghjpkaaGreatDoor
namespace Go.Proofs.YtjcdeikbghjpkaaGreatDoor
open Go.RowKit Go.Wk
end Go.Proofs.YtjcdeikbghjpkaaGreatDoor
namespace Go.Proofs.YtjcdeikbghjpkaaGreatDoor
open Go.RowKit
end Go.Proofs.YtjcdeikbghjpkaaGreatDoor
namespace Go.Proofs.YtjcdeikbghjpkaaGreatDoor
open Go.RowKit Go.Wk
theorem zeK(w:World)(x y:Value)(t:TypeId):(w.alloc (.cells #[x,y] t)).cell? ⟨w.heap.size,0,none⟩=some x∧(w.alloc (.cells #[x,y] t)).cell? ⟨w.heap.size,1,none⟩=some y :=
 ⟨zx (heap_alloc_last w _) rfl,zx (heap_alloc_last w _) rfl⟩
structure Vr2(w:World)(b:Nat)(x y:Value):Prop where
 c0:w.cell? ⟨b,0,none⟩=some x
 c1:w.cell? ⟨b,1,none⟩=some y
 z0:w.frozen? ⟨b,0,none⟩=false
 z1:w.frozen? ⟨b,1,none⟩=false
theorem Vr2.keep{w w':World}{b:Nat}{x y:Value}(h:Vr2 w b x y)(hb:Below w.heap.size w w'):Vr2 w' b x y :=
 have hl:=block_lt_of_cell h.c0
 ⟨zb hb h.c0,zb hb h.c1,by rw [(zar hb).2 b 0 hl];exact h.z0,by rw [(zar hb).2 b 1 hl];exact h.z1⟩
theorem zQ(w:World)(x y:Value)(t:TypeId):Vr2 (w.alloc (.cells #[x,y] t)) w.heap.size x y :=
 ⟨(zeK w x y t).1,(zeK w x y t).2,by simp,by simp⟩
theorem Vr2.set{w:World}{b:Nat}{x y:Value}(h:Vr2 w b x y)(x' y':Value):Vr2 ((w.setCell ⟨b,0,none⟩ x').setCell ⟨b,1,none⟩ y') b x' y':=by
 have h1:(w.setCell ⟨b,0,none⟩ x').cell? ⟨b,1,none⟩=some y:=(World.cell?_setCell_other _ ⟨b,0,none⟩ ⟨b,1,none⟩ _ (by intro e;injection e with _ e;cases e)).trans h.c1;refine⟨(World.cell?_setCell_other _ ⟨b,1,none⟩ ⟨b,0,none⟩ _ (by intro e;injection e with _ e;cases e)).trans (World.cell?_setCell_same _ _ _ h.c0),World.cell?_setCell_same _ _ _ h1,?_,?_⟩
 ·rw [World.frozen?_setCell,World.frozen?_setCell];exact h.z0
 ·rw [World.frozen?_setCell,World.frozen?_setCell];exact h.z1
structure En where
 u:Ud
 UA:Option Addr
 un:Nat
 uc:Nat
 ups:List Ud
 NA:Option Addr
 nn:Nat
 nc:Nat
 P:List Nd
def En.v(e:En):Value := .agg #[.string e.u.1,.string e.u.2,.slice e.UA e.un e.uc,.slice e.NA e.nn e.nc]
end Go.Proofs.YtjcdeikbghjpkaaGreatDoor
namespace Go.Proofs.YtjcdeikbghjpkaaGreatDoor
open Go.RowKit Go.Wk Go.Maps
end Go.Proofs.YtjcdeikbghjpkaaGreatDoor
namespace Go.Proofs.YtjcdeikbghjpkaaGreatDoor
open Go.Wk Go.ChangeShapes Go.WideShapes Go.RowKit
theorem zfY:Tryz.prog.cellsOf 26=1:=by kernel_rfl
end Go.Proofs.YtjcdeikbghjpkaaGreatDoor
namespace Go.Wk
open Go.ChangeShapes Go.WideShapes Go.RowKit Go.Deep
section
variable {P:Program} {w:World} {t e:TypeId}
end
end Go.Wk
namespace Go.Proofs.YtjcdeikbghjpkaaGreatDoor
open Go.Wk Go.ChangeShapes Go.WideShapes Go.RowKit
def zo5(w:World)(A:Option Addr)(N:List ByteArray):Prop:=∀(k:Nat) (x:ByteArray),N[k]?=some x→∃a,A=some a∧w.cell? (a.add k)=some (.string x)
theorem zo5.keep{w w':World}{A:Option Addr}{N:List ByteArray}(h:zo5 w A N)(hb:Below w.heap.size w w'):zo5 w' A N :=
 fun k x hk=>let ⟨a,h1,h2⟩:=h k x hk;⟨a,h1,zb hb h2⟩
end Go.Proofs.YtjcdeikbghjpkaaGreatDoor
