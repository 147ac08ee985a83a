/-
  byteStringReplacer's Replace at the table of quotes. name.Quote: a text between quotes. strings.Builder: WriteByte, WriteString, String: the library's ..
-/
import Derived.Deep.RegionLaw
import Derived.Laws.CopyOwn
import Derived.Shelf.Strings.Builder1
import Derived.Shelf.Strings.BuilderK
import Derived.Shelf.Strings.BuilderCap
import Derived.Shelf.Lay
import Derived.Shelf.Vars
import Derived.Test.YtkfgabdnppmglaaGreatDoorProg
import Derived.Test.YtkfgabdnppmglaaGreatDoorQ4
import Derived.Test.YtkfgabdnppmglaaGreatDoorQ5
import Derived.Test.YtkfgabdnppmglaaGreatDoorQ16
import Derived.Test.YtkfgabdnppmglaaGreatDoorQ17
import Derived.Test.YtkfgabdnppmglaaGreatDoorQ18
import Derived.Test.YtkfgabdnppmglaaGreatDoorQ19
import Derived.Test.YtkfgabdnppmglaaGreatDoorQ22
import Derived.Test.YtkfgabdnppmglaaGreatDoorQ24
set_option maxRecDepth 100000
set_option maxHeartbeats 4000000
namespace Go.Proofs.YtkfgabdnppmglaaGreatDoor
open Go.RowKit Go.Wk
def zd6(l:List UInt8):Nat:=l.count 34+l.count 92
theorem zub(l:List UInt8):zd6 l≤2*l.length:=by
 have h1:=List.count_le_length (a:=(34:UInt8)) (l:=l);have h2:=List.count_le_length (a:=(92:UInt8)) (l:=l);unfold zd6;omega
theorem zpJ(s:ByteArray){k:Nat}(h:k<s.size):zd6 (s.data.toList.take (k+1))=zd6 (s.data.toList.take k)+if s[k].toNat=34∨s[k].toNat=92 then 1 else 0:=by
 have h':k<s.data.toList.length:=by simpa using h
 have e:s.data.toList.take (k+1)=s.data.toList.take k ++ [s[k]]:=by rw [List.take_succ_eq_append_getElem h'];rfl
 have t34:s[k]=34↔s[k].toNat=34:=⟨fun e=>by rw [e];rfl,fun e=>UInt8.toNat_inj.1 e⟩
 have t92:s[k]=92↔s[k].toNat=92:=⟨fun e=>by rw [e];rfl,fun e=>UInt8.toNat_inj.1 e⟩
 unfold zd6;rw [e,List.count_append,List.count_append,List.count_singleton,List.count_singleton];by_cases h1:s[k]=34
 ·have:s[k].toNat=34:=t34.1 h1;simp [h1];omega
 ·by_cases h2:s[k]=92
  ·simp [h2];omega
  ·have n1:s[k].toNat≠34:=fun e=>h1 (t34.2 e);have n2:s[k].toNat≠92:=fun e=>h2 (t92.2 e);simp [h1,h2,n1,n2]
theorem zun:(Tryz.prog.info? 5).map (fun i=>(i.zero,i.size,i.bytes))=some (some (.int .u8 0),1,1):=by kernel_rfl
theorem zbp(w:World)(a:Option Addr)(l c:Nat):(binOp .neq 163 (.slice a l c) (.slice none 0 0)).run Tryz.prog w = .ok (.bool (!a.isNone)) w :=
 run_neq_slice_nil (P:=Tryz.prog) w 163 5 a l c Tryz.underlying163
def zcE(w:World)(g:Nat)(cur:List Value):Prop:=w.heap[g]?=some (.cells cur.toArray 5 (0,0))
theorem zo2{w:World}{B g n:Nat}{xs:List Value}(h:w.ownsRow B 5 1 (.slice (some ⟨g,0,none⟩) n n) n xs):∃cur,zcE w g cur∧cur.length=n:=by
 rcases h.2 with ⟨h0,_⟩|⟨g',cap,cur,h1,h2,h3,h4,h5,h6⟩
 ·cases h0
 ·injection h1 with h1 _ h1c;injection h1 with h1;injection h1 with h1;subst h1 h1c;exact⟨cur.toList,by unfold zcE;simpa using h3,by simp;omega⟩
theorem zcE.cell{w:World}{g:Nat}{cur:List Value}(h:zcE w g cur){m:Nat}{v:Value}(hm:cur[m]?=some v):w.cell? ⟨g,m,none⟩=some v:=jf h (by simpa using hm)
theorem zcE.thaw{w:World}{g:Nat}{cur:List Value}(h:zcE w g cur)(m:Nat):w.frozen? ⟨g,m,none⟩=false:=by
 unfold zcE at h;unfold World.frozen?;rw [h];simp
theorem zcE.set{w:World}{g:Nat}{cur:List Value}(h:zcE w g cur)(m:Nat)(v:Value):zcE (w.setCell ⟨g,m,none⟩ v) g (cur.set m v):=by
 unfold zcE;rw [setCell_eq_setRow w g m _ _ _ v h,setRow_heap w g _ _ _ _ h];simp
theorem zlL{α:Type}{l:List α}{m:Nat}(h:m<l.length)(v:α):(l.set m v).take (m+1)=l.take m ++ [v]:=by
 rw [List.take_succ_eq_append_getElem (by simpa using h),List.getElem_set_self,List.take_set];congr 1;exact List.set_eq_of_length_le (by simp;omega)
theorem zcG{α:Type}(l:List α)(m:Nat)(cs:List α)(h:m+cs.length≤l.length):(splice l m cs).take (m+cs.length)=l.take m ++ cs:=by
 unfold splice;rw [←List.append_assoc,List.take_left' (by simp;omega)]
def zcU(l:List UInt8):List Value:=l.map fun b => .int .u8 (b.toNat:Int)
theorem zbf(a b:List UInt8):zcU (a ++ b)=zcU a ++ zcU b:=List.map_append
theorem zl9(s:ByteArray){k:Nat}(h:k<s.size):quo (s.data.toList.take (k+1))=quo (s.data.toList.take k)++ if s[k].toNat=34∨s[k].toNat=92 then [92,s[k]] else [s[k]]:=by
 have h':k<s.data.toList.length:=by simpa using h
 have e:s.data.toList.take (k+1)=s.data.toList.take k ++ [s[k]]:=by rw [List.take_succ_eq_append_getElem h'];rfl
 have t34:s[k]=34↔s[k].toNat=34:=⟨fun e=>by rw [e];rfl,fun e=>UInt8.toNat_inj.1 e⟩
 have t92:s[k]=92↔s[k].toNat=92:=⟨fun e=>by rw [e];rfl,fun e=>UInt8.toNat_inj.1 e⟩
 rw [e,ziW];congr 1;by_cases h1:s[k]=34∨s[k]=92
 ·rw [quo,if_pos h1,if_pos (h1.imp t34.1 t92.1)];rfl
 ·rw [quo,if_neg h1,if_neg (fun e=>h1 (e.imp t34.2 t92.2))];rfl
theorem zgp(l:List UInt8)(k:Nat):(quo (l.take k)).length≤(quo l).length:=by
 conv=>rhs;rw [←List.take_append_drop k l,ziW]
 simp
theorem zhr(w:World)(g:Nat)(s:ByteArray)(h:zcE w g (zcU (quo s.data.toList))):
 (convert 163 9 (.slice (some ⟨g,0,none⟩) (quo s.data.toList).length (quo s.data.toList).length)).run Tryz.prog w = .ok (.string (zbd (quo s.data.toList))) w :=
 run_convert_bytes_back (P:=Tryz.prog) _ 163 9 5 ⟨g,0,none⟩ _ (quo s.data.toList) Tryz.underlying163 Tryz.underlying5 Tryz.underlying9 (fun j hj=>by
  have e:(⟨g,0,none⟩:Addr).add j=⟨g,j,none⟩:=by unfold Addr.add;split <;> simp_all
  rw [e]
  refine h.cell ?_
  unfold zcU
  rw [List.getElem?_map,List.getElem?_eq_getElem hj];rfl)
theorem zg6{w w':World}{P:Nat}{x y:Value}(hb:Below w.heap.size w w')(h:w.cell? ⟨P,0,none⟩=some x∧w.cell? ⟨P,1,none⟩=some y):∀j v,[x,y][j]?=some v→w'.cell? ((⟨P,0,none⟩:Addr).add j)=some v:=by
 intro j v hv;rcases j with _|_|j
 ·simp at hv;subst hv;exact za hb h.1
 ·simp at hv;subst hv;exact za hb (by simpa [Addr.add] using h.2)
 ·simp at hv
theorem ztC(X T c:Nat)(f:Nat→Value)(s:ByteArray)(w:World)(R:zdD w X f T c)(hs:s.size≤60):
 Calls Tryz.prog 281 #[.pointer (some ⟨X,0,none⟩),.string s] w fun e w'=>e = .returned (.string (zbd (quo s.data.toList)))∧Below w.heap.size w w':=by
 obtain⟨i0,hi,hz0,hz1,hz2⟩:=info_parts zun;have HR:=hi9 R;have c0:=R.tab.last;have hl:=zdV s;have n34:=List.count_le_length (a:=(34:UInt8)) (l:=s.data.toList);have n92:=List.count_le_length (a:=(92:UInt8)) (l:=s.data.toList);rw [hl] at n34 n92;have K34:=hi9 (fun w=>Tryz.strings_Count_one s 34 w);have K92:=hi9 (fun w=>Tryz.strings_Count_one s 92 w);have EQ:=hi9 (show zd6 s.data.toList=s.data.toList.count 34+s.data.toList.count 92 from rfl);unfold Lib.countByte at K34 K92;generalize s.data.toList.count 34=a34 at *;generalize s.data.toList.count 92=a92 at *;obtain⟨P,d,ep,qp⟩:=R.q;obtain⟨Q,d',eq,qq⟩:=R.s;have QP:=hi9 qp;have QQ:=hi9 qq;clear qp qq;have p34:=R.tab.at_ 34 (by decide);have p92:=R.tab.at_ 92 (by decide);rw [ep] at p34;rw [eq] at p92;have P34:=hi9 p34;have P92:=hi9 p92;clear R p34 p92 ep eq;go_enter Tryz.func281,Tryz.ntmps281;by_cases h16:16≤s.size
 ·have hd:decide ((16:Int)≤(s.size:Int))=true:=decide_eq_true (by omega);go_wp2_with fail;clear c0;go_loopw [5,6,8,9,32] (fun m y _ _ i wr=>((i = .int .i64 0∧m = .int .i64 s.size∧y = .bool false)∨(i = .int .i64 1∧m = .int .i64 ((s.size+a34:Nat):Int)∧y = .bool (decide (a34≠0)))∨(i = .int .i64 2∧m = .int .i64 ((s.size+(a34+a92):Nat):Int)∧y = .bool (decide (a34+a92≠0))))∧Hid (Below w.heap.size w wr)) (fun _ _ _ _ i _=>2-(intOf i).toNat)
  case atStart=>exact⟨.inl ⟨rfl,rfl,rfl⟩,Below.refl _ _⟩
  case round =>
   obtain⟨hk,hB⟩:=hrel;have R1:=hi9 (HR.out.keep hB.out);have r0:=R1.out.t0;have r1:=R1.out.t1;have q34:((⟨#[34]⟩:ByteArray)[0]'(by decide)).toNat=34:=rfl;have q92:((⟨#[92]⟩:ByteArray)[0]'(by decide)).toNat=92:=rfl;have p34:=za hB.out P34.out;have p92:=za hB.out P92.out;rcases hk with ⟨rfl,rfl,rfl⟩|⟨rfl,rfl,rfl⟩|⟨rfl,rfl,rfl⟩
   ·go_wp2_with fail;refine(K34.out wr).mono ?_;rintro e w1 ⟨rfl,rfl⟩;rcases a34 with _|a
    ·go_wp2_with fail;go_roundw
     case rel=>exact⟨.inr (.inl ⟨rfl,rfl,rfl⟩),hB⟩
     case measure=>simp [intOf]
    ·go_wp2_with fail;have k34:=cell_regrown p34;refine wp_region_quiet_below (by kernel_rfl) (by kernel_rfl) ?_
     repeat (first|go_big_quiet_step (fail)|quiet_step (fail))
     refine wpQuiet_nil ?_;intro w2 hw';have B2:=hi9 (show Below w1.heap.size w1 w2 by obtain⟨⟨d,os⟩,rfl⟩:=hw';exact below_regrown _ _ _);clear hw';have BX:=j2 hB B2 (Nat.le_refl _);clear k34 hB B2 R1 r0 r1 p34 p92;go_wp2_with fail;go_roundw
     case rel=>exact⟨.inr (.inl ⟨rfl,by go_num,rfl⟩),BX⟩
     case measure=>simp [intOf]
   ·go_wp2_with fail;refine(K92.out wr).mono ?_;rintro e w1 ⟨rfl,rfl⟩;rcases a92 with _|a
    ·go_wp2_with fail;go_roundw
     case rel=>exact⟨.inr (.inr ⟨rfl,by simp,by simp⟩),hB⟩
     case measure=>simp [intOf]
    ·go_wp2_with fail;have k92:=cell_regrown p92;refine wp_region_quiet_below (by kernel_rfl) (by kernel_rfl) ?_
     repeat (first|go_big_quiet_step (fail)|quiet_step (fail))
     refine wpQuiet_nil ?_;intro w2 hw';have B2:=hi9 (show Below w1.heap.size w1 w2 by obtain⟨⟨d,os⟩,rfl⟩:=hw';exact below_regrown _ _ _);clear hw';have BX:=j2 hB B2 (Nat.le_refl _);clear k92 hB B2 R1 r0 r1 p34 p92;go_wp2_with fail;go_roundw
     case rel=>exact⟨.inr (.inr ⟨rfl,by go_num,by simp⟩),BX⟩
     case measure=>simp [intOf]
   ·have HQ:=EQ;clear K34 K92 R1 r0 r1 p34 p92 n34 n92;generalize a34+a92=q at *;rcases q with _|q
    ·have e0:decide ((0:Nat)≠0)=false:=rfl;rw [e0];have Z:=hi9 (show quo s.data.toList=s.data.toList from zmM (by have:=HQ.out;unfold zd6 at this;omega) (by have:=HQ.out;unfold zd6 at this;omega));go_wp2_with fail;go_ret;exact⟨by rw [Z.out,zix];rfl,hB.out⟩
    ·have e0:decide (q+1≠0)=true:=decide_eq_true (by omega);rw [e0];have hn:(quo s.data.toList).length=s.size+(q+1):=by rw [zjL,hl];have:=HQ.out;unfold zd6 at this;omega
     generalize s.size+(q+1)=n at *;have hn2:=(zdb s.data.toList).2;rw [hn,hl] at hn2;have hn120:n≤120:=by omega
     have HN:=hi9 hn;have hsz:=hB.out.size;clear hn hn2 e0;go_wp2_with (at_make;refine wpList_make_full _ rfl _ _ 163 rfl w.heap.size 5 i0 (.int .u8 0) 1 Tryz.underlying163 hi hz0 hz1 .i64 .i64 _ _ n rfl rfl rfl rfl (by rw [hz2];omega) (by unfold maxLen;omega) hsz ?_;intro w0 hown0 hgrow0);obtain⟨cur0,BF0,hcl0⟩:=zo2 hown0;have B0:=hi9 (hB.out.trans ((zdo hgrow0).mono hsz));have GB:=hi9 (show w.heap.size≤wr.heap.size from hsz);generalize wr.heap.size=g at *;clear hown0 hgrow0 hsz hB;go_wp2_with fail;go_loopw [13,14,15] (fun j i _ wr=>∃(k m:Nat) (cur:List Value),k≤s.size∧i = .int .i64 k∧j = .int .i64 m∧Hid (m=(quo (s.data.toList.take k)).length)∧Hid (zcE wr g cur)∧cur.length=n∧Hid (cur.take m=zcU (quo (s.data.toList.take k)))∧Hid (Below w.heap.size w wr)) (fun _ i _ _=>s.size-(intOf i).toNat)
     case atStart=>exact⟨0,0,cur0,Nat.zero_le _,rfl,rfl,rfl,BF0,hcl0,rfl,B0⟩
     case round =>
      obtain⟨k,m,cur,hk,rfl,rfl,hm,hBF,hcl,hcv,hB⟩:=hrel;by_cases hlt:k<s.size
      ·have hst:=zl9 s hlt;have hle:=zgp s.data.toList (k+1);rw [HN.out] at hle;have hb:s[k].toNat<256:=UInt8.toNat_lt _;have R1:=hi9 (HR.out.keep hB.out);have p34:=za hB.out P34.out;have p92:=za hB.out P92.out;have nq:=zbp;by_cases h34:s[k].toNat=34
       ·rw [if_pos (.inl h34)] at hst;have HST:=hi9 hst;rw [hst,List.length_append,←hm.out] at hle;simp only [List.length_cons,List.length_nil] at hle;clear hst;go_wp2_with fail;have hs2:=zg6 hB.out QP.out;have e1:m≤n:=by omega
        have e2:¬n=m:=by omega
        have e3:(m:Int)≤(n:Int):=by omega
        go_region_law (refine step_copy_splice rfl (.tmp 105) (.tmp 111) 163 163 rfl 5 Tryz.underlying163 (by kernel_rfl) (some ⟨g,m,none⟩) (some ⟨P,0,none⟩) (n-m) (n-m) 2 d (by simp [Act.eval]) (by simp [Act.eval]) g m cur 5 hBF.out [.int .u8 92,.int .u8 34] (by simp [Nat.min_def];omega) (fun _=>⟨rfl,_,rfl,hs2⟩) (by simp;omega) (by intro v hv;simp at hv;rcases hv with rfl|rfl <;> rfl) w.heap.size w hB.out.drew GB.out ?_;intro w4 hg4 hb4);go_wp2_with fail;go_roundw
        case rel=>exact⟨k+1,m+2,_,by omega,by go_num,by go_num,hi9 (by rw [HST.out,List.length_append,←hm.out];rfl),hg4,(length_splice _ _ _ (by simp;omega)).trans hcl,hi9 ((zcG cur m [.int .u8 92,.int .u8 34] (by simp;omega)).trans (by rw [HST.out,zbf,hcv.out];simp [zcU,h34])),hb4⟩
        case measure=>simp [intOf];omega
       ·by_cases h92:s[k].toNat=92
        ·rw [if_pos (.inr h92)] at hst;have HST:=hi9 hst;rw [hst,List.length_append,←hm.out] at hle;simp only [List.length_cons,List.length_nil] at hle;clear hst;go_wp2_with fail;have hs2:=zg6 hB.out QQ.out;have e1:m≤n:=by omega
         have e2:¬n=m:=by omega
         have e3:(m:Int)≤(n:Int):=by omega
         go_region_law (refine step_copy_splice rfl (.tmp 105) (.tmp 111) 163 163 rfl 5 Tryz.underlying163 (by kernel_rfl) (some ⟨g,m,none⟩) (some ⟨Q,0,none⟩) (n-m) (n-m) 2 d' (by simp [Act.eval]) (by simp [Act.eval]) g m cur 5 hBF.out [.int .u8 92,.int .u8 92] (by simp [Nat.min_def];omega) (fun _=>⟨rfl,_,rfl,hs2⟩) (by simp;omega) (by intro v hv;simp at hv;rcases hv with rfl|rfl <;> rfl) w.heap.size w hB.out.drew GB.out ?_;intro w4 hg4 hb4);go_wp2_with fail;go_roundw
         case rel=>exact⟨k+1,m+2,_,by omega,by go_num,by go_num,hi9 (by rw [HST.out,List.length_append,←hm.out];rfl),hg4,(length_splice _ _ _ (by simp;omega)).trans hcl,hi9 ((zcG cur m [.int .u8 92,.int .u8 92] (by simp;omega)).trans (by rw [HST.out,zbf,hcv.out];simp [zcU,h92])),hb4⟩
         case measure=>simp [intOf];omega
        ·rw [if_neg (fun e=>e.elim h34 h92)] at hst;have HST:=hi9 hst;rw [hst,List.length_append,←hm.out] at hle;simp only [List.length_cons,List.length_nil] at hle;have pn:=R1.out.tab.at_ s[k].toNat hb;rw [R1.out.o _ h34 h92] at pn;have e1:m<n:=by omega
         have e3:(m:Int)<(n:Int):=by omega
         have hml:m<cur.length:=by omega
         have d0:=hBF.out.cell (List.getElem?_eq_getElem hml);have d1:=hBF.out.thaw m;clear hst;go_wp2_with fail;go_roundw
         case rel=>exact⟨k+1,m+1,_,by omega,by go_num,by go_num,hi9 (by rw [HST.out,List.length_append,←hm.out];rfl),hi9 (hBF.out.set m _),by simpa using hcl,hi9 ((zlL hml _).trans (by rw [HST.out,zbf,hcv.out];rfl)),hB.out.setCell (p:=⟨g,m,none⟩) GB.out _⟩
         case measure=>simp [intOf];omega
      ·have ek:s.data.toList.take k=s.data.toList:=List.take_of_length_le (by omega);rw [ek] at hm hcv;have hlm:cur.length≤m:=by rw [hcl,hm.out,HN.out];exact Nat.le_refl _
       have hcv2:cur=zcU (quo s.data.toList):=by
        have:=hcv.out;rwa [List.take_of_length_le hlm] at this
       have hcvt:=zhr wr g s (hcv2 ▸ hBF.out);rw [HN.out] at hcvt;clear ek hm hcv hcl hcv2;go_wp2_with fail;go_ret;exact⟨rfl,hB.out⟩
 ·have hd:decide ((16:Int)≤(s.size:Int))=false:=decide_eq_false (by omega);go_wp2_with fail;clear c0;go_loopw [5,6,10,11] (fun m y i _ wr=>∃k:Nat,k≤s.size∧i = .int .i64 k∧m = .int .i64 ((s.size+zd6 (s.data.toList.take k):Nat):Int)∧y = .bool (decide (zd6 (s.data.toList.take k)≠0))∧Hid (Below w.heap.size w wr)) (fun _ _ i _ _=>s.size-(intOf i).toNat)
  case atStart=>exact⟨0,Nat.zero_le _,rfl,rfl,rfl,Below.refl _ _⟩
  case round =>
   obtain⟨k,hk,rfl,rfl,rfl,hB⟩:=hrel;by_cases hlt:k<s.size
   ·have hc:=zpJ s hlt;have HC:=hi9 hc;have hcl:=zub (s.data.toList.take k);have htl:(s.data.toList.take k).length≤k:=List.length_take_le _ _;have hb:s[k].toNat<256:=UInt8.toNat_lt _;have R1:=hi9 (HR.out.keep hB.out);have p34:=za hB.out P34.out;have p92:=za hB.out P92.out;have nq:=zbp;by_cases h34:s[k].toNat=34
    ·rw [if_pos (.inl h34)] at hc;go_wp2_with fail;go_roundw
     case rel=>exact⟨k+1,by omega,by go_num,by rw [HC.out,if_pos (.inl h34)];go_num,by rw [HC.out,if_pos (.inl h34)];simp,hB⟩
     case measure=>simp [intOf];omega
    ·by_cases h92:s[k].toNat=92
     ·rw [if_pos (.inr h92)] at hc;go_wp2_with fail;go_roundw
      case rel=>exact⟨k+1,by omega,by go_num,by rw [HC.out,if_pos (.inr h92)];go_num,by rw [HC.out,if_pos (.inr h92)];simp,hB⟩
      case measure=>simp [intOf];omega
     ·rw [if_neg (fun e=>e.elim h34 h92)] at hc;have pn:=R1.out.tab.at_ s[k].toNat hb;rw [R1.out.o _ h34 h92] at pn;go_wp2_with fail;go_roundw
      case rel=>exact⟨k+1,by omega,by go_num,by rw [HC.out,if_neg (fun e=>e.elim h34 h92)];rfl,by rw [HC.out,if_neg (fun e=>e.elim h34 h92)];rfl,hB⟩
      case measure=>simp [intOf];omega
   ·have HQ:=hi9 (show zd6 s.data.toList=zd6 (s.data.toList.take k) by rw [List.take_of_length_le (by omega)]);generalize zd6 (s.data.toList.take k)=q at *;clear K34 K92 n34 n92 EQ;rcases q with _|q
    ·have e0:decide ((0:Nat)≠0)=false:=rfl;rw [e0];have Z:=hi9 (show quo s.data.toList=s.data.toList from zmM (by have:=HQ.out;unfold zd6 at this;omega) (by have:=HQ.out;unfold zd6 at this;omega));go_wp2_with fail;go_ret;exact⟨by rw [Z.out,zix];rfl,hB.out⟩
    ·have e0:decide (q+1≠0)=true:=decide_eq_true (by omega);rw [e0];have hn:(quo s.data.toList).length=s.size+(q+1):=by rw [zjL,hl];have:=HQ.out;unfold zd6 at this;omega
     generalize s.size+(q+1)=n at *;have hn2:=(zdb s.data.toList).2;rw [hn,hl] at hn2;have hn120:n≤120:=by omega
     have HN:=hi9 hn;have hsz:=hB.out.size;clear hn hn2 e0;go_wp2_with (at_make;refine wpList_make_full _ rfl _ _ 163 rfl w.heap.size 5 i0 (.int .u8 0) 1 Tryz.underlying163 hi hz0 hz1 .i64 .i64 _ _ n rfl rfl rfl rfl (by rw [hz2];omega) (by unfold maxLen;omega) hsz ?_;intro w0 hown0 hgrow0);obtain⟨cur0,BF0,hcl0⟩:=zo2 hown0;have B0:=hi9 (hB.out.trans ((zdo hgrow0).mono hsz));have GB:=hi9 (show w.heap.size≤wr.heap.size from hsz);generalize wr.heap.size=g at *;clear hown0 hgrow0 hsz hB;go_wp2_with fail;go_loopw [13,14,15] (fun j i _ wr=>∃(k m:Nat) (cur:List Value),k≤s.size∧i = .int .i64 k∧j = .int .i64 m∧Hid (m=(quo (s.data.toList.take k)).length)∧Hid (zcE wr g cur)∧cur.length=n∧Hid (cur.take m=zcU (quo (s.data.toList.take k)))∧Hid (Below w.heap.size w wr)) (fun _ i _ _=>s.size-(intOf i).toNat)
     case atStart=>exact⟨0,0,cur0,Nat.zero_le _,rfl,rfl,rfl,BF0,hcl0,rfl,B0⟩
     case round =>
      obtain⟨k,m,cur,hk,rfl,rfl,hm,hBF,hcl,hcv,hB⟩:=hrel;by_cases hlt:k<s.size
      ·have hst:=zl9 s hlt;have hle:=zgp s.data.toList (k+1);rw [HN.out] at hle;have hb:s[k].toNat<256:=UInt8.toNat_lt _;have R1:=hi9 (HR.out.keep hB.out);have p34:=za hB.out P34.out;have p92:=za hB.out P92.out;have nq:=zbp;by_cases h34:s[k].toNat=34
       ·rw [if_pos (.inl h34)] at hst;have HST:=hi9 hst;rw [hst,List.length_append,←hm.out] at hle;simp only [List.length_cons,List.length_nil] at hle;clear hst;go_wp2_with fail;have hs2:=zg6 hB.out QP.out;have e1:m≤n:=by omega
        have e2:¬n=m:=by omega
        have e3:(m:Int)≤(n:Int):=by omega
        go_region_law (refine step_copy_splice rfl (.tmp 105) (.tmp 111) 163 163 rfl 5 Tryz.underlying163 (by kernel_rfl) (some ⟨g,m,none⟩) (some ⟨P,0,none⟩) (n-m) (n-m) 2 d (by simp [Act.eval]) (by simp [Act.eval]) g m cur 5 hBF.out [.int .u8 92,.int .u8 34] (by simp [Nat.min_def];omega) (fun _=>⟨rfl,_,rfl,hs2⟩) (by simp;omega) (by intro v hv;simp at hv;rcases hv with rfl|rfl <;> rfl) w.heap.size w hB.out.drew GB.out ?_;intro w4 hg4 hb4);go_wp2_with fail;go_roundw
        case rel=>exact⟨k+1,m+2,_,by omega,by go_num,by go_num,hi9 (by rw [HST.out,List.length_append,←hm.out];rfl),hg4,(length_splice _ _ _ (by simp;omega)).trans hcl,hi9 ((zcG cur m [.int .u8 92,.int .u8 34] (by simp;omega)).trans (by rw [HST.out,zbf,hcv.out];simp [zcU,h34])),hb4⟩
        case measure=>simp [intOf];omega
       ·by_cases h92:s[k].toNat=92
        ·rw [if_pos (.inr h92)] at hst;have HST:=hi9 hst;rw [hst,List.length_append,←hm.out] at hle;simp only [List.length_cons,List.length_nil] at hle;clear hst;go_wp2_with fail;have hs2:=zg6 hB.out QQ.out;have e1:m≤n:=by omega
         have e2:¬n=m:=by omega
         have e3:(m:Int)≤(n:Int):=by omega
         go_region_law (refine step_copy_splice rfl (.tmp 105) (.tmp 111) 163 163 rfl 5 Tryz.underlying163 (by kernel_rfl) (some ⟨g,m,none⟩) (some ⟨Q,0,none⟩) (n-m) (n-m) 2 d' (by simp [Act.eval]) (by simp [Act.eval]) g m cur 5 hBF.out [.int .u8 92,.int .u8 92] (by simp [Nat.min_def];omega) (fun _=>⟨rfl,_,rfl,hs2⟩) (by simp;omega) (by intro v hv;simp at hv;rcases hv with rfl|rfl <;> rfl) w.heap.size w hB.out.drew GB.out ?_;intro w4 hg4 hb4);go_wp2_with fail;go_roundw
         case rel=>exact⟨k+1,m+2,_,by omega,by go_num,by go_num,hi9 (by rw [HST.out,List.length_append,←hm.out];rfl),hg4,(length_splice _ _ _ (by simp;omega)).trans hcl,hi9 ((zcG cur m [.int .u8 92,.int .u8 92] (by simp;omega)).trans (by rw [HST.out,zbf,hcv.out];simp [zcU,h92])),hb4⟩
         case measure=>simp [intOf];omega
        ·rw [if_neg (fun e=>e.elim h34 h92)] at hst;have HST:=hi9 hst;rw [hst,List.length_append,←hm.out] at hle;simp only [List.length_cons,List.length_nil] at hle;have pn:=R1.out.tab.at_ s[k].toNat hb;rw [R1.out.o _ h34 h92] at pn;have e1:m<n:=by omega
         have e3:(m:Int)<(n:Int):=by omega
         have hml:m<cur.length:=by omega
         have d0:=hBF.out.cell (List.getElem?_eq_getElem hml);have d1:=hBF.out.thaw m;clear hst;go_wp2_with fail;go_roundw
         case rel=>exact⟨k+1,m+1,_,by omega,by go_num,by go_num,hi9 (by rw [HST.out,List.length_append,←hm.out];rfl),hi9 (hBF.out.set m _),by simpa using hcl,hi9 ((zlL hml _).trans (by rw [HST.out,zbf,hcv.out];rfl)),hB.out.setCell (p:=⟨g,m,none⟩) GB.out _⟩
         case measure=>simp [intOf];omega
      ·have ek:s.data.toList.take k=s.data.toList:=List.take_of_length_le (by omega);rw [ek] at hm hcv;have hlm:cur.length≤m:=by rw [hcl,hm.out,HN.out];exact Nat.le_refl _
       have hcv2:cur=zcU (quo s.data.toList):=by
        have:=hcv.out;rwa [List.take_of_length_le hlm] at this
       have hcvt:=zhr wr g s (hcv2 ▸ hBF.out);rw [HN.out] at hcvt;clear ek hm hcv hcl hcv2;go_wp2_with fail;go_ret;exact⟨rfl,hB.out⟩
theorem zke(b G C:Nat)(s:ByteArray)(w:World)(h:zk2 w b G C)(hbG:b≠G)(hs:s.size≤60):
 Calls Tryz.prog 113 #[.pointer (some ⟨b,0,none⟩),.string s] w fun e w'=>e = .returned (.string (zbd (quo s.data.toList)))∧∃w1,w.grownBy w1 (some b)∧Below w1.heap.size w1 w':=by
 have K:=hi9 (zty b G C w h hbG);clear h;go_enter Tryz.func113,Tryz.ntmps113;go_wp2_with fail;refine(K.out).mono ?_;rintro e w1 ⟨X,f,T,c,rfl,hX,R,h3,hg⟩;have KR:=hi9 (ztC X T c f s w1 R hs);have HG:=hi9 hg;clear R hg K;go_wp2_with fail;refine(KR.out).mono ?_;rintro e w2 ⟨rfl,b2⟩;go_wp2_with fail;go_ret;exact⟨rfl,w1,HG.out,b2⟩
theorem zoK(s:ByteArray):(⟨#[34]⟩:ByteArray)++ zbd (quo s.data.toList)++⟨#[34]⟩=Wk.quoted s:=by
 refine zaq ?_;rw [zlq];simp [ByteArray.data_append,zbd]
theorem zot(s:ByteArray)(w:World)(hs:s.size≤maxLen):
 Calls Tryz.prog 68 #[.string s] w fun e w'=>e = .returned (.tuple #[.string (ztz s),j3 (zr s)])∧Below w.heap.size w w':=by
 have K:=hi9 (zbS s w hs);by_cases h0:zr s=0
 ·rw [h0,zo] at K;have h60:s.size≤60:=by
   unfold zr at h0;by_cases h:60<s.size
   ·rw [if_pos h] at h0;cases h0
   ·omega
  have HV:=hi9 (show ztz s=Wk.quoted s from if_pos h0);rw [h0,zo,HV.out];clear h0;go_enter Tryz.func68,Tryz.ntmps68;go_wp2_with fail;refine(K.out).mono ?_;rintro e w1 ⟨rfl,b1⟩;have B1:=hi9 b1;clear b1 K;go_wp2_with fail;have T2:=hi9 (jW w1 [.string ⟨#[92]⟩,.string ⟨#[92,92]⟩,.string ⟨#[34]⟩,.string ⟨#[92,34]⟩] 9);have B2:=bh B1 (zb w1 (.cells #[.string ⟨#[92]⟩,.string ⟨#[92,92]⟩,.string ⟨#[34]⟩,.string ⟨#[92,34]⟩] 9));obtain⟨w2,hw2⟩:∃w2,w1.alloc (.cells #[.string ⟨#[92]⟩,.string ⟨#[92,92]⟩,.string ⟨#[34]⟩,.string ⟨#[92,34]⟩] 9)=w2:=⟨_,rfl⟩
  have e2:w1.alloc (.cells [Value.string ⟨#[92]⟩,.string ⟨#[92,92]⟩,.string ⟨#[34]⟩,.string ⟨#[92,34]⟩].toArray 9)=w2:=hw2;rw [e2] at T2;rw [hw2] at B2 ⊢;clear hw2 e2;refine(zsn w1.heap.size w2 (by simpa [Addr.add] using T2.out 0 _ rfl) (by simpa [Addr.add] using T2.out 1 _ rfl) (by simpa [Addr.add] using T2.out 2 _ rfl) (by simpa [Addr.add] using T2.out 3 _ rfl)).mono ?_;rintro e w3 ⟨b,G,C,rfl,hN,hbG,hb,b3⟩;have B3:=bh B2 b3;have KR:=hi9 (zke b G C s w3 hN hbG h60);have HB:=hi9 (show w.heap.size≤b from Nat.le_trans B2.out.size hb);clear T2 hN b3 B2 hb hbG B1;go_wp2_with fail;refine(KR.out).mono ?_;rintro e w4 ⟨rfl,w5,hg,b4⟩;have B4:=hi9 ((B3.out.trans (zaK hg HB.out B3.out.size)).trans (b4.mono (Nat.le_trans B3.out.size hg.size)));clear KR hg b4;have hz:(zbd (quo s.data.toList)).size≤120:=by
   rw [zfo];have:=(zdb s.data.toList).2;rw [zdV] at this;omega
  have HS:=hi9 (zoK s);generalize zbd (quo s.data.toList)=q at *;go_wp2_with fail;go_ret2;exact⟨by rw [←HS.out];rfl,B4.out⟩
 ·have HE:=hi9 (zC h0);have HV:=hi9 (show ztz s=⟨#[]⟩ from if_neg h0);rw [HE.out] at K;rw [HE.out,HV.out];clear h0;go_enter Tryz.func68,Tryz.ntmps68;go_wp2_with fail;refine(K.out).mono ?_;rintro e w1 ⟨rfl,b1⟩;have B1:=hi9 b1;clear b1 K;go_wp2_with fail;go_ret2;exact⟨rfl,B1.out⟩
end Go.Proofs.YtkfgabdnppmglaaGreatDoor
namespace Go.Proofs.YtkfgabdnppmglaaGreatDoor
open Go.RowKit Go.Shelf
end Go.Proofs.YtkfgabdnppmglaaGreatDoor
namespace Go.Proofs.YtkfgabdnppmglaaGreatDoor
open Go.RowKit Go.Wk
end Go.Proofs.YtkfgabdnppmglaaGreatDoor
namespace Go.Proofs.YtkfgabdnppmglaaGreatDoor
open Go.RowKit
end Go.Proofs.YtkfgabdnppmglaaGreatDoor
namespace Go.Proofs.YtkfgabdnppmglaaGreatDoor
open Go.RowKit Go.Wk
theorem zbM(w:World)(x y:Value)(t:TypeId):(w.alloc (.cells #[x,y] t)).cell? ⟨w.heap.size,0,none⟩=some x∧(w.alloc (.cells #[x,y] t)).cell? ⟨w.heap.size,1,none⟩=some y :=
 ⟨jf (heap_alloc_last w _) rfl,jf (heap_alloc_last w _) rfl⟩
theorem zco(a b:ByteArray)(w:World)(ha:a.size≤maxLen)(hb:b.size≤maxLen):
 Calls Tryz.prog 34 #[.agg #[.string a,.string b]] w fun e w'=>e = .returned (.tuple #[.string (zou (a,b)),j3 (zw (a,b))])∧Below w.heap.size w w':=by
 have KC:=hi9 (fun w=>zbl a w ha);have KQ:=hi9 (fun w=>zot b w hb);have CC:=hi9 (zbM w (.string a) (.string b) 24);have B0:=hi9 (zb w (.cells #[.string a,.string b] 24));by_cases h1:zg a=0
 ·have HE:=hi9 (show zw (a,b)=zr b from if_pos h1);rw [h1,zo] at KC;have hna:=ztM h1;by_cases h2:zr b=0
  ·have HV:=hi9 (show zou (a,b)=wrt (a,b) from if_pos (zcM.2 ⟨h1,h2⟩));have hq:=zdb b.data.toList;have htb:=ztB h2;have hqs:(Wk.quoted b).size≤122:=by rw [zlH];rw [zdV] at hq;omega
   have HS:=hi9 (ztS (a,b));unfold ztz at KQ;rw [h2,zo,if_pos rfl] at KQ;rw [HE.out,HV.out,h2,zo];clear h1 h2 hq;go_enter Tryz.func34,Tryz.ntmps34;go_wp2_with fail;obtain⟨w0,hw0⟩:∃w0,w.alloc (.cells #[.string a,.string b] 24)=w0:=⟨_,rfl⟩
   rw [hw0] at CC B0 ⊢;clear hw0;refine(KC.out w0).mono ?_;rintro e w1 ⟨rfl,b1⟩;have B1:=bh B0 b1;have c0:=za b1 CC.out.1;have c1:=za b1 CC.out.2;clear KC B0 CC;go_wp2_with fail;refine(KQ.out w1).mono ?_;rintro e w2 ⟨rfl,b2⟩;have B2:=bh B1 b2;have d0:=za b2 c0;have d1:=za b2 c1;clear KQ B1 c0 c1 b1 b2;generalize Wk.quoted b=q at *;go_wp2_with fail;go_ret2;exact⟨by rw [←HS.out];rfl,B2.out⟩
  ·have HV:=hi9 (show zou (a,b)=⟨#[]⟩ from if_neg (fun h=>h2 (zcM.1 h).2));rw [zC h2] at KQ;rw [HE.out,HV.out,zC h2];clear h1 h2;go_enter Tryz.func34,Tryz.ntmps34;go_wp2_with fail;obtain⟨w0,hw0⟩:∃w0,w.alloc (.cells #[.string a,.string b] 24)=w0:=⟨_,rfl⟩
   rw [hw0] at CC B0 ⊢;clear hw0;refine(KC.out w0).mono ?_;rintro e w1 ⟨rfl,b1⟩;have B1:=bh B0 b1;have c0:=za b1 CC.out.1;have c1:=za b1 CC.out.2;clear KC B0 CC;go_wp2_with fail;refine(KQ.out w1).mono ?_;rintro e w2 ⟨rfl,b2⟩;have B2:=bh B1 b2;clear KQ B1 c0 c1 b1 b2;go_wp2_with fail;go_ret2;exact⟨rfl,B2.out⟩
 ·have HE:=hi9 (show zw (a,b)=zg a from if_neg h1);have HV:=hi9 (show zou (a,b)=⟨#[]⟩ from if_neg (fun h=>h1 (zcM.1 h).1));rw [zC h1] at KC;rw [HE.out,HV.out,zC h1];clear h1;go_enter Tryz.func34,Tryz.ntmps34;go_wp2_with fail;obtain⟨w0,hw0⟩:∃w0,w.alloc (.cells #[.string a,.string b] 24)=w0:=⟨_,rfl⟩
  rw [hw0] at CC B0 ⊢;clear hw0;refine(KC.out w0).mono ?_;rintro e w1 ⟨rfl,b1⟩;have B1:=bh B0 b1;clear KC B0 CC b1;go_wp2_with fail;go_ret2;exact⟨rfl,B1.out⟩
structure Vr2(w:World)(b:Nat)(x y:Value):Prop where
 c0:w.cell? ⟨b,0,none⟩=some x
 c1:w.cell? ⟨b,1,none⟩=some y
 z0:w.frozen? ⟨b,0,none⟩=false
 z1:w.frozen? ⟨b,1,none⟩=false
theorem Vr2.keep{w w':World}{b:Nat}{x y:Value}(h:Vr2 w b x y)(hb:Below w.heap.size w w'):Vr2 w' b x y :=
 have hl:=block_lt_of_cell h.c0
 ⟨za hb h.c0,za hb h.c1,by rw [(zjG hb).2 b 0 hl];exact h.z0,by rw [(zjG hb).2 b 1 hl];exact h.z1⟩
theorem j8(w:World)(x y:Value)(t:TypeId):Vr2 (w.alloc (.cells #[x,y] t)) w.heap.size x y :=
 ⟨(zbM w x y t).1,(zbM w x y t).2,by simp,by simp⟩
theorem Vr2.set{w:World}{b:Nat}{x y:Value}(h:Vr2 w b x y)(x' y':Value):Vr2 ((w.setCell ⟨b,0,none⟩ x').setCell ⟨b,1,none⟩ y') b x' y':=by
 have h1:(w.setCell ⟨b,0,none⟩ x').cell? ⟨b,1,none⟩=some y:=(World.cell?_setCell_other _ ⟨b,0,none⟩ ⟨b,1,none⟩ _ (by intro e;injection e with _ e;cases e)).trans h.c1;refine⟨(World.cell?_setCell_other _ ⟨b,1,none⟩ ⟨b,0,none⟩ _ (by intro e;injection e with _ e;cases e)).trans (World.cell?_setCell_same _ _ _ h.c0),World.cell?_setCell_same _ _ _ h1,?_,?_⟩
 ·rw [World.frozen?_setCell,World.frozen?_setCell];exact h.z0
 ·rw [World.frozen?_setCell,World.frozen?_setCell];exact h.z1
def zgG(w:World)(A:Option Addr)(P:List Ud):Prop :=
 ∀(k:Nat) (x:Ud),P[k]?=some x→∃a,A=some a∧w.cell? (a.add (k*2))=some (.string x.1)∧w.cell? ⟨(a.add (k*2)).block,(a.add (k*2)).off+1,none⟩=some (.string x.2)
theorem zgG.keep{w w':World}{A:Option Addr}{P:List Ud}(h:zgG w A P)(hb:Below w.heap.size w w'):zgG w' A P :=
 fun k x hx=>let ⟨a,h1,h2,h3⟩:=h k x hx;⟨a,h1,za hb h2,za hb h3⟩
theorem zgG.but{w w':World}{A:Option Addr}{P:List Ud}{g:Option Nat}(h:zgG w A P)(hg:w.grownBy w' g)(hR:∀a,A=some a→g≠some a.block):zgG w' A P:=by
 intro k x hx;obtain⟨a,h1,h2,h3⟩:=h k x hx;have hn:some a.block≠g:=fun e=>hR a h1 e.symm;have hb:=zch a (k*2);exact⟨a,h1,hg.cell h2 (by rw [hb];exact hn),hg.cell h3 (by rw [hb];exact hn)⟩
structure Us(w:World)(A:Option Addr)(n c:Nat)(P:List Ud):Prop where
 len:n=P.length
 cap:n≤c
 max:n≤maxLen
 at_:zgG w A P
 ok:∀x∈P,x.1.size≤maxLen∧x.2.size≤maxLen
theorem Us.keep{w w':World}{A:Option Addr}{n c:Nat}{P:List Ud}(h:Us w A n c P)(hb:Below w.heap.size w w'):Us w' A n c P:=⟨h.len,h.cap,h.max,h.at_.keep hb,h.ok⟩
theorem Us.but{w w':World}{A:Option Addr}{n c:Nat}{P:List Ud}{g:Option Nat}(h:Us w A n c P)(hg:w.grownBy w' g)(hR:∀a,A=some a→g≠some a.block):Us w' A n c P:=⟨h.len,h.cap,h.max,h.at_.but hg hR,h.ok⟩
theorem Us.take{w:World}{A:Option Addr}{n c k:Nat}{P:List Ud}(h:Us w A n c P)(hk:k≤n):Us w A k c (P.take k):=
 {len:=by rw [List.length_take,←h.len];omega
  cap:=Nat.le_trans hk h.cap
  max:=Nat.le_trans hk h.max
  at_:=fun j x hx=>by
   rw [List.getElem?_take] at hx
   split at hx
   ·exact h.at_ j x hx
   ·cases hx
  ok:=fun x hx=>h.ok x (List.mem_of_mem_take hx)}
structure En where
 u:Ud
 UA:Option Addr
 un:Nat
 uc:Nat
 ups:List Ud
 NA:Option Addr
 nn:Nat
 nc:Nat
 P:List Nd
def En.v(e:En):Value := .agg #[.string e.u.1,.string e.u.2,.slice e.UA e.un e.uc,.slice e.NA e.nn e.nc]
structure zkw(w:World)(e:En):Prop where
 t:e.u.1.size≤maxLen
 i:e.u.2.size≤maxLen
 us:Us w e.UA e.un e.uc e.ups
 ns:Ns w e.NA e.nn e.nc e.P
theorem zkw.keep{w w':World}{e:En}(h:zkw w e)(hb:Below w.heap.size w w'):zkw w' e:=⟨h.t,h.i,h.us.keep hb,h.ns.keep hb⟩
def zbz(e:En):Int:=if 6<e.ups.length then 4 else if j1 [] e.ups=0 then(if zc e.P=0 then(if zf e.P=6 then 0 else 2) else zc e.P) else j1 [] e.ups
theorem zgg{P:List Ud}{k:Nat}(h:k<P.length)(x:Ud):zaV (P.take (k+1)) x=(zaV (P.take k) x || decide (P[k]=x)):=by
 unfold zaV;rw [List.take_succ_eq_append_getElem h,List.any_append];simp
theorem zcq{x y:Ud}(h:x≠y):(x.1.toList==y.1.toList)=false∨((x.1.toList==y.1.toList)=true∧(x.2.toList==y.2.toList)=false):=by
 by_cases h1:x.1=y.1
 ·refine .inr ⟨by rw [h1];simp,beq_eq_false_iff_ne.2 fun e=>h ?_⟩;have h2:=toList_inj e;cases x;cases y;simp only at h1 h2;rw [h1,h2]
 ·exact .inl (beq_eq_false_iff_ne.2 fun e=>h1 (toList_inj e))
theorem zn1(A:Option Addr)(n c:Nat)(P:List Ud)(x:Ud)(w:World)(h:Us w A n c P):
 Calls Tryz.prog 114 #[.slice A n c,.agg #[.string x.1,.string x.2]] w fun e w'=>(∃k:Int,e = .returned (.int .i64 k)∧(0≤k↔zaV P x=true))∧Below w.heap.size w w':=by
 have V0:=hi9 (j8 w (.string x.1) (.string x.2) 24);have B0:=hi9 (zb w (.cells #[.string x.1,.string x.2] 24));have HL:=hi9 h.len;have HM:=h.max;unfold maxLen at HM;have HA:=hi9 (h.at_);clear h;go_enter Tryz.func114,Tryz.ntmps114;go_wp2_with fail;obtain⟨w0,hw0⟩:∃w0,w.alloc (.cells #[.string x.1,.string x.2] 24)=w0:=⟨_,rfl⟩
 rw [hw0] at V0 B0 ⊢;clear hw0;go_loopw [5,8] (fun _ i wr=>∃k:Nat,k≤n∧i = .int .i64 k∧Hid (zaV (P.take k) x=false)∧Hid (Below w.heap.size w wr)∧Hid (Vr2 wr w.heap.size (.string x.1) (.string x.2))) (fun _ i _=>n-(intOf i).toNat)
 case atStart=>exact⟨0,Nat.zero_le _,rfl,rfl,B0,V0⟩
 case round =>
  clear B0 V0;obtain⟨k,hk,rfl,hN,hB,hV⟩:=hrel;by_cases hlt:k<n
  ·have hlt':k<P.length:=by rw [←HL.out];exact hlt
   have HT:=hi9 (zgg hlt' x);obtain⟨a,rfl,q0,q1⟩:=(HA.out.keep hB.out) k _ (List.getElem?_eq_getElem hlt');have v0:=cell_regrown hV.out.c0;have v1:=cell_regrown hV.out.c1;by_cases he:P[k]=x
   ·have HY:=hi9 (show zaV P x=true from jZ.2 (he ▸ List.getElem_mem hlt'));rw [he] at q0 q1;have k0:=cell_regrown q0;have k1:=cell_regrown q1;clear he q0 q1 HT;go_wp2_with fail;refine wp_region_quiet_below (by kernel_rfl) (by kernel_rfl) ?_
    repeat (first|go_big_quiet_step (fail)|quiet_step (fail))
    refine wpQuiet_nil ?_;intro w1 hw';have B1:=hi9 (show Below wr.heap.size wr w1 by obtain⟨⟨d,os⟩,rfl⟩:=hw';exact below_regrown _ _ _);clear hw';have BX:=j2 hB B1 (Nat.le_refl _);clear k0 k1 v0 v1 hB B1;go_wp2_with fail;go_ret;exact⟨⟨k,rfl,by rw [HY.out];simp⟩,BX.out⟩
   ·rw [decide_eq_false he,Bool.or_false,hN.out] at HT;have k0:=cell_regrown q0;have k1:=cell_regrown q1;have hne:(x.1.toList==P[k].1.toList)=false∨((x.1.toList==P[k].1.toList)=true∧(x.2.toList==P[k].2.toList)=false):=zcq (fun e=>he e.symm);clear he q0 q1;generalize P[k]=y at *;rcases hne with h1|⟨h1,h2⟩
    ·go_wp2_with fail;refine wp_region_quiet_below (by kernel_rfl) (by kernel_rfl) ?_
     repeat (first|go_big_quiet_step (fail)|quiet_step (fail))
     refine wpQuiet_nil ?_;intro w1 hw';have B1:=hi9 (show Below wr.heap.size wr w1 by obtain⟨⟨d,os⟩,rfl⟩:=hw';exact below_regrown _ _ _);clear hw';have BX:=j2 hB B1 (Nat.le_refl _);have VX:=hi9 (hV.out.keep B1.out);clear k0 k1 v0 v1 hB B1 hV;go_wp2_with fail;go_roundw
     case rel=>exact⟨k+1,by omega,by go_num,HT,BX,VX⟩
     case measure=>simp [intOf];omega
    ·go_wp2_with fail;refine wp_region_quiet_below (by kernel_rfl) (by kernel_rfl) ?_
     repeat (first|go_big_quiet_step (fail)|quiet_step (fail))
     refine wpQuiet_nil ?_;intro w1 hw';have B1:=hi9 (show Below wr.heap.size wr w1 by obtain⟨⟨d,os⟩,rfl⟩:=hw';exact below_regrown _ _ _);clear hw';have BX:=j2 hB B1 (Nat.le_refl _);have VX:=hi9 (hV.out.keep B1.out);clear k0 k1 v0 v1 hB B1 hV;go_wp2_with fail;go_roundw
     case rel=>exact⟨k+1,by omega,by go_num,HT,BX,VX⟩
     case measure=>simp [intOf];omega
  ·have HN:=hi9 (show zaV P x=false by rw [←hN.out,List.take_of_length_le (by rw [←HL.out];omega)]);go_wp2_with fail;go_ret;exact⟨⟨-1,rfl,by rw [HN.out];simp⟩,hB.out⟩
theorem zjt(A:Option Addr)(n c:Nat)(P:List Ud)(x:Ud)(w:World)(h:Us w A n c P):
 Calls Tryz.prog 70 #[.slice A n c,.agg #[.string x.1,.string x.2]] w fun e w'=>e = .returned (.bool (zaV P x))∧Below w.heap.size w w':=by
 have B0:=hi9 (zb w (.cells #[.string x.1,.string x.2] 24));have K:=hi9 (fun w' hb=>zn1 A n c P x w' (h.keep hb));clear h;go_enter Tryz.func70,Tryz.ntmps70;go_wp2_with fail;refine(K.out _ B0.out).mono ?_;rintro e w1 ⟨⟨k,rfl,hk⟩,b1⟩;have B1:=bh B0 b1;have HK:=hi9 (show decide (0≤k)=zaV P x by
  rcases hu:zaV P x with _|_
  ·exact decide_eq_false (fun h=>by have:=hk.1 h;rw [hu] at this;cases this)
  ·exact decide_eq_true (hk.2 hu))
 clear hk b1 B0;go_wp2_with fail;go_ret;exact⟨by rw [←HK.out];rfl,B1.out⟩
structure Vr4(w:World)(b:Nat)(x:En):Prop where
 c0:w.cell? ⟨b,0,none⟩=some (.string x.u.1)
 c1:w.cell? ⟨b,1,none⟩=some (.string x.u.2)
 c2:w.cell? ⟨b,2,none⟩=some (.slice x.UA x.un x.uc)
 c3:w.cell? ⟨b,3,none⟩=some (.slice x.NA x.nn x.nc)
theorem Vr4.keep{w w':World}{b:Nat}{x:En}(h:Vr4 w b x)(hb:Below w.heap.size w w'):Vr4 w' b x:=⟨za hb h.c0,za hb h.c1,za hb h.c2,za hb h.c3⟩
theorem zhf(w:World)(x:En)(t:TypeId):Vr4 (w.alloc (.cells #[.string x.u.1,.string x.u.2,.slice x.UA x.un x.uc,.slice x.NA x.nn x.nc] t)) w.heap.size x :=
 ⟨jf (heap_alloc_last w _) rfl,jf (heap_alloc_last w _) rfl,jf (heap_alloc_last w _) rfl,jf (heap_alloc_last w _) rfl⟩
theorem zly{L:List Ud}{k:Nat}(h:k<L.length):j1 (L.take k) (L.drop k)=if zw L[k]=0 then(if zaV (L.take k) L[k]=true then 6 else j1 (L.take (k+1)) (L.drop (k+1))) else zw L[k]:=by
 rw [List.drop_eq_getElem_cons h,List.take_succ_eq_append_getElem h];rfl
theorem ztG(x:En)(w:World)(h:zkw w x):
 Calls Tryz.prog 37 #[x.v] w fun e w'=>e = .returned (j3 (zbz x))∧Below w.heap.size w w':=by
 have V0:=hi9 (zhf w x 59);obtain⟨u,UA,un,uc,ups,NA,nn,nc,P⟩:=x;obtain⟨-,-,hus,hns⟩:=h;have KW:=hi9 (fun(u:Ud) (hu:u.1.size≤maxLen∧u.2.size≤maxLen) w=>zco u.1 u.2 w hu.1 hu.2);have KC:=hi9 (fun(k:Nat) (hk:k≤un) (u:Ud) w' hb=>zjt UA k uc (ups.take k) u w' ((hus.keep (w':=w') hb).take hk));have KV:=hi9 (fun w' hb=>zU (hns.keep (w':=w') hb));have HU:=hi9 hus;have HN:=hi9 hns;have B0:=hi9 (zb w (.cells #[.string u.1,.string u.2,.slice UA un uc,.slice NA nn nc] 59));have hlen:=hus.len;have hcap:=hus.cap;dsimp only at hlen hcap V0 KC KV HU HN;clear hus hns;unfold En.v;dsimp only;by_cases h6:6<un
 ·have HE:=hi9 (show zbz ⟨u,UA,un,uc,ups,NA,nn,nc,P⟩=4 by unfold zbz;rw [if_pos (by dsimp only;omega)]);rw [HE.out];clear hlen;go_enter Tryz.func37,Tryz.ntmps37;go_wp2_with fail;go_ret;exact⟨rfl,B0.out⟩
 ·have HE:=hi9 (show zbz ⟨u,UA,un,uc,ups,NA,nn,nc,P⟩=if j1 [] ups=0 then(if zc P=0 then(if zf P=6 then 0 else 2) else zc P) else j1 [] ups by unfold zbz;rw [if_neg (by dsimp only;omega)]);generalize zbz ⟨u,UA,un,uc,ups,NA,nn,nc,P⟩=EF at *;have HL:=hi9 hlen;have hd:decide ((6:Int)<(un:Int))=false:=decide_eq_false (by omega);clear hlen;go_enter Tryz.func37,Tryz.ntmps37;go_wp2_with fail;obtain⟨w0,hw0⟩:∃w0,w.alloc (.cells #[.string u.1,.string u.2,.slice UA un uc,.slice NA nn nc] 59)=w0:=⟨_,rfl⟩
  rw [hw0] at V0 B0 ⊢;clear hw0;go_loopw [3,4,5,6,16] (fun _ _ _ _ i wr=>∃k:Nat,k≤un∧i = .int .i64 k∧Hid (j1 [] ups=j1 (ups.take k) (ups.drop k))∧Hid (Below w.heap.size w wr)∧Hid (Vr4 wr w.heap.size ⟨u,UA,un,uc,ups,NA,nn,nc,P⟩)) (fun _ _ _ _ i _=>un-(intOf i).toNat)
  case atStart=>exact⟨0,Nat.zero_le _,rfl,rfl,B0,V0⟩
  case round =>
   clear B0 V0;obtain⟨k,hk,rfl,hF,hB,hV⟩:=hrel;obtain⟨c0,c1,c2,c3⟩:=hV.out;dsimp only at c0 c1 c2 c3;by_cases hlt:k<un
   ·have hlt':k<ups.length:=by rw [←HL.out];exact hlt
    have HS:=hi9 (zly hlt');obtain⟨a,rfl,q0,q1⟩:=(HU.out.at_.keep hB.out) k _ (List.getElem?_eq_getElem hlt');have hok:=HU.out.ok _ (List.getElem_mem hlt');have K1:=hi9 (KW.out ups[k] hok);have K2:=hi9 (KC.out k hk ups[k]);generalize ups[k]=p at *;go_wp2_with fail;have B1:=bh hB (zb wr (.cells #[.string p.1,.string p.2] 24));have V1:=hi9 (hV.out.keep (zb wr (.cells #[.string p.1,.string p.2] 24)));have P1:=hi9 (j8 wr (.string p.1) (.string p.2) 24);obtain⟨w1,hw1⟩:∃w1,wr.alloc (.cells #[.string p.1,.string p.2] 24)=w1:=⟨_,rfl⟩
    rw [hw1] at V1 B1 P1 ⊢;clear hw1 hB hV c0 c1 c2 c3 q0 q1;refine(K1.out w1).mono ?_;rintro e w2 ⟨rfl,b2⟩;have B2:=bh B1 b2;have V2:=hi9 (V1.out.keep b2);have P2:=hi9 (P1.out.keep b2);clear K1 b2 B1 V1 P1;by_cases hu:zw (p.1,p.2)=0
    ·have hu':zw p=0:=hu;rw [hu,zo];rw [if_pos hu'] at HS;clear hu hu';have k2:=cell_regrown V2.out.c2;have v0:=cell_regrown P2.out.c0;have v1:=cell_regrown P2.out.c1;have KK:=rq (w:=w2) (fun w' hb=>K2.out w' (B2.out.trans (hb.mono B2.out.size)));dsimp only at k2;go_wp2_with fail;refine wp_region_quiet_below (by kernel_rfl) (by kernel_rfl) ?_
     repeat (first|go_big_quiet_step (exact KK _ _)|quiet_step (exact KK _ _))
     refine wpQuiet_nil ?_;intro w3 hw';have b3:=hi9 (show Below w2.heap.size w2 w3 by obtain⟨⟨d,os⟩,rfl⟩:=hw';exact below_regrown _ _ _);clear hw';have B3:=bh B2 b3.out;have V3:=hi9 (V2.out.keep b3.out);clear k2 v0 v1 KK b3 B2 V2 P2 K2;rcases hh:zaV (ups.take k) p with _|_
     ·rw [hh,if_neg (by decide)] at HS;have HF:=hi9 (hF.out.trans HS.out);clear hh HS hF;go_wp2_with fail;go_roundw
      case rel=>exact⟨k+1,by omega,by go_num,HF,B3,V3⟩
      case measure=>simp [intOf];omega
     ·rw [hh,if_pos rfl] at HS;have HF:=hi9 (hF.out.trans HS.out);have HE2:=hi9 (show EF=6 by rw [HE.out,HF.out];rfl);clear hh HS hF;go_wp2_with fail;go_ret;exact⟨by rw [HE2.out];rfl,B3.out⟩
    ·have hu':zw p≠0:=hu;rw [if_neg hu'] at HS;have HE2:=hi9 (show EF=zw (p.1,p.2) by rw [HE.out,hF.out,HS.out,if_neg hu']);rw [zC hu];have hun:=hi9 hu;clear hu hu' HS hF;generalize zw (p.1,p.2)=f at *;go_wp2_with fail;go_ret;exact⟨by rw [HE2.out,zC hun.out];rfl,B2.out⟩
   ·have HF:=hi9 (show j1 [] ups=0 by rw [hF.out,List.drop_of_length_le (by rw [←HL.out];omega)];rfl);have HE2:=hi9 (show EF=if zc P=0 then(if zf P=6 then 0 else 2) else zc P by rw [HE.out,if_pos HF.out]);have K3:=hi9 (fun w' hb=>KV.out w' hb);clear hF;go_wp2_with fail;refine(K3.out wr hB.out).mono ?_;rintro e w2 ⟨rfl,b2⟩;have B2:=bh hB b2;have V2:=hi9 (hV.out.keep b2);clear hB hV c0 c1 c2 c3 b2;by_cases hv:zc P=0
    ·have hpos:=(zP.1 hv).2.pos;obtain⟨a,rfl,D⟩:=(HN.out.at_.keep B2.out).nd hpos;rw [show a.add (0*4)=a from rfl] at D;have hop:zf P=P[0].op:=jO hpos;have hn0:0<nn:=by rw [HN.out.len];exact hpos
     rw [hv,zo];rw [if_pos hv,hop] at HE2;obtain⟨d0,-,-,-⟩:=D;obtain⟨op,ho⟩:∃op,op=P[0].op:=⟨_,rfl⟩
     rw [←ho] at d0 HE2;have e3:=V2.out.c3;dsimp only at e3;clear hv hop ho;by_cases h6o:op=6
     ·rw [if_pos h6o] at HE2;subst h6o;go_wp2_with fail;go_ret;exact⟨by rw [HE2.out];rfl,B2.out⟩
     ·rw [if_neg h6o] at HE2;have h6i:(op != 6)=true:=by simp;exact h6o
      clear h6o;go_wp2_with fail;go_ret;exact⟨by rw [HE2.out];rfl,B2.out⟩
    ·rw [if_neg hv] at HE2;rw [zC hv];have hvn:=hi9 hv;clear hv;generalize zc P=f at *;go_wp2_with fail;go_ret;exact⟨by rw [HE2.out,zC hvn.out];rfl,B2.out⟩
end Go.Proofs.YtkfgabdnppmglaaGreatDoor
