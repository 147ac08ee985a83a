/-
  byteStringReplacer's Replace at the table of quotes. name.Quote: a text between ..
-/
import Derived.Laws.CopyOwn
import Derived.Shelf.Lay
import Derived.Test.YthifljpkgfpkiaaGreatDoorQ4
import Derived.Test.YthifljpkgfpkiaaGreatDoorQ5
import Derived.Test.YthifljpkgfpkiaaGreatDoorQ20
set_option maxRecDepth 100000
set_option maxHeartbeats 8000000
namespace Go.Proofs.YthifljpkgfpkiaaGreatDoor
open Go.RowKit Go.Wk
def lx(l:List UInt8):Nat:=l.count 34+l.count 92
theorem SN(l:List UInt8):lx l<=2*l.length:=by
 have h1:=List.count_le_length (a:=(34:UInt8)) (l:=l);have h2:=List.count_le_length (a:=(92:UInt8)) (l:=l);unfold lx;omega
theorem Kg(s:ByteArray){k:Nat}(h:k<s.size):lx (s.data.toList.take (k+1))=lx (s.data.toList.take k)+if s[k].toNat=34\/s[k].toNat=92 then 1 else 0:=by
 have h':k<s.data.toList.length:=by simpa using h
 have e:s.data.toList.take (k+1)=s.data.toList.take k ++ [s[k]]:=by rw [List.take_succ_eq_append_getElem h'];rfl
 have t34:s[k]=34↔s[k].toNat=34:=⟨λe=>by rw [e];rfl,λe=>UInt8.toNat_inj.1 e⟩
 have t92:s[k]=92↔s[k].toNat=92:=⟨λe=>by rw [e];rfl,λe=>UInt8.toNat_inj.1 e⟩
 unfold lx;rw [e,List.count_append,List.count_append,List.count_singleton,List.count_singleton];by_cases h1:s[k]=34
 ·have:s[k].toNat=34:=t34.1 h1;simp [h1];omega
 ·by_cases h2:s[k]=92
  ·simp [h2];omega
  ·have n1:s[k].toNat≠34:=λe=>h1 (t34.2 e);have n2:s[k].toNat≠92:=λe=>h2 (t92.2 e);simp [h1,h2,n1,n2]
theorem Vp:(Tryz.prog.info? 5).map (λi=>(i.zero,i.size,i.bytes))=some (some (.int .u8 0),1,1):=by kernel_rfl
theorem dh(w:World)(a:Option Addr)(l c:Nat):(binOp .neq 150 (.slice a l c) (.slice none 0 0)).run Tryz.prog w = .ok (.bool (!a.isNone)) w :=
 run_neq_slice_nil (P:=Tryz.prog) w 150 5 a l c Tryz.underlying150
def gX(w:World)(g:Nat)(cur:List Value):Prop:=w.heap[g]?=some (.cells cur.toArray 5 (0,0))
theorem I4{w:World}{B g n:Nat}{xs:List Value}(h:w.ownsRow B 5 1 (.slice (some ⟨g,0,none⟩) n n) n xs):∃cur,gX w g cur/\cur.length=n:=by
 rcases h.2 with ⟨h0,_⟩|⟨g',cap,cur,h1,h2,h3,h4,h5,h6⟩
 ·cases h0
 ·injection h1 with h1 _ h1c;injection h1 with h1;injection h1 with h1;subst h1 h1c;exact⟨cur.toList,by unfold gX;simpa using h3,by simp;omega⟩
theorem gX.cell{w:World}{g:Nat}{cur:List Value}(h:gX w g cur){m:Nat}{v:Value}(hm:cur[m]?=some v):w.cell? ⟨g,m,none⟩=some v:=zt h (by simpa using hm)
theorem gX.thaw{w:World}{g:Nat}{cur:List Value}(h:gX w g cur)(m:Nat):w.frozen? ⟨g,m,none⟩=false:=by
 unfold gX at h;unfold World.frozen?;rw [h];simp
theorem gX.set{w:World}{g:Nat}{cur:List Value}(h:gX w g cur)(m:Nat)(v:Value):gX (w.setCell ⟨g,m,none⟩ v) g (cur.set m v):=by
 unfold gX;rw [setCell_eq_setRow w g m _ _ _ v h,setRow_heap w g _ _ _ _ h];simp
theorem EE{α:Type}{l:List α}{m:Nat}(h:m<l.length)(v:α):(l.set m v).take (m+1)=l.take m ++ [v]:=by
 rw [List.take_succ_eq_append_getElem (by simpa using h),List.getElem_set_self,List.take_set];congr 1;exact List.set_eq_of_length_le (by simp;omega)
theorem gR{α:Type}(l:List α)(m:Nat)(cs:List α)(h:m+cs.length<=l.length):(splice l m cs).take (m+cs.length)=l.take m ++ cs:=by
 unfold splice;rw [<-List.append_assoc,List.take_left' (by simp;omega)]
def iT(l:List UInt8):List Value:=l.map λb => .int .u8 (b.toNat:Int)
theorem cF(a b:List UInt8):iT (a ++ b)=iT a ++ iT b:=List.map_append
theorem E9(s:ByteArray){k:Nat}(h:k<s.size):quo (s.data.toList.take (k+1))=quo (s.data.toList.take k)++ if s[k].toNat=34\/s[k].toNat=92 then [92,s[k]] else [s[k]]:=by
 have h':k<s.data.toList.length:=by simpa using h
 have e:s.data.toList.take (k+1)=s.data.toList.take k ++ [s[k]]:=by rw [List.take_succ_eq_append_getElem h'];rfl
 have t34:s[k]=34↔s[k].toNat=34:=⟨λe=>by rw [e];rfl,λe=>UInt8.toNat_inj.1 e⟩
 have t92:s[k]=92↔s[k].toNat=92:=⟨λe=>by rw [e];rfl,λe=>UInt8.toNat_inj.1 e⟩
 rw [e,sV];congr 1;by_cases h1:s[k]=34\/s[k]=92
 ·rw [quo,if_pos h1,if_pos (h1.imp t34.1 t92.1)];rfl
 ·rw [quo,if_neg h1,if_neg (λe=>h1 (e.imp t34.2 t92.2))];rfl
theorem q8(l:List UInt8)(k:Nat):(quo (l.take k)).length<=(quo l).length:=by
 conv=>rhs;rw [<-List.take_append_drop k l,sV]
 simp
theorem uW(w:World)(g:Nat)(s:ByteArray)(h:gX w g (iT (quo s.data.toList))):
 (convert 150 9 (.slice (some ⟨g,0,none⟩) (quo s.data.toList).length (quo s.data.toList).length)).run Tryz.prog w = .ok (.string (cH (quo s.data.toList))) w :=
 run_convert_bytes_back (P:=Tryz.prog) _ 150 9 5 ⟨g,0,none⟩ _ (quo s.data.toList) Tryz.underlying150 Tryz.underlying5 Tryz.underlying9 (λj hj=>by
  have e:(⟨g,0,none⟩:Addr).add j=⟨g,j,none⟩:=by unfold Addr.add;split <;> simp_all
  rw [e]
  refine h.cell ?_
  unfold iT
  rw [List.getElem?_map,List.getElem?_eq_getElem hj];rfl)
theorem sJ{w w':World}{P:Nat}{x y:Value}(hb:Below w.heap.size w w')(h:w.cell? ⟨P,0,none⟩=some x/\w.cell? ⟨P,1,none⟩=some y):∀j v,[x,y][j]?=some v->w'.cell? ((⟨P,0,none⟩:Addr).add j)=some v:=by
 intro j v hv;rcases j with _|_|j
 ·simp at hv;subst hv;exact zb hb h.1
 ·simp at hv;subst hv;exact zb hb (by simpa [Addr.add] using h.2)
 ·simp at hv
theorem TO(X T c:Nat)(f:Nat->Value)(s:ByteArray)(w:World)(R:kX w X f T c)(hs:s.size<=60):
 Calls Tryz.prog 295 #[.pointer (some ⟨X,0,none⟩),.string s] w λe w'=>e = .returned (.string (cH (quo s.data.toList)))/\Below w.heap.size w w':=by
 obtain⟨i0,hi,hz0,hz1,hz2⟩:=info_parts Vp;have HR:=O R;have c0:=R.tab.last;have hl:=lD s;have n34:=List.count_le_length (a:=(34:UInt8)) (l:=s.data.toList);have n92:=List.count_le_length (a:=(92:UInt8)) (l:=s.data.toList);rw [hl] at n34 n92;have Zq:=O (λw=>Tryz.strings_Count_one s 34 w);have Zp:=O (λw=>Tryz.strings_Count_one s 92 w);have EQ:=O (show lx s.data.toList=s.data.toList.count 34+s.data.toList.count 92 from rfl);unfold Lib.countByte at Zq Zp;generalize s.data.toList.count 34=a34 at *;generalize s.data.toList.count 92=a92 at *;obtain⟨P,d,ep,qp⟩:=R.q;obtain⟨Q,d',eq,qq⟩:=R.s;have QP:=O qp;have QQ:=O qq;clear qp qq;have p34:=R.tab.at_ 34 (by decide);have p92:=R.tab.at_ 92 (by decide);rw [ep] at p34;rw [eq] at p92;have Zd:=O p34;have Zt:=O p92;clear R p34 p92 ep eq;go_enter Tryz.func295,Tryz.ntmps295;by_cases h16:16<=s.size
 ·have hd:decide ((16:Int)<=(s.size:Int))=true:=decide_eq_true (by omega);go_wp2_with fail;clear c0;go_loopw [5,6,8,9,32] (λm y _ _ i wr=>((i = .int .i64 0/\m = .int .i64 s.size/\y = .bool false)\/(i = .int .i64 1/\m = .int .i64 ((s.size+a34:Nat):Int)/\y = .bool (decide (a34≠0)))\/(i = .int .i64 2/\m = .int .i64 ((s.size+(a34+a92):Nat):Int)/\y = .bool (decide (a34+a92≠0))))/\Hid (Below w.heap.size w wr)) (λ_ _ _ _ i _=>2-(intOf i).toNat)
  case atStart=>exact⟨.inl ⟨rfl,rfl,rfl⟩,Below.refl _ _⟩
  case round =>
   obtain⟨hk,hB⟩:=hrel;have R1:=O (HR.o.keep hB.o);have r0:=R1.o.t0;have r1:=R1.o.t1;have q34:((⟨#[34]⟩:ByteArray)[0]'(by decide)).toNat=34:=rfl;have q92:((⟨#[92]⟩:ByteArray)[0]'(by decide)).toNat=92:=rfl;have p34:=zb hB.o Zd.o;have p92:=zb hB.o Zt.o;rcases hk with ⟨rfl,rfl,rfl⟩|⟨rfl,rfl,rfl⟩|⟨rfl,rfl,rfl⟩
   ·go_wp2_with fail;refine(Zq.o wr).mono ?_;rintro e w1 ⟨rfl,rfl⟩;rcases a34 with _|a
    ·go_wp2_with fail;go_roundw
     case rel=>exact⟨.inr (.inl ⟨rfl,rfl,rfl⟩),hB⟩
     case measure=>simp [intOf]
    ·go_wp2_with fail;have k34:=cell_regrown p34;refine wp_region_quiet_below (by kernel_rfl) (by kernel_rfl) ?_
     repeat (first|go_big_quiet_step (fail)|quiet_step (fail))
     refine wpQuiet_nil ?_;intro w2 hw';have B2:=O (show Below w1.heap.size w1 w2 by obtain⟨⟨d,os⟩,rfl⟩:=hw';exact below_regrown _ _ _);clear hw';have BX:=Hg hB B2 (Nat.le_refl _);clear k34 hB B2 R1 r0 r1 p34 p92;go_wp2_with fail;go_roundw
     case rel=>exact⟨.inr (.inl ⟨rfl,by go_num,rfl⟩),BX⟩
     case measure=>simp [intOf]
   ·go_wp2_with fail;refine(Zp.o wr).mono ?_;rintro e w1 ⟨rfl,rfl⟩;rcases a92 with _|a
    ·go_wp2_with fail;go_roundw
     case rel=>exact⟨.inr (.inr ⟨rfl,by simp,by simp⟩),hB⟩
     case measure=>simp [intOf]
    ·go_wp2_with fail;have k92:=cell_regrown p92;refine wp_region_quiet_below (by kernel_rfl) (by kernel_rfl) ?_
     repeat (first|go_big_quiet_step (fail)|quiet_step (fail))
     refine wpQuiet_nil ?_;intro w2 hw';have B2:=O (show Below w1.heap.size w1 w2 by obtain⟨⟨d,os⟩,rfl⟩:=hw';exact below_regrown _ _ _);clear hw';have BX:=Hg hB B2 (Nat.le_refl _);clear k92 hB B2 R1 r0 r1 p34 p92;go_wp2_with fail;go_roundw
     case rel=>exact⟨.inr (.inr ⟨rfl,by go_num,by simp⟩),BX⟩
     case measure=>simp [intOf]
   ·have HQ:=EQ;clear Zq Zp R1 r0 r1 p34 p92 n34 n92;generalize a34+a92=q at *;rcases q with _|q
    ·have e0:decide ((0:Nat)≠0)=false:=rfl;rw [e0];have Z:=O (show quo s.data.toList=s.data.toList from EG (by have:=HQ.o;unfold lx at this;omega) (by have:=HQ.o;unfold lx at this;omega));go_wp2_with fail;go_ret;exact⟨by rw [Z.o,uR];rfl,hB.o⟩
    ·have e0:decide (q+1≠0)=true:=decide_eq_true (by omega);rw [e0];have hn:(quo s.data.toList).length=s.size+(q+1):=by rw [xh,hl];have:=HQ.o;unfold lx at this;omega
     generalize s.size+(q+1)=n at *;have hn2:=(kg s.data.toList).2;rw [hn,hl] at hn2;have hn120:n<=120:=by omega
     have HN:=O hn;have hsz:=hB.o.size;clear hn hn2 e0;go_wp2_with (at_make;refine wpList_make_full _ rfl _ _ 150 rfl w.heap.size 5 i0 (.int .u8 0) 1 Tryz.underlying150 hi hz0 hz1 .i64 .i64 _ _ n rfl rfl rfl rfl (by rw [hz2];omega) (by unfold maxLen;omega) hsz ?_;intro w0 hown0 hgrow0);obtain⟨cur0,ZQ,Wm⟩:=I4 hown0;have B0:=O (hB.o.trans ((ke hgrow0).mono hsz));have GB:=O (show w.heap.size<=wr.heap.size from hsz);generalize wr.heap.size=g at *;clear hown0 hgrow0 hsz hB;go_wp2_with fail;go_loopw [13,14,15] (λj i _ wr=>∃(k m:Nat) (cur:List Value),k<=s.size/\i = .int .i64 k/\j = .int .i64 m/\Hid (m=(quo (s.data.toList.take k)).length)/\Hid (gX wr g cur)/\cur.length=n/\Hid (cur.take m=iT (quo (s.data.toList.take k)))/\Hid (Below w.heap.size w wr)) (λ_ i _ _=>s.size-(intOf i).toNat)
     case atStart=>exact⟨0,0,cur0,Nat.zero_le _,rfl,rfl,rfl,ZQ,Wm,rfl,B0⟩
     case round =>
      obtain⟨k,m,cur,hk,rfl,rfl,hm,MK,IP,hcv,hB⟩:=hrel;by_cases hlt:k<s.size
      ·have hst:=E9 s hlt;have hle:=q8 s.data.toList (k+1);rw [HN.o] at hle;have hb:s[k].toNat<256:=UInt8.toNat_lt _;have R1:=O (HR.o.keep hB.o);have p34:=zb hB.o Zd.o;have p92:=zb hB.o Zt.o;have nq:=dh;by_cases sg:s[k].toNat=34
       ·rw [if_pos (.inl sg)] at hst;have HST:=O hst;rw [hst,List.length_append,<-hm.o] at hle;simp only [List.length_cons,List.length_nil] at hle;clear hst;go_wp2_with fail;have hs2:=sJ hB.o QP.o;have e1:m<=n:=by omega
        have e2:¬n=m:=by omega
        have e3:(m:Int)<=(n:Int):=by omega
        go_region_law (refine step_copy_splice rfl (.tmp 105) (.tmp 111) 150 150 rfl 5 Tryz.underlying150 (by kernel_rfl) (some ⟨g,m,none⟩) (some ⟨P,0,none⟩) (n-m) (n-m) 2 d (by simp [Act.eval]) (by simp [Act.eval]) g m cur 5 MK.o [.int .u8 92,.int .u8 34] (by simp [Nat.min_def];omega) (λ_=>⟨rfl,_,rfl,hs2⟩) (by simp;omega) (by intro v hv;simp at hv;rcases hv with rfl|rfl <;> rfl) w.heap.size w hB.o.drew GB.o ?_;intro w4 hg4 hb4);go_wp2_with fail;go_roundw
        case rel=>exact⟨k+1,m+2,_,by omega,by go_num,by go_num,O (by rw [HST.o,List.length_append,<-hm.o];rfl),hg4,(length_splice _ _ _ (by simp;omega)).trans IP,O ((gR cur m [.int .u8 92,.int .u8 34] (by simp;omega)).trans (by rw [HST.o,cF,hcv.o];simp [iT,sg])),hb4⟩
        case measure=>simp [intOf];omega
       ·by_cases oG:s[k].toNat=92
        ·rw [if_pos (.inr oG)] at hst;have HST:=O hst;rw [hst,List.length_append,<-hm.o] at hle;simp only [List.length_cons,List.length_nil] at hle;clear hst;go_wp2_with fail;have hs2:=sJ hB.o QQ.o;have e1:m<=n:=by omega
         have e2:¬n=m:=by omega
         have e3:(m:Int)<=(n:Int):=by omega
         go_region_law (refine step_copy_splice rfl (.tmp 105) (.tmp 111) 150 150 rfl 5 Tryz.underlying150 (by kernel_rfl) (some ⟨g,m,none⟩) (some ⟨Q,0,none⟩) (n-m) (n-m) 2 d' (by simp [Act.eval]) (by simp [Act.eval]) g m cur 5 MK.o [.int .u8 92,.int .u8 92] (by simp [Nat.min_def];omega) (λ_=>⟨rfl,_,rfl,hs2⟩) (by simp;omega) (by intro v hv;simp at hv;rcases hv with rfl|rfl <;> rfl) w.heap.size w hB.o.drew GB.o ?_;intro w4 hg4 hb4);go_wp2_with fail;go_roundw
         case rel=>exact⟨k+1,m+2,_,by omega,by go_num,by go_num,O (by rw [HST.o,List.length_append,<-hm.o];rfl),hg4,(length_splice _ _ _ (by simp;omega)).trans IP,O ((gR cur m [.int .u8 92,.int .u8 92] (by simp;omega)).trans (by rw [HST.o,cF,hcv.o];simp [iT,oG])),hb4⟩
         case measure=>simp [intOf];omega
        ·rw [if_neg (λe=>e.elim sg oG)] at hst;have HST:=O hst;rw [hst,List.length_append,<-hm.o] at hle;simp only [List.length_cons,List.length_nil] at hle;have pn:=R1.o.tab.at_ s[k].toNat hb;rw [R1.o.o _ sg oG] at pn;have e1:m<n:=by omega
         have e3:(m:Int)<(n:Int):=by omega
         have IM:m<cur.length:=by omega
         have d0:=MK.o.cell (List.getElem?_eq_getElem IM);have d1:=MK.o.thaw m;clear hst;go_wp2_with fail;go_roundw
         case rel=>exact⟨k+1,m+1,_,by omega,by go_num,by go_num,O (by rw [HST.o,List.length_append,<-hm.o];rfl),O (MK.o.set m _),by simpa using IP,O ((EE IM _).trans (by rw [HST.o,cF,hcv.o];rfl)),hB.o.setCell (p:=⟨g,m,none⟩) GB.o _⟩
         case measure=>simp [intOf];omega
      ·have ek:s.data.toList.take k=s.data.toList:=List.take_of_length_le (by omega);rw [ek] at hm hcv;have IL:cur.length<=m:=by rw [IP,hm.o,HN.o];exact Nat.le_refl _
       have Ro:cur=iT (quo s.data.toList):=by
        have:=hcv.o;rwa [List.take_of_length_le IL] at this
       have WT:=uW wr g s (Ro ▸ MK.o);rw [HN.o] at WT;clear ek hm hcv IP Ro;go_wp2_with fail;go_ret;exact⟨rfl,hB.o⟩
 ·have hd:decide ((16:Int)<=(s.size:Int))=false:=decide_eq_false (by omega);go_wp2_with fail;clear c0;go_loopw [5,6,10,11] (λm y i _ wr=>∃k:Nat,k<=s.size/\i = .int .i64 k/\m = .int .i64 ((s.size+lx (s.data.toList.take k):Nat):Int)/\y = .bool (decide (lx (s.data.toList.take k)≠0))/\Hid (Below w.heap.size w wr)) (λ_ _ i _ _=>s.size-(intOf i).toNat)
  case atStart=>exact⟨0,Nat.zero_le _,rfl,rfl,rfl,Below.refl _ _⟩
  case round =>
   obtain⟨k,hk,rfl,rfl,rfl,hB⟩:=hrel;by_cases hlt:k<s.size
   ·have hc:=Kg s hlt;have HC:=O hc;have IP:=SN (s.data.toList.take k);have htl:(s.data.toList.take k).length<=k:=List.length_take_le _ _;have hb:s[k].toNat<256:=UInt8.toNat_lt _;have R1:=O (HR.o.keep hB.o);have p34:=zb hB.o Zd.o;have p92:=zb hB.o Zt.o;have nq:=dh;by_cases sg:s[k].toNat=34
    ·rw [if_pos (.inl sg)] at hc;go_wp2_with fail;go_roundw
     case rel=>exact⟨k+1,by omega,by go_num,by rw [HC.o,if_pos (.inl sg)];go_num,by rw [HC.o,if_pos (.inl sg)];simp,hB⟩
     case measure=>simp [intOf];omega
    ·by_cases oG:s[k].toNat=92
     ·rw [if_pos (.inr oG)] at hc;go_wp2_with fail;go_roundw
      case rel=>exact⟨k+1,by omega,by go_num,by rw [HC.o,if_pos (.inr oG)];go_num,by rw [HC.o,if_pos (.inr oG)];simp,hB⟩
      case measure=>simp [intOf];omega
     ·rw [if_neg (λe=>e.elim sg oG)] at hc;have pn:=R1.o.tab.at_ s[k].toNat hb;rw [R1.o.o _ sg oG] at pn;go_wp2_with fail;go_roundw
      case rel=>exact⟨k+1,by omega,by go_num,by rw [HC.o,if_neg (λe=>e.elim sg oG)];rfl,by rw [HC.o,if_neg (λe=>e.elim sg oG)];rfl,hB⟩
      case measure=>simp [intOf];omega
   ·have HQ:=O (show lx s.data.toList=lx (s.data.toList.take k) by rw [List.take_of_length_le (by omega)]);generalize lx (s.data.toList.take k)=q at *;clear Zq Zp n34 n92 EQ;rcases q with _|q
    ·have e0:decide ((0:Nat)≠0)=false:=rfl;rw [e0];have Z:=O (show quo s.data.toList=s.data.toList from EG (by have:=HQ.o;unfold lx at this;omega) (by have:=HQ.o;unfold lx at this;omega));go_wp2_with fail;go_ret;exact⟨by rw [Z.o,uR];rfl,hB.o⟩
    ·have e0:decide (q+1≠0)=true:=decide_eq_true (by omega);rw [e0];have hn:(quo s.data.toList).length=s.size+(q+1):=by rw [xh,hl];have:=HQ.o;unfold lx at this;omega
     generalize s.size+(q+1)=n at *;have hn2:=(kg s.data.toList).2;rw [hn,hl] at hn2;have hn120:n<=120:=by omega
     have HN:=O hn;have hsz:=hB.o.size;clear hn hn2 e0;go_wp2_with (at_make;refine wpList_make_full _ rfl _ _ 150 rfl w.heap.size 5 i0 (.int .u8 0) 1 Tryz.underlying150 hi hz0 hz1 .i64 .i64 _ _ n rfl rfl rfl rfl (by rw [hz2];omega) (by unfold maxLen;omega) hsz ?_;intro w0 hown0 hgrow0);obtain⟨cur0,ZQ,Wm⟩:=I4 hown0;have B0:=O (hB.o.trans ((ke hgrow0).mono hsz));have GB:=O (show w.heap.size<=wr.heap.size from hsz);generalize wr.heap.size=g at *;clear hown0 hgrow0 hsz hB;go_wp2_with fail;go_loopw [13,14,15] (λj i _ wr=>∃(k m:Nat) (cur:List Value),k<=s.size/\i = .int .i64 k/\j = .int .i64 m/\Hid (m=(quo (s.data.toList.take k)).length)/\Hid (gX wr g cur)/\cur.length=n/\Hid (cur.take m=iT (quo (s.data.toList.take k)))/\Hid (Below w.heap.size w wr)) (λ_ i _ _=>s.size-(intOf i).toNat)
     case atStart=>exact⟨0,0,cur0,Nat.zero_le _,rfl,rfl,rfl,ZQ,Wm,rfl,B0⟩
     case round =>
      obtain⟨k,m,cur,hk,rfl,rfl,hm,MK,IP,hcv,hB⟩:=hrel;by_cases hlt:k<s.size
      ·have hst:=E9 s hlt;have hle:=q8 s.data.toList (k+1);rw [HN.o] at hle;have hb:s[k].toNat<256:=UInt8.toNat_lt _;have R1:=O (HR.o.keep hB.o);have p34:=zb hB.o Zd.o;have p92:=zb hB.o Zt.o;have nq:=dh;by_cases sg:s[k].toNat=34
       ·rw [if_pos (.inl sg)] at hst;have HST:=O hst;rw [hst,List.length_append,<-hm.o] at hle;simp only [List.length_cons,List.length_nil] at hle;clear hst;go_wp2_with fail;have hs2:=sJ hB.o QP.o;have e1:m<=n:=by omega
        have e2:¬n=m:=by omega
        have e3:(m:Int)<=(n:Int):=by omega
        go_region_law (refine step_copy_splice rfl (.tmp 105) (.tmp 111) 150 150 rfl 5 Tryz.underlying150 (by kernel_rfl) (some ⟨g,m,none⟩) (some ⟨P,0,none⟩) (n-m) (n-m) 2 d (by simp [Act.eval]) (by simp [Act.eval]) g m cur 5 MK.o [.int .u8 92,.int .u8 34] (by simp [Nat.min_def];omega) (λ_=>⟨rfl,_,rfl,hs2⟩) (by simp;omega) (by intro v hv;simp at hv;rcases hv with rfl|rfl <;> rfl) w.heap.size w hB.o.drew GB.o ?_;intro w4 hg4 hb4);go_wp2_with fail;go_roundw
        case rel=>exact⟨k+1,m+2,_,by omega,by go_num,by go_num,O (by rw [HST.o,List.length_append,<-hm.o];rfl),hg4,(length_splice _ _ _ (by simp;omega)).trans IP,O ((gR cur m [.int .u8 92,.int .u8 34] (by simp;omega)).trans (by rw [HST.o,cF,hcv.o];simp [iT,sg])),hb4⟩
        case measure=>simp [intOf];omega
       ·by_cases oG:s[k].toNat=92
        ·rw [if_pos (.inr oG)] at hst;have HST:=O hst;rw [hst,List.length_append,<-hm.o] at hle;simp only [List.length_cons,List.length_nil] at hle;clear hst;go_wp2_with fail;have hs2:=sJ hB.o QQ.o;have e1:m<=n:=by omega
         have e2:¬n=m:=by omega
         have e3:(m:Int)<=(n:Int):=by omega
         go_region_law (refine step_copy_splice rfl (.tmp 105) (.tmp 111) 150 150 rfl 5 Tryz.underlying150 (by kernel_rfl) (some ⟨g,m,none⟩) (some ⟨Q,0,none⟩) (n-m) (n-m) 2 d' (by simp [Act.eval]) (by simp [Act.eval]) g m cur 5 MK.o [.int .u8 92,.int .u8 92] (by simp [Nat.min_def];omega) (λ_=>⟨rfl,_,rfl,hs2⟩) (by simp;omega) (by intro v hv;simp at hv;rcases hv with rfl|rfl <;> rfl) w.heap.size w hB.o.drew GB.o ?_;intro w4 hg4 hb4);go_wp2_with fail;go_roundw
         case rel=>exact⟨k+1,m+2,_,by omega,by go_num,by go_num,O (by rw [HST.o,List.length_append,<-hm.o];rfl),hg4,(length_splice _ _ _ (by simp;omega)).trans IP,O ((gR cur m [.int .u8 92,.int .u8 92] (by simp;omega)).trans (by rw [HST.o,cF,hcv.o];simp [iT,oG])),hb4⟩
         case measure=>simp [intOf];omega
        ·rw [if_neg (λe=>e.elim sg oG)] at hst;have HST:=O hst;rw [hst,List.length_append,<-hm.o] at hle;simp only [List.length_cons,List.length_nil] at hle;have pn:=R1.o.tab.at_ s[k].toNat hb;rw [R1.o.o _ sg oG] at pn;have e1:m<n:=by omega
         have e3:(m:Int)<(n:Int):=by omega
         have IM:m<cur.length:=by omega
         have d0:=MK.o.cell (List.getElem?_eq_getElem IM);have d1:=MK.o.thaw m;clear hst;go_wp2_with fail;go_roundw
         case rel=>exact⟨k+1,m+1,_,by omega,by go_num,by go_num,O (by rw [HST.o,List.length_append,<-hm.o];rfl),O (MK.o.set m _),by simpa using IP,O ((EE IM _).trans (by rw [HST.o,cF,hcv.o];rfl)),hB.o.setCell (p:=⟨g,m,none⟩) GB.o _⟩
         case measure=>simp [intOf];omega
      ·have ek:s.data.toList.take k=s.data.toList:=List.take_of_length_le (by omega);rw [ek] at hm hcv;have IL:cur.length<=m:=by rw [IP,hm.o,HN.o];exact Nat.le_refl _
       have Ro:cur=iT (quo s.data.toList):=by
        have:=hcv.o;rwa [List.take_of_length_le IL] at this
       have WT:=uW wr g s (Ro ▸ MK.o);rw [HN.o] at WT;clear ek hm hcv IP Ro;go_wp2_with fail;go_ret;exact⟨rfl,hB.o⟩
theorem yU(b G C:Nat)(s:ByteArray)(w:World)(h:AN w b G C)(UX:b≠G)(hs:s.size<=60):
 Calls Tryz.prog 78 #[.pointer (some ⟨b,0,none⟩),.string s] w λe w'=>e = .returned (.string (cH (quo s.data.toList)))/\∃w1,w.grownBy w1 (some b)/\Below w1.heap.size w1 w':=by
 have K:=O (RG b G C w h UX);clear h;go_enter Tryz.func78,Tryz.ntmps78;go_wp2_with fail;refine(K.o).mono ?_;rintro e w1 ⟨X,f,T,c,rfl,hX,R,h3,hg⟩;have KR:=O (TO X T c f s w1 R hs);have HG:=O hg;clear R hg K;go_wp2_with fail;refine(KR.o).mono ?_;rintro e w2 ⟨rfl,b2⟩;go_wp2_with fail;go_ret;exact⟨rfl,w1,HG.o,b2⟩
theorem Ig(s:ByteArray):(⟨#[34]⟩:ByteArray)++ cH (quo s.data.toList)++⟨#[34]⟩=Wk.quoted s:=by
 refine bB ?_;rw [Em];simp [ByteArray.data_append,cH]
theorem sQ(s:ByteArray)(w:World)(hs:s.size<=maxLen):
 Calls Tryz.prog 35 #[.string s] w λe w'=>e = .returned (.tuple #[.string (Sq s),je (zx s)])/\Below w.heap.size w w':=by
 have K:=O (dZ s w hs);by_cases h0:zx s=0
 ·rw [h0,zj] at K;have h60:s.size<=60:=by
   unfold zx at h0;by_cases h:60<s.size
   ·rw [if_pos h] at h0;cases h0
   ·omega
  have HV:=O (show Sq s=Wk.quoted s from if_pos h0);rw [h0,zj,HV.o];clear h0;go_enter Tryz.func35,Tryz.ntmps35;go_wp2_with fail;refine(K.o).mono ?_;rintro e w1 ⟨rfl,b1⟩;have B1:=O b1;clear b1 K;go_wp2_with fail;have T2:=O (ag w1 [.string ⟨#[92]⟩,.string ⟨#[92,92]⟩,.string ⟨#[34]⟩,.string ⟨#[92,34]⟩] 9);have B2:=bh B1 (za w1 (.cells #[.string ⟨#[92]⟩,.string ⟨#[92,92]⟩,.string ⟨#[34]⟩,.string ⟨#[92,34]⟩] 9));obtain⟨w2,hw2⟩:∃w2,w1.alloc (.cells #[.string ⟨#[92]⟩,.string ⟨#[92,92]⟩,.string ⟨#[34]⟩,.string ⟨#[92,34]⟩] 9)=w2:=⟨_,rfl⟩
  have e2:w1.alloc (.cells [Value.string ⟨#[92]⟩,.string ⟨#[92,92]⟩,.string ⟨#[34]⟩,.string ⟨#[92,34]⟩].toArray 9)=w2:=hw2;rw [e2] at T2;rw [hw2] at B2 ⊢;clear hw2 e2;refine(QT w1.heap.size w2 (by simpa [Addr.add] using T2.o 0 _ rfl) (by simpa [Addr.add] using T2.o 1 _ rfl) (by simpa [Addr.add] using T2.o 2 _ rfl) (by simpa [Addr.add] using T2.o 3 _ rfl)).mono ?_;rintro e w3 ⟨b,G,C,rfl,hN,UX,hb,b3⟩;have B3:=bh B2 b3;have KR:=O (yU b G C s w3 hN UX h60);have HB:=O (show w.heap.size<=b from Nat.le_trans B2.o.size hb);clear T2 hN b3 B2 hb UX B1;go_wp2_with fail;refine(KR.o).mono ?_;rintro e w4 ⟨rfl,w5,hg,b4⟩;have B4:=O ((B3.o.trans (jE hg HB.o B3.o.size)).trans (b4.mono (Nat.le_trans B3.o.size hg.size)));clear KR hg b4;have hz:(cH (quo s.data.toList)).size<=120:=by
   rw [px];have:=(kg s.data.toList).2;rw [lD] at this;omega
  have HS:=O (Ig s);generalize cH (quo s.data.toList)=q at *;go_wp2_with fail;go_ret2;exact⟨by rw [<-HS.o];rfl,B4.o⟩
 ·have HE:=O (zm h0);have HV:=O (show Sq s=⟨#[]⟩ from if_neg h0);rw [HE.o] at K;rw [HE.o,HV.o];clear h0;go_enter Tryz.func35,Tryz.ntmps35;go_wp2_with fail;refine(K.o).mono ?_;rintro e w1 ⟨rfl,b1⟩;have B1:=O b1;clear b1 K;go_wp2_with fail;go_ret2;exact⟨rfl,B1.o⟩
end Go.Proofs.YthifljpkgfpkiaaGreatDoor
namespace Go.Proofs.YthifljpkgfpkiaaGreatDoor
open Go.RowKit Go.Shelf
end Go.Proofs.YthifljpkgfpkiaaGreatDoor
namespace Go.Proofs.YthifljpkgfpkiaaGreatDoor
open Go.RowKit Go.Wk
end Go.Proofs.YthifljpkgfpkiaaGreatDoor
namespace Go.Proofs.YthifljpkgfpkiaaGreatDoor
open Go.RowKit
end Go.Proofs.YthifljpkgfpkiaaGreatDoor
namespace Go.Proofs.YthifljpkgfpkiaaGreatDoor
open Go.RowKit Go.Wk
theorem qT(w:World)(x y:Value)(t:TypeId):(w.alloc (.cells #[x,y] t)).cell? ⟨w.heap.size,0,none⟩=some x/\(w.alloc (.cells #[x,y] t)).cell? ⟨w.heap.size,1,none⟩=some y :=
 ⟨zt (heap_alloc_last w _) rfl,zt (heap_alloc_last w _) rfl⟩
theorem fU(a b:ByteArray)(w:World)(ha:a.size<=maxLen)(hb:b.size<=maxLen):
 Calls Tryz.prog 36 #[.agg #[.string a,.string b]] w λe w'=>e = .returned (.tuple #[.string (Im (a,b)),je (zN (a,b))])/\Below w.heap.size w w':=by
 have KC:=O (λw=>aL a w ha);have KQ:=O (λw=>sQ b w hb);have CC:=O (qT w (.string a) (.string b) 28);have B0:=O (za w (.cells #[.string a,.string b] 28));by_cases h1:zk a=0
 ·have HE:=O (show zN (a,b)=zx b from if_pos h1);rw [h1,zj] at KC;have hna:=Tn h1;by_cases h2:zx b=0
  ·have HV:=O (show Im (a,b)=wrt (a,b) from if_pos (ig.2 ⟨h1,h2⟩));have hq:=kg b.data.toList;have htb:=RH h2;have hqs:(Wk.quoted b).size<=122:=by rw [Dj];rw [lD] at hq;omega
   have HS:=O (Tq (a,b));unfold Sq at KQ;rw [h2,zj,if_pos rfl] at KQ;rw [HE.o,HV.o,h2,zj];clear h1 h2 hq;go_enter Tryz.func36,Tryz.ntmps36;go_wp2_with fail;obtain⟨w0,hw0⟩:∃w0,w.alloc (.cells #[.string a,.string b] 28)=w0:=⟨_,rfl⟩
   rw [hw0] at CC B0 ⊢;clear hw0;refine(KC.o w0).mono ?_;rintro e w1 ⟨rfl,b1⟩;have B1:=bh B0 b1;have c0:=zb b1 CC.o.1;have c1:=zb b1 CC.o.2;clear KC B0 CC;go_wp2_with fail;refine(KQ.o w1).mono ?_;rintro e w2 ⟨rfl,b2⟩;have B2:=bh B1 b2;have d0:=zb b2 c0;have d1:=zb b2 c1;clear KQ B1 c0 c1 b1 b2;generalize Wk.quoted b=q at *;go_wp2_with fail;go_ret2;exact⟨by rw [<-HS.o];rfl,B2.o⟩
  ·have HV:=O (show Im (a,b)=⟨#[]⟩ from if_neg (λh=>h2 (ig.1 h).2));rw [zm h2] at KQ;rw [HE.o,HV.o,zm h2];clear h1 h2;go_enter Tryz.func36,Tryz.ntmps36;go_wp2_with fail;obtain⟨w0,hw0⟩:∃w0,w.alloc (.cells #[.string a,.string b] 28)=w0:=⟨_,rfl⟩
   rw [hw0] at CC B0 ⊢;clear hw0;refine(KC.o w0).mono ?_;rintro e w1 ⟨rfl,b1⟩;have B1:=bh B0 b1;have c0:=zb b1 CC.o.1;have c1:=zb b1 CC.o.2;clear KC B0 CC;go_wp2_with fail;refine(KQ.o w1).mono ?_;rintro e w2 ⟨rfl,b2⟩;have B2:=bh B1 b2;clear KQ B1 c0 c1 b1 b2;go_wp2_with fail;go_ret2;exact⟨rfl,B2.o⟩
 ·have HE:=O (show zN (a,b)=zk a from if_neg h1);have HV:=O (show Im (a,b)=⟨#[]⟩ from if_neg (λh=>h1 (ig.1 h).1));rw [zm h1] at KC;rw [HE.o,HV.o,zm h1];clear h1;go_enter Tryz.func36,Tryz.ntmps36;go_wp2_with fail;obtain⟨w0,hw0⟩:∃w0,w.alloc (.cells #[.string a,.string b] 28)=w0:=⟨_,rfl⟩
  rw [hw0] at CC B0 ⊢;clear hw0;refine(KC.o w0).mono ?_;rintro e w1 ⟨rfl,b1⟩;have B1:=bh B0 b1;clear KC B0 CC b1;go_wp2_with fail;go_ret2;exact⟨rfl,B1.o⟩
structure Vr2(w:World)(b:Nat)(x y:Value):Prop where
 c0:w.cell? ⟨b,0,none⟩=some x
 c1:w.cell? ⟨b,1,none⟩=some y
 z0:w.frozen? ⟨b,0,none⟩=false
 z1:w.frozen? ⟨b,1,none⟩=false
theorem Vr2.keep{w w':World}{b:Nat}{x y:Value}(h:Vr2 w b x y)(hb:Below w.heap.size w w'):Vr2 w' b x y :=
 have hl:=block_lt_of_cell h.c0
 ⟨zb hb h.c0,zb hb h.c1,by rw [(bv hb).2 b 0 hl];exact h.z0,by rw [(bv hb).2 b 1 hl];exact h.z1⟩
theorem kM(w:World)(x y:Value)(t:TypeId):Vr2 (w.alloc (.cells #[x,y] t)) w.heap.size x y :=
 ⟨(qT w x y t).1,(qT w x y t).2,by simp,by simp⟩
theorem Vr2.set{w:World}{b:Nat}{x y:Value}(h:Vr2 w b x y)(x' y':Value):Vr2 ((w.setCell ⟨b,0,none⟩ x').setCell ⟨b,1,none⟩ y') b x' y':=by
 have h1:(w.setCell ⟨b,0,none⟩ x').cell? ⟨b,1,none⟩=some y:=(World.cell?_setCell_other _ ⟨b,0,none⟩ ⟨b,1,none⟩ _ (by intro e;injection e with _ e;cases e)).trans h.c1;refine⟨(World.cell?_setCell_other _ ⟨b,1,none⟩ ⟨b,0,none⟩ _ (by intro e;injection e with _ e;cases e)).trans (World.cell?_setCell_same _ _ _ h.c0),World.cell?_setCell_same _ _ _ h1,?_,?_⟩
 ·rw [World.frozen?_setCell,World.frozen?_setCell];exact h.z0
 ·rw [World.frozen?_setCell,World.frozen?_setCell];exact h.z1
end Go.Proofs.YthifljpkgfpkiaaGreatDoor
namespace Go.Proofs.YthifljpkgfpkiaaGreatDoor
open Go.RowKit Go.Wk Go.Sort
theorem rq{P:Program}{f:FuncId}{args:Array Value}{w:World}{v:Value}(h:∀w',Below w.heap.size w w'->Calls P f args w' λe w''=>e = .returned v/\Below w'.heap.size w' w''):
 ∀d os,Calls P f args (grow (redrawn w d) os) λe w''=>e = .returned v/\∃p:Regrown,w''=grow (redrawn w p.d) p.os :=
 λd os=>Calls.regrown_of (h _ (below_regrown w d os))
structure Nd4(w:World)(a:Addr)(x:Nd):Prop where
 c0:w.cell? a=some (.int .i64 x.op)
 c1:w.cell? ⟨a.block,a.off+1,none⟩=some (.int .i64 x.n)
 c2:w.cell? ⟨a.block,a.off+2,none⟩=some (.string x.s)
 c3:w.cell? ⟨a.block,a.off+3,none⟩=some (.string x.t)
theorem Nd4.keep{w w':World}{a:Addr}{x:Nd}(h:Nd4 w a x)(hb:Below w.heap.size w w'):Nd4 w' a x :=
 ⟨zb hb h.c0,zb hb h.c1,zb hb h.c2,zb hb h.c3⟩
theorem jL.nd{w:World}{A:Option Addr}{P:List Nd}(h:jL w A P){k:Nat}(hk:k<P.length):∃a,A=some a/\Nd4 w (a.add (k*4)) P[k] :=
 let ⟨a,e,h1,h2,h3,h4⟩:=h k P[k] (List.getElem?_eq_getElem hk);⟨a,e,h1,h2,h3,h4⟩
theorem bi.seg{P:List Nd}(h:bi P)(i j:Nat):bi (seg P i j):=λx hx=>h x (List.mem_of_mem_drop (List.mem_of_mem_take hx))
structure Sl where
 A:Option Addr
 n:Nat
 c:Nat
 P:List Nd
def Sl.v(r:Sl):Value := .slice r.A r.n r.c
def jM(w:World)(A:Option Addr)(V:List Sl):Prop :=
 ∀(k:Nat) (r:Sl),V[k]?=some r->∃a,A=some a/\w.cell? (a.add k)=some (.slice r.A r.n r.c)/\Ns w r.A r.n r.c r.P
theorem jM.keep{w w':World}{A:Option Addr}{V:List Sl}(h:jM w A V)(hb:Below w.heap.size w w'):jM w' A V :=
 λk r hk=>let ⟨a,h1,h2,h3⟩:=h k r hk;⟨a,h1,zb hb h2,h3.keep hb⟩
theorem jM.at{w:World}{A:Option Addr}{V:List Sl}(h:jM w A V){k:Nat}(hk:k<V.length):∃a,A=some a/\w.cell? (a.add k)=some (.slice V[k].A V[k].n V[k].c)/\Ns w V[k].A V[k].n V[k].c V[k].P :=
 h k V[k] (List.getElem?_eq_getElem hk)
theorem Ns.but{w w':World}{A:Option Addr}{n c:Nat}{P:List Nd}{R:Nat}(h:Ns w A n c P)(hg:w.grownBy w' (some R))(hR:0<P.length->∀a,A=some a->a.block≠R):Ns w' A n c P:=by
 refine⟨h.len,h.cap,h.max,?_,h.ok⟩;rcases Nat.eq_zero_or_pos P.length with h0|h0
 ·intro k x hx;have:P = []:=List.eq_nil_of_length_eq_zero h0;subst this;simp at hx
 ·exact h.at_.but hg (hR h0)
def bj(r:Sl)(g:Option Nat):Prop:=0<r.P.length->∀a,r.A=some a->g≠some a.block
theorem Ns.row{w w':World}{r:Sl}{g:Option Nat}(h:Ns w r.A r.n r.c r.P)(hg:w.grownBy w' g)(ha:bj r g):Ns w' r.A r.n r.c r.P:=by
 rcases g with _|g
 ·exact h.keep (ke hg)
 ·exact h.but hg (λh0 a e q=>ha h0 a e (by rw [q]))
structure zU(w:World)(B:Nat)(v:Value)(V:List Sl):Prop where
 own:w.ownsRow B 29 1 v V.length (V.map Sl.v)
 each:∀r∈V,Ns w r.A r.n r.c r.P
 apart:∀r∈V,bj r v.ownBlock
theorem zU.nil(w:World)(B:Nat):zU w B (.slice none 0 0) []:=⟨World.ownsRow_nil w B _ 1,(by intro r hr;cases hr),(by intro r hr;cases hr)⟩
theorem zU.keep{w w':World}{B:Nat}{v:Value}{V:List Sl}(h:zU w B v V)(hb:Below w.heap.size w w'):zU w' B v V :=
 ⟨h.own.kept (zc hb none) (by cases hv:v.ownBlock <;> simp),λr hr=>(h.each r hr).keep hb,h.apart⟩
theorem zU.row{w w':World}{B:Nat}{v:Value}{V:List Sl}{g:Option Nat}(h:zU w B v V)(hg:w.grownBy w' g)(hne:v.ownBlock=none\/v.ownBlock≠g)(ha:∀r∈V,bj r g):zU w' B v V :=
 ⟨h.own.kept hg hne,λr hr=>(h.each r hr).row hg (ha r hr),h.apart⟩
theorem zU.snoc{w w':World}{B:Nat}{v v':Value}{V:List Sl}{r:Sl}{o:Obj}(h:zU w B v V)(hr:Ns w r.A r.n r.c r.P)(ha:bj r v.ownBlock)
 (hown:w'.ownsRow B 29 1 v' (V.length+1) (V.map Sl.v ++ [r.v])) (hg:(w.alloc o).grownBy w' v.ownBlock) (hat:v'.ownBlock=v.ownBlock\/v'.ownBlock=some (w.alloc o).heap.size):zU w' B v' (V ++ [r]):=by
 have hba:Below w.heap.size w (w.alloc o):=za w o;have hlt:∀x∈V ++ [r],Ns w x.A x.n x.c x.P/\bj x v.ownBlock:=by
  intro x hx;rcases List.mem_append.1 hx with h1|h1
  ·exact⟨h.each x h1,h.apart x h1⟩
  ·simp only [List.mem_cons,List.not_mem_nil,or_false] at h1;subst h1;exact⟨hr,ha⟩
 refine⟨?_,λx hx=>((hlt x hx).1.keep hba).row hg (hlt x hx).2,λx hx h0 a e=>?_⟩
 ·simpa using hown
 ·rcases hat with e'|e'
  ·rw [e'];exact(hlt x hx).2 h0 a e
  ·rw [e'];have:=(hlt x hx).1.at_.lt h0 a e;intro q;injection q with q;simp at q;omega
theorem zU.at{w:World}{B:Nat}{v:Value}{V:List Sl}(h:zU w B v V):∃A c,v = .slice A V.length c/\V.length<=c/\jM w A V:=by
 rcases h.own.2 with ⟨rfl,h0⟩|⟨g,cap,cur,rfl,_,_,hc,_⟩
 ·have:V = []:=List.eq_nil_of_length_eq_zero h0;subst this;exact⟨none,0,rfl,Nat.le_refl _,λk r hk=>by simp at hk⟩
 ·refine⟨some ⟨g,0,none⟩,cap,rfl,hc,λk r hk=>⟨_,rfl,?_,h.each r (List.mem_of_getElem? hk)⟩⟩;exact h.own.cells (g:=g) rfl k _ (by rw [List.getElem?_map,hk];rfl)
theorem nL:(Tryz.prog.info? 29).map (λi=>(i.zero,i.size,i.bytes))=some (some (.slice none 0 0),1,24):=by kernel_rfl
theorem jL.cells{w:World}{a:Addr}{P:List Nd}(h:jL w (some a) P):∀j u,(zD P)[j]?=some u->w.cell? (a.add j)=some u:=by
 intro j u hu;have hl:=az P;have hj:j<(zD P).length:=(List.getElem?_eq_some_iff.1 hu).1;have hk:j / 4<P.length:=by omega
 obtain⟨h1,h2,h3,h4⟩:=ue P (j / 4) P[j / 4] (List.getElem?_eq_getElem hk);obtain⟨b,e,q1,q2,q3,q4⟩:=h (j / 4) P[j / 4] (List.getElem?_eq_getElem hk);injection e with e;subst e;have hr:j % 4=0\/j % 4=1\/j % 4=2\/j % 4=3:=by omega
 have nx:∀(x d:Nat),0<d->(⟨(a.add x).block,(a.add x).off+d,none⟩:Addr)=a.add (x+d):=by
  intro x d hd;unfold Addr.add;by_cases hx:x=0
  ·subst hx;simp;omega
  ·simp [hx,Nat.add_assoc]
 rcases hr with hr|hr|hr|hr
 ·have e:j=j / 4*4:=by omega
  rw [<-e] at h1 q1;rw [hu] at h1;rw [h1];exact q1
 ·have e:j=j / 4*4+1:=by omega
  rw [nx _ _ (by omega),<-e] at q2;rw [<-e] at h2;rw [hu] at h2;rw [h2];exact q2
 ·have e:j=j / 4*4+2:=by omega
  rw [nx _ _ (by omega),<-e] at q3;rw [<-e] at h3;rw [hu] at h3;rw [h3];exact q3
 ·have e:j=j / 4*4+3:=by omega
  rw [nx _ _ (by omega),<-e] at q4;rw [<-e] at h4;rw [hu] at h4;rw [h4];exact q4
theorem bG(P:List Nd):∀u∈zD P,u.oneCell'=true:=by
 induction P with
 | nil=>intro u hu;cases hu
 | cons x P ih =>
  intro u hu
  simp only [zD,List.mem_cons] at hu
  rcases hu with rfl|rfl|rfl|rfl|hu
  ·rfl
  ·rfl
  ·rfl
  ·rfl
  ·exact ih u hu
theorem kF:(Tryz.prog.info? 47).map (λi=>(i.zero,i.size,i.bytes))=some (some (.agg #[.int .i64 0,.int .i64 0,.string ⟨#[]⟩,.string ⟨#[]⟩]),4,48):=by kernel_rfl
theorem aM{w:World}{B:Nat}{v:Value}{P:List Nd}(h:w.ownsRow B 47 4 v P.length (zD P)):∃A c,v = .slice A P.length c/\P.length<=c/\jL w A P/\(∀a,A=some a->B<=a.block):=by
 rcases h.2 with ⟨rfl,h0⟩|⟨g,cap,cur,rfl,hB,_,hc,_⟩
 ·have:P = []:=List.eq_nil_of_length_eq_zero h0;subst this;exact⟨none,0,rfl,Nat.le_refl _,λk x hx=>by simp at hx,λa e=>by cases e⟩
 ·exact⟨some ⟨g,0,none⟩,cap,rfl,hc,oL (h.cells (g:=g) rfl),λa e=>by injection e with e;subst e;exact hB⟩
def Dc(w:World)(P:List Nd)(e:Ending)(w':World):Prop:=∃(A:Option Addr) (c:Nat),e = .returned (.slice A P.length c)/\Ns w' A P.length c P/\(∀a,A=some a->w.heap.size<=a.block)/\Below w.heap.size w w'
theorem rm(a:Addr)(n c:Nat)(P:List Nd)(w:World)(h:Ns w (some a) n c P)(hl:P.length<=100000):
 Calls Tryz.prog 149 #[.slice (some a) n c] w (Dc w P):=by
 obtain⟨i0,hi,hz0,hz1,hz2⟩:=info_parts kF;have hn:=h.len;have HC:=O (λw' hb=>(h.at_.keep (w':=w') hb).cells);have HO:=O h.ok;have HL:=O hl;clear h hl;subst hn;have hnil:=λw:World=>Lib.run_eql_slice_nil (P:=Tryz.prog) w 29 47 (some a) P.length c 0 0 Tryz.underlying29;simp only [Option.isNone_some] at hnil;go_enter Tryz.func149,Tryz.ntmps149;have hB:∀W:World,(W.alloc (.cells #[] 47)).ownsRow W.heap.size 47 4 (.slice (some ⟨W.heap.size,0,none⟩) 0 0) 0 []:=λW =>
  ⟨rfl,.inr ⟨_,0,#[],rfl,Nat.le_refl _,heap_alloc_new W _,Nat.le_refl _,by unfold maxLen;omega,rfl,rfl⟩⟩
 go_wp2_with (at_builtin;refine wpList_append_own _ rfl _ _ 29 rfl w.heap.size 47 i0 _ 4 48 Tryz.underlying29 hi hz0 hz1 hz2 rfl (by decide) _ 0 [] rfl (hB w) a P.length c (zD P) rfl (az P) (HC.o _ (za _ _)) (bG P) ?c1 ?c2 ?c3 ?_)
 case c1=>have:=HL.o;unfold maxLen;omega
 case c2=>have:=HL.o;omega
 case c3=>simp
 intro v1 w1 hown hgrow _;have HW:=O hown;have HG:=O hgrow;clear hown hgrow hnil;go_wp2_with fail;go_ret;obtain⟨A,c',rfl,h1,h2,h3⟩:=aM HW.o;refine⟨A,c',rfl,⟨rfl,h1,by have:=HL.o;unfold maxLen;omega,h2,HO.o⟩,h3,?_⟩;exact(za w _).grown HG.o (by simp) (λk hk=>by simp [Value.ownBlock] at hk;omega)
def xG(w:World)(L:List (List Nd))(N:List ByteArray)(e:Ending)(w':World):Prop :=
 ∃(v v':Value) (V:List Sl),e = .returned (.tuple #[v,v'])/\zU w' w.heap.size v V/\V.map Sl.P=L/\w'.ownsRow w.heap.size 9 1 v' N.length (N.map Value.string)/\(∀r∈V,∀a,r.A=some a->w.heap.size<a.block)/\Below w.heap.size w w'
theorem E6{w:World}{B B' n:Nat}{e:TypeId}{size:Nat}{v:Value}{xs:List Value}(h:w.ownsRow B e size v n xs)(hB:B'<=B):w.ownsRow B' e size v n xs:=by
 refine⟨h.1,?_⟩;rcases h.2 with h2|⟨g,cap,cur,hv,hg,r⟩
 ·exact .inl h2
 ·exact .inr ⟨g,cap,cur,hv,Nat.le_trans hB hg,r⟩
theorem zU.mono{w:World}{B B':Nat}{v:Value}{V:List Sl}(h:zU w B v V)(hB:B'<=B):zU w B' v V:=⟨E6 h.own hB,h.each,h.apart⟩
theorem dB.row{w w':World}{R p:Nat}{v:Value}{g:Option Nat}(h:dB w R v p)(hg:w.grownBy w' g)(hne:some R≠g):dB w' R v p :=
 ⟨hg.cell h.c0 hne,hg.cell h.c1 hne,(World.frozen?_of_block (w:=w) (hg.block R h.lt hne)).trans h.f1⟩
def qZ(R:Nat)(V:List Sl):Prop:=∀r∈V,∀a,r.A=some a->R<a.block
theorem qZ.apart{R:Nat}{V:List Sl}(h:qZ R V):∀r∈V,bj r (some R):=λr hr _ a e q=>by
 have:=h r hr a e;injection q with q;omega
theorem qZ.snoc{R:Nat}{V:List Sl}{r:Sl}(h:qZ R V)(hr:∀a,r.A=some a->R<a.block):qZ R (V ++ [r]):=by
 intro x hx;rcases List.mem_append.1 hx with h1|h1
 ·exact h x h1
 ·simp only [List.mem_cons,List.not_mem_nil,or_false] at h1;subst h1;exact hr
theorem lY{w:World}{B n:Nat}{e:TypeId}{size:Nat}{v:Value}{xs:List Value}(h:w.ownsRow B e size v n xs){R:Nat}(hR:R<B):v.ownBlock=none\/v.ownBlock≠some R:=by
 rcases hv:v.ownBlock with _|g
 ·exact .inl rfl
 ·have:=jk h g hv;exact .inr (λq=>by injection q with q;omega)
theorem sk{w:World}{B n:Nat}{e:TypeId}{size:Nat}{v:Value}{xs:List Value}(h:w.ownsRow B e size v n xs){R:Nat}(hR:R<B):some R≠v.ownBlock:=by
 rcases lY h hR with h|h
 ·rw [h];simp
 ·exact λq=>h q.symm
theorem tJ{w:World}{a:Addr}{n c:Nat}{P:List Nd}(h:Ns w (some a) n c P){i j:Nat}(h1:i<=j)(h2:j<=n):Ns w (some (a.add (i*4))) (j-i) (c-i) (seg P i j):=by
 have:=h.len;have:=h.cap;have:=h.max;exact⟨(jV (by omega)).symm,by omega,by omega,h.at_.seg i j,h.ok.seg i j⟩
theorem EI{v:List Nd}{f:Nat->Option Nat}{N k:Nat}{q n:Nat}(hk:k<N)(h:∃lo,jb v f (N-k) lo q=some n):
 ∃e,f q=some e/\(∃lo,jb v f (N-(k+1)) lo e=some n)/\bL v f (N-k) q=seg v q e :: bL v f (N-(k+1)) e:=by
 obtain⟨lo,h⟩:=h;obtain⟨j,hj⟩:∃j,N-k=j+1:=⟨N-k-1,by omega⟩
 rw [hj] at h;rw [hj,show N-(k+1)=j by omega];simp only [jb] at h;rcases hf:f q with _|e
 ·rw [hf] at h;cases h
 ·rw [hf] at h;simp only at h;split at h
  ·exact⟨e,rfl,⟨_,h⟩,by simp only [bL,hf]⟩
  ·cases h
theorem Mq(A:Option Addr)(n c:Nat)(P:List Nd)(w:World)(h:Ns w A n c P)(hv:zh P=0)(h5:zg P=5):
 Calls Tryz.prog 117 #[.slice A n c] w (xG w (zn P) []):=by
 obtain⟨i0,hi,hz0,hz1,hz2⟩:=info_parts nL;obtain⟨ci,hV⟩:=zy.1 hv;have cg:=hV.pos;obtain⟨a,rfl,D⟩:=h.at_.nd cg;have hn:=h.len;obtain⟨hs0,_,hop,hx0,hN⟩:=NH hV h5;have hE:zn P=bL P (zq P (P.length+1)) P[0].n.toNat 1:=by unfold zn;rw [hN]
 rw [hN] at hs0;obtain⟨-,-,-,XS⟩:=h.ok.at cg;have K:=O (λq w' (hb:Below w.heap.size w w') rd hq=>pD (some a) P n c w.heap.size hn h.cap h.max h.ok (λh0 a' e=>by have:=h.at_.lt h0 a' e;omega) (P.length+1) q w' rd (h.at_.keep hb) (by omega:n-q<P.length+1));have HN:=O h;have HL:=O hn;have H0:=O hs0;have HE:=O hE;rw [show a.add (0*4)=a from rfl] at D;obtain⟨d0,d1,d2,d3⟩:=D;have r0:dB (w.alloc (.cells #[.slice (some a) n c,.int .i64 1] 140)) w.heap.size (.slice (some a) n c) 1:=⟨by simp,by simp,by simp⟩
 rw [hop] at d0;have d1':=λo:Obj=>zb (za w o) d1;generalize P[0]=x at *;have hn200:n<=200:=by omega
 have hn1:0<n:=by omega
 clear h hv h5 hV hn hs0 hE hN ci hop;go_enter Tryz.func117,Tryz.ntmps117;go_wp2_with fail;clear d1';go_loopw [2,3,12] (λv v' i wr=>∃(k q:Nat) (V:List Sl),i = .int .i64 k/\v' = .slice none 0 0/\(k:Int)<=x.n/\q<=n/\k+1<=q/\V.length=k/\Hid (zn P=V.map Sl.P ++ bL P (zq P (P.length+1)) (x.n.toNat-k) q)/\
  Hid (∃lo,jb P (zq P (P.length+1)) (x.n.toNat-k) lo q=some P.length)/\Hid (zU wr (w.heap.size+1) v V)/\Hid (qZ w.heap.size V)/\Hid (dB wr w.heap.size (.slice (some a) n c) q)/\Hid (Below w.heap.size w wr)) (λ_ _ i _=>(x.n-intOf i).toNat)
 case atStart=>exact⟨0,1,[],rfl,rfl,hx0,hn1,by omega,rfl,HE.o,⟨none,H0.o⟩,zU.nil _ _,(by intro r hr;cases hr),r0,za _ _⟩
 case round =>
  obtain⟨k,q,V,rfl,rfl,hk,hq,hkq,BV,hE,hS,hO,Rx,hrd,hB⟩:=hrel;have e0:=zb hB.o d0;by_cases hlt:(k:Int)<x.n
  ·obtain⟨e,hf,Yg,hsp⟩:=EI (by omega) hS.o;have hle:=aC _ _ _ hf;rw [<-HL.o] at hle;have C:=O (K.o q wr hB.o hrd.o (by rw [<-HL.o];omega));rw [hf] at C;have ay:=O (hE.o.trans (by rw [hsp]:_=V.map Sl.P ++(seg P q e :: bL P (zq P (P.length+1)) (x.n.toNat-(k+1)) e)));have wb:=O Yg;clear hE hS Yg hsp hf;go_wp2_with fail;refine C.o.mono ?_;rintro e' w2 zX;obtain⟨rfl,r2,g2⟩:=zX;have B2:=O (hB.o.trans (jE g2 (Nat.le_refl _) hB.o.size));have O2:=hO.o.row g2 (lY hO.o.own (by omega)) Rx.o.apart;have CL:=O (rm (a.add (q*4)) (e-q) (c-q) (seg P q e) w2 (tJ (HN.o.keep B2.o) (by omega) hle.2) (by rw [jV (by rw [<-HL.o];omega)];omega));have R2:=O r2;have Z5:=O O2;have hsz2:=B2.o.size;have hsz3:w.heap.size<w2.heap.size:=R2.o.lt;clear O2 r2 g2 hO hB hrd;go_wp2_with fail;refine CL.o.mono ?_;rintro e' w3 zX;obtain⟨A3,c3,rfl,n3,l3,b3⟩:=zX;have B3:=bh B2 b3;have YB:=Z5.o.keep b3;have hR3:=R2.o.keep b3;have O3:=O YB;have R3:=O hR3;have N3:=O (show Ns w3 (⟨A3,(seg P q e).length,c3,seg P q e⟩:Sl).A _ _ _ from n3);have L3:=O (Rx.o.snoc (r:=⟨A3,(seg P q e).length,c3,seg P q e⟩) (λa' h'=>by have:=l3 a' h';omega));have A3p:Hid (bj ⟨A3,(seg P q e).length,c3,seg P q e⟩ u2.ownBlock):=by
    intro h0 a' e' q';have h1:=ej Z5.o.own a'.block q';have h2:=l3 a' e';omega
   have hsz4:=B3.o.size;have Wy:=b3.size;clear b3 n3 l3 YB hR3 Z5 R2 B2 Rx;go_wp2_with (at_builtin;refine wpList_append_own_at _ rfl _ _ 110 rfl (w.heap.size+1) 29 i0 _ 1 24 Tryz.underlying110 hi hz0 hz1 hz2 rfl (by decide) _ V.length (V.map Sl.v) rfl (O3.o.own.alloc _) ⟨_,0,none⟩ 1 1 [.slice A3 (seg P q e).length c3] rfl rfl (cell_one_new _ _ _) (by intro u hu;simp only [List.mem_cons,List.not_mem_nil,or_false] at hu;subst hu;rfl) ?c1 ?c2 ?c3 ?_)
   case c1=>unfold maxLen;omega
   case c2=>omega
   case c3=>simp;omega
   intro v1 w4 hown hgrow _ hat;have B4:=O ((B3.o.alloc B3.o.size _).grown hgrow (by simp;omega) (λg hg=>by have:=jk O3.o.own g hg;omega));have R4:=O ((R3.o.keep (za w3 _)).row hgrow (sk O3.o.own (by omega)));have O4:=O (O3.o.snoc (r:=⟨A3,(seg P q e).length,c3,seg P q e⟩) N3.o A3p.o (by rw [BV];exact hown) hgrow (by simpa using hat));have QX:=O (ay.o.trans (show _=(V ++ [(⟨A3,(seg P q e).length,c3,seg P q e⟩:Sl)]).map Sl.P ++ bL P (zq P (P.length+1)) (x.n.toNat-(k+1)) e by simp));have hl4:(V ++ [(⟨A3,(seg P q e).length,c3,seg P q e⟩:Sl)]).length=k+1:=by simp [BV]
   clear hown hgrow hat O3 R3 N3 A3p ay B3;go_wp2_with fail;go_roundw
   case rel=>exact⟨k+1,e,_,by go_num,rfl,by omega,by omega,by omega,hl4,QX,wb,O4,L3,R4,B4⟩
   case measure=>simp [intOf];omega
  ·have HG:=O (hE.o.trans (show _=V.map Sl.P by rw [show x.n.toNat-k=0 by omega];simp [bL]));clear hE hS hrd;go_wp2_with fail;go_ret2;exact⟨_,_,V,rfl,hO.o.mono (by omega),HG.o.symm,World.ownsRow_nil _ _ _ 1,Rx.o,hB.o⟩
end Go.Proofs.YthifljpkgfpkiaaGreatDoor
