/-
  The frame of every law: a law that returns true and leaves what was there as it was meets its row. DERIVED: THE SHELF's CONTRACTS AT THIS DUMP, IN PLAIN WORDS ..
-/
import Derived.WalkKit
import Derived.WalkSpells
import Derived.WalkLawsBesides
import Derived.BigQuiet
import Derived.Deep.QuietTactic
import Derived.ProofKit
import Derived.OpenShut
import Derived.Carry
import Derived.StillTailTactics
import Derived.Lib.QuietBelow
import Derived.Lib.Hide
import Derived.Shelf.Strings.Builder1
import Derived.Shelf.Strings.Builder2
import Derived.Shelf.Small.Strs
import Derived.Shelf.Small.Wraps
import Derived.Shelf.Strings.BuilderF
import Derived.Shelf.Strings.BuilderK
import Derived.Shelf.Strings.Builder2Cap
import Derived.Shelf.Strings.Search1
import Derived.Shelf.Strings.Search2
import Derived.Shelf.Strings.Search3
import Derived.Shelf.Strings.Count
import Derived.Shelf.Strings.Prefix
import Derived.Shelf.Strings.Split
import Derived.Shelf.Strings.BuilderCap
import Derived.Ground.Names2Prog
import Derived.Shelf.Slices.SearchI
import Derived.Test.YtjcdeikbghjpkaaGreatDoorRows
import Derived.Test.YtjcdeikbghjpkaaGreatDoorProg
import Derived.Test.YtjcdeikbghjpkaaGreatDoorQ1
set_option maxRecDepth 100000
set_option maxHeartbeats 400000
theorem hi9{p:Prop}(h:p):Go.RowKit.Hid p:=Go.Lib.hid h
namespace Go.Proofs.YtjcdeikbghjpkaaGreatDoor
open Go.ChangeShapes Go.WideShapes Go.ChangeAt Go.RowKit
theorem own:ownKnob Tryz.prog.godebug=none:=by kernel_rfl
theorem zrO:laidOutB Tryz.prog=true:=by kernel_rfl
theorem zji{H:Type}{enc:TypeId × Value→H}{P:Program}(hl:laidOutB P=true){W W':World}(hb:Below W.heap.size W W'):
 ∀(ts:List TypeId) (vs:List Value) (ds:List (DataW H)) (ps:List MemPlace),(∀t∈ts,P.readableRec t=true∧t<P.types.size)→
  (∀x∈ps,x.block<W.heap.size)→DataW.TrodAll enc P W 0 (fun _=>true) true ts vs ds ps→DataW.TrodAll enc P W' 0 (fun b=>decide (b<W.heap.size)) true ts vs ds ps:=by
 intro ts
 induction ts with
 | nil =>
  intro vs ds ps _ _ h
  cases vs <;> cases ds <;> simp_all [DataW.TrodAll]
 | cons t ts ih =>
  intro vs ds ps hr hlt h
  match vs,ds,h with
  | v :: vs,d :: ds,h =>
   obtain⟨p,q,h1,h2,rfl⟩:=h
   have ht:=hr t (by simp)
   exact⟨p,q,Below.trod hl ht.1 ht.2 h1 hb (fun x hx=>hlt x (by simp [hx])),
    ih vs ds q (fun t' h'=>hr t' (by simp [h'])) (fun x hx=>hlt x (by simp [hx])) h2,rfl⟩
theorem zhS{H:Type}{enc:TypeId × Value→H}{P:Program}{W:World}{b:Nat}{sp:Nat→Bool}{hd:Bool} :
 ∀(ts:List TypeId) (vs:List Value) (ds:List (DataW H)) (ps:List MemPlace),DataW.TrodAll enc P W b sp hd ts vs ds ps→ds.length=ts.length:=by
 intro ts
 induction ts with
 | nil=>intro vs ds ps h;cases vs <;> cases ds <;> simp_all [DataW.TrodAll]
 | cons t ts ih =>
  intro vs ds ps h
  match vs,ds,h with
  | v :: vs,d :: ds,h =>
   obtain⟨p,q,_,h2,_⟩:=h
   simp [ih vs ds q h2]
theorem zqH{H:Type}{enc:TypeId × Value→H}{P:Program}{f:Func}{s:ChangeSpec}{W W':World}{args:Array Value}{ds gs:List (DataW H)}{before:List MemPlace}{tb:TypeId}
 (hl:laidOutB P=true) (hr0:(f.params.toList.all fun t=>P.readableRec t && decide (t<P.types.size))=true) (hres:f.resultTypes=#[tb]) (hbool:P.underlying tb=some .bool)
 (hv:s.vars = []) (hs:∀ds:List (DataW H),ds.length=f.params.toList.length→s.fn H ds = { results := [.lit (.bool true)],args:=ds })
 (hW:DataW.Whole enc P f.params.toList s.vars false W args.toList ds gs before) (hb:Below W.heap.size W W'):
 s.post enc P f false true false false W args (.bool true) W':=by
 have hlt:=hW.lt;have hW0:=hW;have hr:∀t∈f.params.toList,P.readableRec t=true∧t<P.types.size:=fun t ht=>by simpa using List.all_eq_true.1 hr0 t ht
 obtain⟨p,q,hA,hV,rfl,hfz,_⟩:=hW;rw [hv] at hV;obtain⟨rfl,rfl⟩:gs = []∧q = []:=by
  cases gs with
  | nil=>exact⟨rfl,hV⟩
  | cons g r=>exact absurd hV (by intro h;cases h)
 have hlen:=zhS _ _ _ _ hA;have he:s.fn H (ds ++ [])= { results := [.lit (.bool true)],args:=ds }:=by rw [List.append_nil];exact hs ds hlen
 simp only [List.append_nil] at hlt hW0;refine⟨ds,[],p,[],p,[],hW0,?_,?_,?_,hb.frame _,fun h=>by cases h⟩
 ·rw [he,hres];exact trodAll_mk1 (shut_bool hbool true)
 ·rw [he];exact zji hl hb _ _ _ _ hr hlt hA
 ·rw [he,hv];rfl
theorem znF{P:Program}{id:Nat}{Q:Exit→Act→World→Prop}{a:Act}{w:World}{l:List Oper}(n:Nat)(hm:P.follows .mixedOrders=true)(hB:Region.lexTailB .any l.toArray n=true)
 (h:wpStill P l.toArray w.drew (fun a'=>wpList P l.toArray Q (l.drop n) a' w.drew) (l.take n) a):(Code.region id l.toArray true).wp P Q a w :=
 wp_region_still_tail n hm hB h
theorem _root_.Go.RowKit.Below.drewN{B:Nat}{a w:World}(h:Below B a w)(n:Nat):Below B a (w.drewN n):=⟨h.os,h.tape,h.output,h.size,h.block⟩
theorem zb{w w':World}(hb:Below w.heap.size w w'){a:Addr}{v:Value}(h:w.cell? a=some v):w'.cell? a=some v :=
 (hb.cell (block_lt_of_cell h)).trans h
theorem toList_inj{a b:ByteArray}(h:a.toList=b.toList):a=b:=by
 rw [ByteArray.toList_eq,ByteArray.toList_eq] at h;cases a;cases b;simp at h;simp [h]
theorem zar{W w1:World}(hb:Below W.heap.size W w1):(∀b o,b<W.heap.size→w1.cell? ⟨b,o,none⟩=W.cell? ⟨b,o,none⟩)∧(∀b o,b<W.heap.size→w1.frozen? ⟨b,o,none⟩=W.frozen? ⟨b,o,none⟩):=
 ⟨fun b o h=>hb.cell (p:=⟨b,o,none⟩) h,fun b o h=>hb.frozen (p:=⟨b,o,none⟩) h⟩
@[simp] theorem size_drewN (w:World) (n:Nat):(w.drewN n).heap.size=w.heap.size:=rfl
theorem zV(w:World)(l:List Value)(t:TypeId):∀j u,l[j]?=some u→(w.alloc (.cells l.toArray t)).cell? ((⟨w.heap.size,0,none⟩:Addr).add j)=some u:=by
 intro j u h;have e:(⟨w.heap.size,0,none⟩:Addr).add j=⟨w.heap.size,j,none⟩:=by
  unfold Addr.add;split
  ·rename_i h0;subst h0;rfl
  ·simp
 rw [e,World.cell?_alloc_at _ _ _ _ rfl];simpa using h
theorem zD{w:World}{B:Nat}{e:TypeId}{size n:Nat}{v:Value}{xs:List Value}(h:w.ownsRow B e size v n xs):∀g,v.ownBlock=some g→B≤g:=by
 intro g hg;rcases h.2 with ⟨rfl,_⟩|⟨g',cap,cur,rfl,hb,_⟩
 ·simp [Value.ownBlock] at hg
 ·simp [Value.ownBlock] at hg;omega
theorem zaT{w wr w1:World}{B:Nat}{e:TypeId}{size n:Nat}{v:Value}{xs:List Value}(hb:Below B w wr)(hB:B≤w.heap.size)(hown:wr.ownsRow B e size v n xs)(o:Obj)
 (hg:(wr.alloc o).grownBy w1 v.ownBlock):Below B w w1:=by
 have h1:B≤wr.heap.size:=Nat.le_trans hB hb.size;exact(hb.alloc h1 o).grown hg (by simp;omega) (zD hown)
def zao(n:Int):Value:=if n=0 then .nilIface else .iface 28 (.int .i64 n)
theorem zM:zao 0 = .nilIface:=rfl
theorem jc{n:Int}(h:n≠0):zao n = .iface 28 (.int .i64 n):=if_neg h
theorem jI{a b:Int}(h:a=b):Ending.returned (.int .i64 a)= .returned (.int .i64 b):=by rw [h]
theorem zi{a b:Bool}(h:a=b):Ending.returned (.bool a)= .returned (.bool b):=by rw [h]
theorem zhL{B:Nat}{a b c:World}(h:Hid (Below B a b))(k:Hid (Below b.heap.size b c))(hB:B≤a.heap.size):Hid (Below B a c):=
 Go.Lib.hid (h.out.trans (k.out.mono (Nat.le_trans hB h.out.size)))
theorem bh{a b c:World}(h:Hid (Below a.heap.size a b))(k:Below b.heap.size b c):Hid (Below a.heap.size a c):=
 Go.Lib.hid (h.out.trans (k.mono h.out.size))
theorem zdy{w w':World}(hg:w.grownBy w' none):Below w.heap.size w w':=⟨hg.os,hg.tape,hg.output,hg.size,fun k hk=>hg.block k hk (by simp)⟩
theorem zd9{w:World}{B n:Nat}{e:TypeId}{size:Nat}{v:Value}{xs:List Value}(h:w.ownsRow B e size v n xs):∀g,v.ownBlock=some g→g<w.heap.size:=by
 intro g hg;rcases h.2 with ⟨rfl,_⟩|⟨g',cap,cur,rfl,_,hh,_⟩
 ·simp [Value.ownBlock] at hg
 ·simp [Value.ownBlock] at hg;subst hg;exact(Array.getElem?_eq_some_iff.1 hh).1
theorem za(w:World)(o:Obj):Below w.heap.size w (w.alloc o):=(Below.refl _ _).alloc (Nat.le_refl _) o
theorem zc{w w':World}(h:Below w.heap.size w w')(r:Option Nat):w.grownBy w' r:=⟨h.os,h.tape,h.output,h.size,fun k hk _=>h.block k hk⟩
theorem zaL{w w':World}{R B:Nat}(h:w.grownBy w' (some R))(hB:B≤R)(hB2:B≤w.heap.size):Below B w w' :=
 ⟨h.os,h.tape,h.output,h.size,fun k hk=>h.block k (by omega) (by intro e;cases e;omega)⟩
theorem zg(w:World)(p:Addr)(u:Value):w.grownBy (w.setCell p u) (some p.block):=
 ⟨rfl,rfl,rfl,by simp [World.setCell],fun k _ hn=>Below.heap_setCell _ _ _ _ (fun e=>hn (by rw [e]))⟩
theorem z8{w w':World}{B n:Nat}{e:TypeId}{size:Nat}{v:Value}{xs:List Value}(h:w.ownsRow B e size v n xs)(hb:Below w.heap.size w w'):w'.ownsRow B e size v n xs :=
 h.kept (zc hb none) (by cases hv:v.ownBlock <;> simp)
end Go.Proofs.YtjcdeikbghjpkaaGreatDoor
namespace Go.Proofs
open Go.Shelf
def Tryz.lays106_ren:Go.Shelf.Ren:=⟨fun|106=>122|213=>137|265=>156|n=>n,fun|9=>9|3=>3|n=>n,fun|n=>n⟩
theorem Tryz.lays106:Go.Proofs.Lays.n106 Tryz.prog Tryz.lays106_ren := {
 mixed:=by kernel_rfl
 f106:=Tryz.func122.trans (congrArg some (by kernel_rfl))
 f213:=Tryz.func137.trans (congrArg some (by kernel_rfl))
 f265:=Tryz.func156.trans (congrArg some (by kernel_rfl))
 t3:=Tryz.underlying3
 a3:=Tryz.isAgg3
 z3:=Tryz.sizeOf3
 v3:=Tryz.zeroValue3
 t9:=Tryz.underlying9
 a9:=Tryz.isAgg9
 z9:=Tryz.sizeOf9
 v9:=Tryz.zeroValue9 }
open Go.RowKit in
theorem Tryz.strings_Compare(a b:ByteArray)(w:World):
 Calls Tryz.prog 122 #[.string a,.string b] w fun e w'=>e = .returned (.int .i64 (Lib.compareBytes a.data.toList b.data.toList))∧w'=w:=Any.strings_Compare Tryz.lays106 a b w
def Tryz.lays122_ren:Go.Shelf.Ren:=⟨fun|122=>168|215=>182|n=>n,fun|3=>3|4=>4|n=>n,fun|n=>n⟩
theorem Tryz.lays122:Go.Proofs.Lays.n122 Tryz.prog Tryz.lays122_ren := {
 mixed:=by kernel_rfl
 f122:=Tryz.func168.trans (congrArg some (by kernel_rfl))
 f215:=Tryz.func182.trans (congrArg some (by kernel_rfl))
 t3:=Tryz.underlying3
 a3:=Tryz.isAgg3
 z3:=Tryz.sizeOf3
 v3:=Tryz.zeroValue3
 t4:=Tryz.underlying4
 a4:=Tryz.isAgg4
 z4:=Tryz.sizeOf4
 v4:=Tryz.zeroValue4 }
open Go.RowKit in
theorem Tryz.cmp_Compare_int(x y:Int)(w:World):
 Calls Tryz.prog 168 #[.int .i64 x,.int .i64 y] w fun e w'=>e = .returned (.int .i64 (Lib.compareInt x y))∧w'=w:=Any.cmp_Compare_int Tryz.lays122 x y w
def Tryz.lays138_ren:Go.Shelf.Ren:=⟨fun|138=>235|195=>236|218=>237|143=>238|219=>239|217=>240|225=>241|224=>242|267=>243|266=>244|314=>245|n=>n,fun|9=>9|3=>3|4=>4|5=>5|0=>0|46=>233|146=>328|51=>155|n=>n,fun|1=>1|n=>n⟩
theorem Tryz.lays138:Go.Proofs.Lays.n138 Tryz.prog Tryz.lays138_ren := {
 mixed:=by kernel_rfl
 f138:=Tryz.func235.trans (congrArg some (by kernel_rfl))
 f143:=Tryz.func238.trans (congrArg some (by kernel_rfl))
 f195:=Tryz.func236.trans (congrArg some (by kernel_rfl))
 f217:=Tryz.func240.trans (congrArg some (by kernel_rfl))
 f218:=Tryz.func237.trans (congrArg some (by kernel_rfl))
 f219:=Tryz.func239.trans (congrArg some (by kernel_rfl))
 f224:=Tryz.func242.trans (congrArg some (by kernel_rfl))
 f225:=Tryz.func241.trans (congrArg some (by kernel_rfl))
 f266:=Tryz.func244.trans (congrArg some (by kernel_rfl))
 f267:=Tryz.func243.trans (congrArg some (by kernel_rfl))
 f314:=Tryz.func245.trans (congrArg some (by kernel_rfl))
 t0:=Tryz.underlying0
 a0:=Tryz.isAgg0
 z0:=Tryz.sizeOf0
 v0:=Tryz.zeroValue0
 t3:=Tryz.underlying3
 a3:=Tryz.isAgg3
 z3:=Tryz.sizeOf3
 v3:=Tryz.zeroValue3
 t4:=Tryz.underlying4
 a4:=Tryz.isAgg4
 z4:=Tryz.sizeOf4
 v4:=Tryz.zeroValue4
 t5:=Tryz.underlying5
 a5:=Tryz.isAgg5
 z5:=Tryz.sizeOf5
 v5:=Tryz.zeroValue5
 t9:=Tryz.underlying9
 a9:=Tryz.isAgg9
 z9:=Tryz.sizeOf9
 v9:=Tryz.zeroValue9
 t46:=Tryz.underlying233
 a46:=Tryz.isAgg233
 z46:=Tryz.sizeOf233
 v46:=Tryz.zeroValue233
 t51:=Tryz.underlying155
 a51:=Tryz.isAgg155
 z51:=Tryz.sizeOf155
 v51:=Tryz.zeroValue155
 t146:=Tryz.underlying328
 a146:=Tryz.isAgg328
 z146:=Tryz.sizeOf328
 v146:=Tryz.zeroValue328
 g1:=by kernel_rfl }
open Go.RowKit Go.Lib in
theorem Tryz.strings_Count_one(s:ByteArray)(c:UInt8)(w:World):
 Calls Tryz.prog 235 #[.string s,.string ⟨#[c]⟩] w fun e w'=>e = .returned (.int .i64 (Lib.countByte s.data.toList c))∧w'=w:=Any.strings_Count_one Tryz.lays138 s c w
end Go.Proofs
namespace Go.Proofs.YtjcdeikbghjpkaaGreatDoor
open Go.RowKit Go.Wk
theorem strings_Compare(a b:ByteArray)(w:World):
 Calls Tryz.prog 122 #[.string a,.string b] w fun e w'=>e = .returned (.int .i64 (zO a b))∧w'=w:=Tryz.strings_Compare a b w
theorem zbp(a b:Int)(w:World):
 Calls Tryz.prog 92 #[.int .i64 a,.int .i64 b] w fun e w'=>e = .returned (.int .i64 (zbE a b))∧w=w':=by
 by_cases h1:a<b
 ·go_enter Tryz.func92,Tryz.ntmps92;go_wp2;go_ret;exact⟨jI (by unfold zbE;split <;>(try split)<;> omega),rfl⟩
 ·by_cases h2:b<a
  ·go_enter Tryz.func92,Tryz.ntmps92;go_wp2;go_ret;exact⟨jI (by unfold zbE;split <;>(try split)<;> omega),rfl⟩
  ·go_enter Tryz.func92,Tryz.ntmps92;go_wp2;go_ret;exact⟨jI (by unfold zbE;split <;>(try split)<;> omega),rfl⟩
theorem zrC(a b:ByteArray):zO a b=Lib.compareBytes (a.data.toList.drop 0) (b.data.toList.drop 0):=rfl
theorem zoC{a b:ByteArray}{k:Nat}(h1:k<a.size)(h2:k<b.size)(hc:zO a b=Lib.compareBytes (a.data.toList.drop k) (b.data.toList.drop k))(h:(a[k].toNat:Int)<b[k].toNat):zO a b = -1 :=
 hc.trans (zfv (by simpa using h1) (by simpa using h2) (UInt8.lt_iff_toNat_lt.2 (show a[k].toNat<b[k].toNat by omega)))
theorem zo6{a b:ByteArray}{k:Nat}(h1:k<a.size)(h2:k<b.size)(hc:zO a b=Lib.compareBytes (a.data.toList.drop k) (b.data.toList.drop k))(h:(b[k].toNat:Int)<a[k].toNat):zO a b=1 :=
 hc.trans (zfU (by simpa using h1) (by simpa using h2) (UInt8.lt_iff_toNat_lt.2 (show b[k].toNat<a[k].toNat by omega)))
theorem zpd{a b:ByteArray}{k:Nat}(h1:k<a.size)(h2:k<b.size)(hc:zO a b=Lib.compareBytes (a.data.toList.drop k) (b.data.toList.drop k))(h:(a[k].toNat:Int)=b[k].toNat):
 zO a b=Lib.compareBytes (a.data.toList.drop (k+1)) (b.data.toList.drop (k+1)):=
 hc.trans (zfE (by simpa using h1) (by simpa using h2) (UInt8.toNat_inj.1 (show a[k].toNat=b[k].toNat by omega)))
theorem zlG{a b:ByteArray}{k:Nat}(h:a.size≤k∨b.size≤k)(ha:k≤a.size)(hb:k≤b.size)(hc:zO a b=Lib.compareBytes (a.data.toList.drop k) (b.data.toList.drop k)):zO a b=zbE a.size b.size :=
 hc.trans ((zgk (by simpa using h) (by simpa using ha) (by simpa using hb)).trans (by simp))
theorem zcj(a b:ByteArray)(w:World)(ha:a.size≤maxLen)(_hb:b.size≤maxLen):
 Calls Tryz.prog 62 #[.string a,.string b] w fun e w'=>e = .returned (.int .i64 (zO a b))∧Below w.heap.size w w':=by
 unfold maxLen at ha _hb;go_enter Tryz.func62,Tryz.ntmps62;go_wp2;go_loopw [4,5] (fun r i wr=>∃k:Nat,k≤a.size∧k≤b.size∧i = .int .i64 k∧r = .int .i64 0∧Hid (zO a b=Lib.compareBytes (a.data.toList.drop k) (b.data.toList.drop k))∧Below w.heap.size w wr) (fun _ i _=>a.size-(intOf i).toNat)
 case atStart=>exact⟨0,Nat.zero_le _,Nat.zero_le _,rfl,rfl,zrC a b,Below.refl _ _⟩
 case round =>
  obtain⟨k,hka,hkb,rfl,rfl,hc,hbel⟩:=hrel;by_cases h1:k<a.size
  ·by_cases h2:k<b.size
   ·by_cases e1:(a[k].toNat:Int)<b[k].toNat
    ·have H:=hi9 (zoC h1 h2 hc.out e1);clear hc;go_wp2;go_quiet (fail);go_wp2;go_ret;exact⟨jI H.out.symm,by first|exact hbel.drewN _|exact(hbel.drewN _).drewN _⟩
    ·by_cases e2:(b[k].toNat:Int)<a[k].toNat
     ·have H:=hi9 (zo6 h1 h2 hc.out e2);clear hc;go_wp2;go_quiet (fail);go_wp2;go_quiet (fail);go_wp2;go_ret;exact⟨jI H.out.symm,by first|exact hbel.drewN _|exact(hbel.drewN _).drewN _⟩
     ·have H:=hi9 (zpd h1 h2 hc.out (by omega));clear hc;go_wp2;go_quiet (fail);go_wp2;go_quiet (fail);go_wp2;go_roundw
      case rel=>exact⟨k+1,by omega,by omega,by go_num,rfl,H,by first|exact hbel.drewN _|exact(hbel.drewN _).drewN _⟩
      case measure=>simp [intOf];omega
   ·have H:=hi9 (zlG (.inr (by omega)) hka hkb hc.out);clear hc;go_wp2_with (go_at_call 92;refine(zbp _ _ _).mono ?_;rintro e w' ⟨rfl,rfl⟩);go_ret;exact⟨jI H.out.symm,hbel⟩
  ·have H:=hi9 (zlG (.inl (by omega)) hka hkb hc.out);clear hc;go_wp2_with (go_at_call 92;refine(zbp _ _ _).mono ?_;rintro e w' ⟨rfl,rfl⟩);go_ret;exact⟨jI H.out.symm,hbel⟩
end Go.Proofs.YtjcdeikbghjpkaaGreatDoor
