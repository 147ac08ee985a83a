/-
  The frame of every law: a law that returns true and leaves what was there as it ..
-/
import Derived.WalkSpells
import Derived.WalkLawsBesides
import Derived.ProofKit
import Derived.OpenShut
import Derived.StillTailTactics
import Derived.Lib.QuietBelow
import Derived.Lib.Hide
import Derived.Shelf.Small.Bits
import Derived.Shelf.Small.Strs
import Derived.Shelf.Small.Wraps
import Derived.Shelf.Sort.Plain
import Derived.Shelf.Strings.Split
import Derived.Shelf.Bits.Mul64
import Derived.Shelf.Strings.BuilderCap
import Derived.Shelf.Slices.Turned
import Derived.Shelf.Slices.SearchI
import Derived.Shelf.Slices.In.SortNone
import Derived.Test.YthidiimbeaabhaaGreatDoorRows
import Derived.Test.YthidiimbeaabhaaGreatDoorQ1
set_option maxRecDepth 100000
theorem hi9{p:Prop}(h:p):Go.RowKit.Hid p:=Go.Lib.hid h
theorem O {p:Prop} (h:p):Go.RowKit.Hid p:=h
theorem _root_.Go.RowKit.Hid.o {p:Prop} (h:Go.RowKit.Hid p):p:=h
namespace Go.Proofs.YthidiimbeaabhaaGreatDoor
open Go.ChangeShapes Go.WideShapes Go.ChangeAt Go.RowKit
theorem own:ownKnob Tryz.prog.godebug=none:=by kernel_rfl
theorem xh:laidOutB Tryz.prog=true:=by kernel_rfl
theorem oL{H:Type}{enc:TypeId × Value->H}{P:Program}(hl:laidOutB P=true){W W':World}(hb:Below W.heap.size W W'):
 ∀(ts:List TypeId) (vs:List Value) (ds:List (DataW H)) (ps:List MemPlace),(∀t∈ts,P.readableRec t=true/\t<P.types.size)->
  (∀x∈ps,x.block<W.heap.size)->DataW.TrodAll enc P W 0 (λ_=>true) true ts vs ds ps->DataW.TrodAll enc P W' 0 (λb=>decide (b<W.heap.size)) true ts vs ds ps:=by
 intro ts
 induction ts with
 | nil =>
  intro vs ds ps _ _ h
  cases vs <;> cases ds <;> simp_all [DataW.TrodAll]
 | cons t ts ih =>
  intro vs ds ps hr hlt h
  match vs,ds,h with
  | v :: vs,d :: ds,h =>
   obtain⟨p,q,h1,h2,rfl⟩:=h
   have ht:=hr t (by simp)
   exact⟨p,q,Below.trod hl ht.1 ht.2 h1 hb (λx hx=>hlt x (by simp [hx])),
    ih vs ds q (λt' h'=>hr t' (by simp [h'])) (λx hx=>hlt x (by simp [hx])) h2,rfl⟩
theorem mm{H:Type}{enc:TypeId × Value->H}{P:Program}{W:World}{b:Nat}{sp:Nat->Bool}{hd:Bool} :
 ∀(ts:List TypeId) (vs:List Value) (ds:List (DataW H)) (ps:List MemPlace),DataW.TrodAll enc P W b sp hd ts vs ds ps->ds.length=ts.length:=by
 intro ts
 induction ts with
 | nil=>intro vs ds ps h;cases vs <;> cases ds <;> simp_all [DataW.TrodAll]
 | cons t ts ih =>
  intro vs ds ps h
  match vs,ds,h with
  | v :: vs,d :: ds,h =>
   obtain⟨p,q,_,h2,_⟩:=h
   simp [ih vs ds q h2]
theorem CH{H:Type}{enc:TypeId × Value->H}{P:Program}{f:Func}{s:ChangeSpec}{W W':World}{args:Array Value}{ds gs:List (DataW H)}{before:List MemPlace}{tb:TypeId}
 (hl:laidOutB P=true) (hr0:(f.params.toList.all λt=>P.readableRec t && decide (t<P.types.size))=true) (hres:f.resultTypes=#[tb]) (hbool:P.underlying tb=some .bool)
 (hv:s.vars = []) (hs:∀ds:List (DataW H),ds.length=f.params.toList.length->s.fn H ds = { results := [.lit (.bool true)],args:=ds })
 (hW:DataW.Whole enc P f.params.toList s.vars false W args.toList ds gs before) (hb:Below W.heap.size W W'):
 s.post enc P f false true false false W args (.bool true) W':=by
 have hlt:=hW.lt;have hW0:=hW;have hr:∀t∈f.params.toList,P.readableRec t=true/\t<P.types.size:=λt ht=>by simpa using List.all_eq_true.1 hr0 t ht
 obtain⟨p,q,hA,hV,rfl,Lv,_⟩:=hW;rw [hv] at hV;obtain⟨rfl,rfl⟩:gs = []/\q = []:=by
  cases gs with
  | nil=>exact⟨rfl,hV⟩
  | cons g r=>exact absurd hV (by intro h;cases h)
 have hlen:=mm _ _ _ _ hA;have he:s.fn H (ds ++ [])= { results := [.lit (.bool true)],args:=ds }:=by rw [List.append_nil];exact hs ds hlen
 simp only [List.append_nil] at hlt hW0;refine⟨ds,[],p,[],p,[],hW0,?_,?_,?_,hb.frame _,λh=>by cases h⟩
 ·rw [he,hres];exact trodAll_mk1 (shut_bool hbool true)
 ·rw [he];exact oL hl hb _ _ _ _ hr hlt hA
 ·rw [he,hv];rfl
theorem my{P:Program}{id:Nat}{Q:Exit->Act->World->Prop}{a:Act}{w:World}{l:List Oper}(n:Nat)(hm:P.follows .mixedOrders=true)(hB:Region.lexTailB .any l.toArray n=true)
 (h:wpStill P l.toArray w.drew (λa'=>wpList P l.toArray Q (l.drop n) a' w.drew) (l.take n) a):(Code.region id l.toArray true).wp P Q a w :=
 wp_region_still_tail n hm hB h
theorem _root_.Go.RowKit.Below.drewN{B:Nat}{a w:World}(h:Below B a w)(n:Nat):Below B a (w.drewN n):=⟨h.os,h.tape,h.output,h.size,h.block⟩
theorem zb{w w':World}(hb:Below w.heap.size w w'){a:Addr}{v:Value}(h:w.cell? a=some v):w'.cell? a=some v :=
 (hb.cell (block_lt_of_cell h)).trans h
theorem toList_inj{a b:ByteArray}(h:a.toList=b.toList):a=b:=by
 rw [ByteArray.toList_eq,ByteArray.toList_eq] at h;cases a;cases b;simp at h;simp [h]
theorem oa{W w1:World}(hb:Below W.heap.size W w1):(∀b o,b<W.heap.size->w1.cell? ⟨b,o,none⟩=W.cell? ⟨b,o,none⟩)/\(∀b o,b<W.heap.size->w1.frozen? ⟨b,o,none⟩=W.frozen? ⟨b,o,none⟩):=
 ⟨λb o h=>hb.cell (p:=⟨b,o,none⟩) h,λb o h=>hb.frozen (p:=⟨b,o,none⟩) h⟩
@[simp] theorem size_drewN (w:World) (n:Nat):(w.drewN n).heap.size=w.heap.size:=rfl
theorem bW(w:World)(l:List Value)(t:TypeId):∀j u,l[j]?=some u->(w.alloc (.cells l.toArray t)).cell? ((⟨w.heap.size,0,none⟩:Addr).add j)=some u:=by
 intro j u h;have e:(⟨w.heap.size,0,none⟩:Addr).add j=⟨w.heap.size,j,none⟩:=by
  unfold Addr.add;split
  ·rename_i h0;subst h0;rfl
  ·simp
 rw [e,World.cell?_alloc_at _ _ _ _ rfl];simpa using h
theorem jb{w:World}{B:Nat}{e:TypeId}{size n:Nat}{v:Value}{xs:List Value}(h:w.ownsRow B e size v n xs):∀g,v.ownBlock=some g->B<=g:=by
 intro g hg;rcases h.2 with ⟨rfl,_⟩|⟨g',cap,cur,rfl,hb,_⟩
 ·simp [Value.ownBlock] at hg
 ·simp [Value.ownBlock] at hg;omega
theorem cg{w wr w1:World}{B:Nat}{e:TypeId}{size n:Nat}{v:Value}{xs:List Value}(hb:Below B w wr)(hB:B<=w.heap.size)(hown:wr.ownsRow B e size v n xs)(o:Obj)
 (hg:(wr.alloc o).grownBy w1 v.ownBlock):Below B w w1:=by
 have h1:B<=wr.heap.size:=Nat.le_trans hB hb.size;exact(hb.alloc h1 o).grown hg (by simp;omega) (jb hown)
def zM(n:Int):Value:=if n=0 then .nilIface else .iface 80 (.int .i64 n)
theorem zf:zM 0 = .nilIface:=rfl
theorem zl{n:Int}(h:n≠0):zM n = .iface 80 (.int .i64 n):=if_neg h
theorem br{a b:Int}(h:a=b):Ending.returned (.int .i64 a)= .returned (.int .i64 b):=by rw [h]
theorem zC{a b:Bool}(h:a=b):Ending.returned (.bool a)= .returned (.bool b):=by rw [h]
theorem Mx{B:Nat}{a b c:World}(h:Hid (Below B a b))(k:Hid (Below b.heap.size b c))(hB:B<=a.heap.size):Hid (Below B a c):=
 Go.Lib.hid (h.o.trans (k.o.mono (Nat.le_trans hB h.o.size)))
theorem bh{a b c:World}(h:Hid (Below a.heap.size a b))(k:Below b.heap.size b c):Hid (Below a.heap.size a c):=
 Go.Lib.hid (h.o.trans (k.mono h.o.size))
theorem ff{w w':World}(hg:w.grownBy w' none):Below w.heap.size w w':=⟨hg.os,hg.tape,hg.output,hg.size,λk hk=>hg.block k hk (by simp)⟩
theorem cT{w:World}{B n:Nat}{e:TypeId}{size:Nat}{v:Value}{xs:List Value}(h:w.ownsRow B e size v n xs):∀g,v.ownBlock=some g->g<w.heap.size:=by
 intro g hg;rcases h.2 with ⟨rfl,_⟩|⟨g',cap,cur,rfl,_,hh,_⟩
 ·simp [Value.ownBlock] at hg
 ·simp [Value.ownBlock] at hg;subst hg;exact(Array.getElem?_eq_some_iff.1 hh).1
theorem za(w:World)(o:Obj):Below w.heap.size w (w.alloc o):=(Below.refl _ _).alloc (Nat.le_refl _) o
theorem zj{w w':World}(h:Below w.heap.size w w')(r:Option Nat):w.grownBy w' r:=⟨h.os,h.tape,h.output,h.size,λk hk _=>h.block k hk⟩
theorem aw{w w':World}{R B:Nat}(h:w.grownBy w' (some R))(hB:B<=R)(hB2:B<=w.heap.size):Below B w w' :=
 ⟨h.os,h.tape,h.output,h.size,λk hk=>h.block k (by omega) (by intro e;cases e;omega)⟩
theorem zu(w:World)(p:Addr)(u:Value):w.grownBy (w.setCell p u) (some p.block):=
 ⟨rfl,rfl,rfl,by simp [World.setCell],λk _ hn=>Below.heap_setCell _ _ _ _ (λe=>hn (by rw [e]))⟩
theorem cr{w w':World}{B n:Nat}{e:TypeId}{size:Nat}{v:Value}{xs:List Value}(h:w.ownsRow B e size v n xs)(hb:Below w.heap.size w w'):w'.ownsRow B e size v n xs :=
 h.kept (zj hb none) (by cases hv:v.ownBlock <;> simp)
end Go.Proofs.YthidiimbeaabhaaGreatDoor
namespace Go.Proofs
open Go.Shelf
def Tryz.lays106_ren:Go.Shelf.Ren:=⟨fun|106=>105|213=>135|265=>164|n=>n,fun|9=>9|3=>3|n=>n,fun|n=>n⟩
theorem Tryz.lays106:Go.Proofs.Lays.n106 Tryz.prog Tryz.lays106_ren := {
 mixed:=by kernel_rfl
 f106:=Tryz.func105.trans (congrArg some (by kernel_rfl))
 f213:=Tryz.func135.trans (congrArg some (by kernel_rfl))
 f265:=Tryz.func164.trans (congrArg some (by kernel_rfl))
 t3:=Tryz.underlying3
 a3:=Tryz.isAgg3
 z3:=Tryz.sizeOf3
 v3:=Tryz.zeroValue3
 t9:=Tryz.underlying9
 a9:=Tryz.isAgg9
 z9:=Tryz.sizeOf9
 v9:=Tryz.zeroValue9 }
open Go.RowKit in
theorem Tryz.strings_Compare(a b:ByteArray)(w:World):
 Calls Tryz.prog 105 #[.string a,.string b] w λe w'=>e = .returned (.int .i64 (Lib.compareBytes a.data.toList b.data.toList))/\w'=w:=Any.strings_Compare Tryz.lays106 a b w
def Tryz.lays122_ren:Go.Shelf.Ren:=⟨fun|122=>169|215=>187|n=>n,fun|3=>3|4=>4|n=>n,fun|n=>n⟩
theorem Tryz.lays122:Go.Proofs.Lays.n122 Tryz.prog Tryz.lays122_ren := {
 mixed:=by kernel_rfl
 f122:=Tryz.func169.trans (congrArg some (by kernel_rfl))
 f215:=Tryz.func187.trans (congrArg some (by kernel_rfl))
 t3:=Tryz.underlying3
 a3:=Tryz.isAgg3
 z3:=Tryz.sizeOf3
 v3:=Tryz.zeroValue3
 t4:=Tryz.underlying4
 a4:=Tryz.isAgg4
 z4:=Tryz.sizeOf4
 v4:=Tryz.zeroValue4 }
open Go.RowKit in
theorem Tryz.cmp_Compare_int(x y:Int)(w:World):
 Calls Tryz.prog 169 #[.int .i64 x,.int .i64 y] w λe w'=>e = .returned (.int .i64 (Lib.compareInt x y))/\w'=w:=Any.cmp_Compare_int Tryz.lays122 x y w
def Tryz.lays138_ren:Go.Shelf.Ren:=⟨fun|138=>279|195=>280|218=>281|143=>282|219=>283|217=>284|225=>285|224=>286|267=>287|266=>288|314=>289|n=>n,fun|9=>9|3=>3|4=>4|5=>5|0=>0|46=>208|146=>384|51=>213|n=>n,fun|1=>1|n=>n⟩
theorem Tryz.lays138:Go.Proofs.Lays.n138 Tryz.prog Tryz.lays138_ren := {
 mixed:=by kernel_rfl
 f138:=Tryz.func279.trans (congrArg some (by kernel_rfl))
 f143:=Tryz.func282.trans (congrArg some (by kernel_rfl))
 f195:=Tryz.func280.trans (congrArg some (by kernel_rfl))
 f217:=Tryz.func284.trans (congrArg some (by kernel_rfl))
 f218:=Tryz.func281.trans (congrArg some (by kernel_rfl))
 f219:=Tryz.func283.trans (congrArg some (by kernel_rfl))
 f224:=Tryz.func286.trans (congrArg some (by kernel_rfl))
 f225:=Tryz.func285.trans (congrArg some (by kernel_rfl))
 f266:=Tryz.func288.trans (congrArg some (by kernel_rfl))
 f267:=Tryz.func287.trans (congrArg some (by kernel_rfl))
 f314:=Tryz.func289.trans (congrArg some (by kernel_rfl))
 t0:=Tryz.underlying0
 a0:=Tryz.isAgg0
 z0:=Tryz.sizeOf0
 v0:=Tryz.zeroValue0
 t3:=Tryz.underlying3
 a3:=Tryz.isAgg3
 z3:=Tryz.sizeOf3
 v3:=Tryz.zeroValue3
 t4:=Tryz.underlying4
 a4:=Tryz.isAgg4
 z4:=Tryz.sizeOf4
 v4:=Tryz.zeroValue4
 t5:=Tryz.underlying5
 a5:=Tryz.isAgg5
 z5:=Tryz.sizeOf5
 v5:=Tryz.zeroValue5
 t9:=Tryz.underlying9
 a9:=Tryz.isAgg9
 z9:=Tryz.sizeOf9
 v9:=Tryz.zeroValue9
 t46:=Tryz.underlying208
 a46:=Tryz.isAgg208
 z46:=Tryz.sizeOf208
 v46:=Tryz.zeroValue208
 t51:=Tryz.underlying213
 a51:=Tryz.isAgg213
 z51:=Tryz.sizeOf213
 v51:=Tryz.zeroValue213
 t146:=Tryz.underlying384
 a146:=Tryz.isAgg384
 z146:=Tryz.sizeOf384
 v146:=Tryz.zeroValue384
 g1:=by kernel_rfl }
open Go.RowKit Go.Lib in
theorem Tryz.strings_Count_one(s:ByteArray)(c:UInt8)(w:World):
 Calls Tryz.prog 279 #[.string s,.string ⟨#[c]⟩] w λe w'=>e = .returned (.int .i64 (Lib.countByte s.data.toList c))/\w'=w:=Any.strings_Count_one Tryz.lays138 s c w
def Tryz.lays190_ren:Go.Shelf.Ren:=⟨fun|190=>171|125=>134|258=>189|128=>162|129=>163|302=>197|303=>198|304=>199|305=>200|306=>201|307=>202|308=>203|309=>204|310=>205|333=>216|329=>177|330=>178|334=>217|335=>218|336=>219|344=>228|n=>n,fun|31=>38|9=>9|3=>3|46=>208|0=>0|51=>213|53=>202|4=>4|183=>254|182=>253|131=>123|5=>5|218=>279|222=>283|228=>303|229=>304|n=>n,fun|n=>n⟩
theorem Tryz.lays190:Go.Proofs.Lays.n190 Tryz.prog Tryz.lays190_ren := {
 mixed:=by kernel_rfl
 f125:=Tryz.func134.trans (congrArg some (by kernel_rfl))
 f128:=Tryz.func162.trans (congrArg some (by kernel_rfl))
 f129:=Tryz.func163.trans (congrArg some (by kernel_rfl))
 f190:=Tryz.func171.trans (congrArg some (by kernel_rfl))
 f258:=Tryz.func189.trans (congrArg some (by kernel_rfl))
 f302:=Tryz.func197.trans (congrArg some (by kernel_rfl))
 f303:=Tryz.func198.trans (congrArg some (by kernel_rfl))
 f304:=Tryz.func199.trans (congrArg some (by kernel_rfl))
 f305:=Tryz.func200.trans (congrArg some (by kernel_rfl))
 f306:=Tryz.func201.trans (congrArg some (by kernel_rfl))
 f307:=Tryz.func202.trans (congrArg some (by kernel_rfl))
 f308:=Tryz.func203.trans (congrArg some (by kernel_rfl))
 f309:=Tryz.func204.trans (congrArg some (by kernel_rfl))
 f310:=Tryz.func205.trans (congrArg some (by kernel_rfl))
 f329:=Tryz.func177.trans (congrArg some (by kernel_rfl))
 f330:=Tryz.func178.trans (congrArg some (by kernel_rfl))
 f333:=Tryz.func216.trans (congrArg some (by kernel_rfl))
 f334:=Tryz.func217.trans (congrArg some (by kernel_rfl))
 f335:=Tryz.func218.trans (congrArg some (by kernel_rfl))
 f336:=Tryz.func219.trans (congrArg some (by kernel_rfl))
 f344:=Tryz.func228.trans (congrArg some (by kernel_rfl))
 t0:=Tryz.underlying0
 a0:=Tryz.isAgg0
 z0:=Tryz.sizeOf0
 v0:=Tryz.zeroValue0
 t3:=Tryz.underlying3
 a3:=Tryz.isAgg3
 z3:=Tryz.sizeOf3
 v3:=Tryz.zeroValue3
 t4:=Tryz.underlying4
 a4:=Tryz.isAgg4
 z4:=Tryz.sizeOf4
 v4:=Tryz.zeroValue4
 t5:=Tryz.underlying5
 a5:=Tryz.isAgg5
 z5:=Tryz.sizeOf5
 v5:=Tryz.zeroValue5
 t9:=Tryz.underlying9
 a9:=Tryz.isAgg9
 z9:=Tryz.sizeOf9
 v9:=Tryz.zeroValue9
 t31:=Tryz.underlying38
 a31:=Tryz.isAgg38
 z31:=Tryz.sizeOf38
 v31:=Tryz.zeroValue38
 t46:=Tryz.underlying208
 a46:=Tryz.isAgg208
 z46:=Tryz.sizeOf208
 v46:=Tryz.zeroValue208
 t51:=Tryz.underlying213
 a51:=Tryz.isAgg213
 z51:=Tryz.sizeOf213
 v51:=Tryz.zeroValue213
 t53:=Tryz.underlying202
 a53:=Tryz.isAgg202
 z53:=Tryz.sizeOf202
 v53:=Tryz.zeroValue202
 t131:=Tryz.underlying123
 a131:=Tryz.isAgg123
 z131:=Tryz.sizeOf123
 v131:=Tryz.zeroValue123
 t182:=Tryz.underlying253
 a182:=Tryz.isAgg253
 z182:=Tryz.sizeOf253
 v182:=Tryz.zeroValue253
 t183:=Tryz.underlying254
 a183:=Tryz.isAgg254
 z183:=Tryz.sizeOf254
 v183:=Tryz.zeroValue254
 t218:=Tryz.underlying279
 a218:=Tryz.isAgg279
 z218:=Tryz.sizeOf279
 v218:=Tryz.zeroValue279
 t222:=Tryz.underlying283
 a222:=Tryz.isAgg283
 z222:=Tryz.sizeOf283
 v222:=Tryz.zeroValue283
 t228:=Tryz.underlying303
 a228:=Tryz.isAgg303
 z228:=Tryz.sizeOf303
 v228:=Tryz.zeroValue303
 t229:=Tryz.underlying304
 a229:=Tryz.isAgg304
 z229:=Tryz.sizeOf304
 v229:=Tryz.zeroValue304 }
open Go.Sort Go.RowKit in
theorem Tryz.slices_Sort_string(blk off cap:Nat)(ss:List (List UInt8))(w:World)(hH:Holds encStr w blk off ss.toArray)(hblk:blk<w.heap.size)(hsz:ss.length<4611686018427387904):
 Calls Tryz.prog 171 #[.slice (some ⟨blk,off,none⟩) ss.length cap] w λe w' =>
  e = .returned (.tuple #[])/\∃n os,w'=grow (putRow encStr (Sort.ahead w n) blk off (ss.mergeSort λx y=>decide (x<=y)).toArray) os:=Any.slices_Sort_string Tryz.lays190 blk off cap ss w hH hblk hsz
def Tryz.lays264_ren:Go.Shelf.Ren:=⟨fun|264=>131|n=>n,fun|53=>202|46=>208|n=>n,fun|n=>n⟩
theorem Tryz.lays264:Go.Proofs.Lays.n264 Tryz.prog Tryz.lays264_ren := {
 mixed:=by kernel_rfl
 f264:=Tryz.func131.trans (congrArg some (by kernel_rfl))
 t46:=Tryz.underlying208
 a46:=Tryz.isAgg208
 z46:=Tryz.sizeOf208
 v46:=Tryz.zeroValue208
 t53:=Tryz.underlying202
 a53:=Tryz.isAgg202
 z53:=Tryz.sizeOf202
 v53:=Tryz.zeroValue202 }
open Go.RowKit Go.Lib in
theorem Tryz.bits_Mul64(x y:Nat)(hx:x<18446744073709551616)(hy:y<18446744073709551616)(w:World):
 Calls Tryz.prog 131 #[.int .u64 x,.int .u64 y] w λe w'=>e = .returned (.tuple #[.int .u64 ((x*y / 18446744073709551616:Nat):Int),.int .u64 ((x*y % 18446744073709551616:Nat):Int)])/\w'=w:=Any.bits_Mul64 Tryz.lays264 x y hx hy w
def Tryz.lays109_ren:Go.Shelf.Ren:=⟨fun|109=>101|n=>n,fun|31=>38|9=>9|3=>3|0=>0|4=>4|n=>n,fun|n=>n⟩
theorem Tryz.lays109:Go.Proofs.Lays.n109 Tryz.prog Tryz.lays109_ren := {
 mixed:=by kernel_rfl
 f109:=Tryz.func101.trans (congrArg some (by kernel_rfl))
 t0:=Tryz.underlying0
 a0:=Tryz.isAgg0
 z0:=Tryz.sizeOf0
 v0:=Tryz.zeroValue0
 t3:=Tryz.underlying3
 a3:=Tryz.isAgg3
 z3:=Tryz.sizeOf3
 v3:=Tryz.zeroValue3
 t4:=Tryz.underlying4
 a4:=Tryz.isAgg4
 z4:=Tryz.sizeOf4
 v4:=Tryz.zeroValue4
 t9:=Tryz.underlying9
 a9:=Tryz.isAgg9
 z9:=Tryz.sizeOf9
 v9:=Tryz.zeroValue9
 t31:=Tryz.underlying38
 a31:=Tryz.isAgg38
 z31:=Tryz.sizeOf38
 v31:=Tryz.zeroValue38 }
open Go.Lib in
theorem Tryz.slices_Index_string(b off n c:Nat)(zs:List ByteArray)(x:ByteArray)(w:World)(hz:n<=zs.length)(hbig:n<=9223372036854775807)(hc:∀j,j<zs.length->w.cell? ⟨b,off+j,none⟩=some (.string (zs.getD j ByteArray.empty))):
 Calls Tryz.prog 101 #[.slice (some ⟨b,off,none⟩) n c,.string x] w λe w'=>e = .returned (.int .i64 (Lib.idxOfS (zs.take n) x))/\w'=w:=Any.slices_Index_string Tryz.lays109 b off n c zs x w hz hbig hc
open Go.Lib in
theorem Tryz.slices_Index_string_empty(a:Option Addr)(c:Nat)(x:ByteArray)(w:World):
 Calls Tryz.prog 101 #[.slice a 0 c,.string x] w λe w'=>e = .returned (.int .i64 (Lib.idxOfS [] x))/\w'=w:=Any.slices_Index_string_empty Tryz.lays109 a c x w
open Go.RowKit Go.Sort in
theorem Tryz.slices_Sort_string_none(p:Option Addr)(cap:Nat)(w:World):
 Calls Tryz.prog 171 #[.slice p 0 cap] w λe w'=>e = .returned (.tuple #[])/\w'=w:=Any.slices_Sort_string_none Tryz.lays190 p cap w
end Go.Proofs
namespace Go.Proofs.YthidiimbeaabhaaGreatDoor
open Go.RowKit Go.Wk
theorem strings_Compare(a b:ByteArray)(w:World):
 Calls Tryz.prog 105 #[.string a,.string b] w λe w'=>e = .returned (.int .i64 (ai a b))/\w'=w:=Tryz.strings_Compare a b w
end Go.Proofs.YthidiimbeaabhaaGreatDoor
