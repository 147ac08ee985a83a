/-
  The frame of every law: a law that returns true and leaves what was there as it ..
-/
import Derived.WalkSpells
import Derived.WalkLawsBesides
import Derived.ProofKit
import Derived.OpenShut
import Derived.StillTailTactics
import Derived.Lib.QuietBelow
import Derived.Lib.Hide
import Derived.Shelf.Small.Bits
import Derived.Shelf.Small.Strs
import Derived.Shelf.Small.Wraps
import Derived.Shelf.Sort.Plain
import Derived.Shelf.Strings.Split
import Derived.Shelf.Bits.Mul64
import Derived.Shelf.Strings.BuilderCap
import Derived.Shelf.Slices.Turned
import Derived.Shelf.Slices.SearchI
import Derived.Shelf.Slices.In.SortNone
import Derived.Test.YtokiogmfgpidmaaGreatDoorRows
import Derived.Test.YtokiogmfgpidmaaGreatDoorD1
set_option maxRecDepth 100000
set_option maxHeartbeats 400000
theorem hi9{p:Prop}(h:p):Go.RowKit.Hid p:=Go.Lib.hid h
theorem O {p:Prop} (h:p):Go.RowKit.Hid p:=h
theorem _root_.Go.RowKit.Hid.o {p:Prop} (h:Go.RowKit.Hid p):p:=h
namespace Go.Proofs.YtokiogmfgpidmaaGreatDoor
open Go.ChangeShapes Go.WideShapes Go.ChangeAt Go.RowKit
theorem own:ownKnob Tryz.prog.godebug=none:=by kernel_rfl
theorem zeD:laidOutB Tryz.prog=true:=by kernel_rfl
theorem VV{H:Type}{enc:TypeId × Value->H}{P:Program}(hl:laidOutB P=true){W W':World}(hb:Below W.heap.size W W'):
 ∀(ts:List TypeId) (vs:List Value) (ds:List (DataW H)) (ps:List MemPlace),(∀t∈ts,P.readableRec t=true/\t<P.types.size)->
  (∀x∈ps,x.block<W.heap.size)->DataW.TrodAll enc P W 0 (λ_=>true) true ts vs ds ps->DataW.TrodAll enc P W' 0 (λb=>decide (b<W.heap.size)) true ts vs ds ps:=by
 intro ts
 induction ts with
 | nil =>
  intro vs ds ps _ _ h
  cases vs <;> cases ds <;> simp_all [DataW.TrodAll]
 | cons t ts ih =>
  intro vs ds ps hr hlt h
  match vs,ds,h with
  | v :: vs,d :: ds,h =>
   obtain⟨p,q,h1,h2,rfl⟩:=h
   have ht:=hr t (by simp)
   exact⟨p,q,Below.trod hl ht.1 ht.2 h1 hb (λx hx=>hlt x (by simp [hx])),
    ih vs ds q (λt' h'=>hr t' (by simp [h'])) (λx hx=>hlt x (by simp [hx])) h2,rfl⟩
theorem Uu{H:Type}{enc:TypeId × Value->H}{P:Program}{W:World}{b:Nat}{sp:Nat->Bool}{hd:Bool} :
 ∀(ts:List TypeId) (vs:List Value) (ds:List (DataW H)) (ps:List MemPlace),DataW.TrodAll enc P W b sp hd ts vs ds ps->ds.length=ts.length:=by
 intro ts
 induction ts with
 | nil=>intro vs ds ps h;cases vs <;> cases ds <;> simp_all [DataW.TrodAll]
 | cons t ts ih =>
  intro vs ds ps h
  match vs,ds,h with
  | v :: vs,d :: ds,h =>
   obtain⟨p,q,_,h2,_⟩:=h
   simp [ih vs ds q h2]
theorem zjb{H:Type}{enc:TypeId × Value->H}{P:Program}{f:Func}{s:ChangeSpec}{W W':World}{args:Array Value}{ds gs:List (DataW H)}{before:List MemPlace}{tb:TypeId}
 (hl:laidOutB P=true) (hr0:(f.params.toList.all λt=>P.readableRec t && decide (t<P.types.size))=true) (hres:f.resultTypes=#[tb]) (hbool:P.underlying tb=some .bool)
 (hv:s.vars = []) (hs:∀ds:List (DataW H),ds.length=f.params.toList.length->s.fn H ds = { results := [.lit (.bool true)],args:=ds })
 (hW:DataW.Whole enc P f.params.toList s.vars false W args.toList ds gs before) (hb:Below W.heap.size W W'):
 s.post enc P f false true false false W args (.bool true) W':=by
 have hlt:=hW.lt;have hW0:=hW;have hr:∀t∈f.params.toList,P.readableRec t=true/\t<P.types.size:=λt ht=>by simpa using List.all_eq_true.1 hr0 t ht
 obtain⟨p,q,hA,hV,rfl,hfz,_⟩:=hW;rw [hv] at hV;obtain⟨rfl,rfl⟩:gs = []/\q = []:=by
  cases gs with
  | nil=>exact⟨rfl,hV⟩
  | cons g r=>exact absurd hV (by intro h;cases h)
 have hlen:=Uu _ _ _ _ hA;have he:s.fn H (ds ++ [])= { results := [.lit (.bool true)],args:=ds }:=by rw [List.append_nil];exact hs ds hlen
 simp only [List.append_nil] at hlt hW0;refine⟨ds,[],p,[],p,[],hW0,?_,?_,?_,hb.frame _,λh=>by cases h⟩
 ·rw [he,hres];exact trodAll_mk1 (shut_bool hbool true)
 ·rw [he];exact VV hl hb _ _ _ _ hr hlt hA
 ·rw [he,hv];rfl
theorem T9{P:Program}{id:Nat}{Q:Exit->Act->World->Prop}{a:Act}{w:World}{l:List Oper}(n:Nat)(hm:P.follows .mixedOrders=true)(hB:Region.lexTailB .any l.toArray n=true)
 (h:wpStill P l.toArray w.drew (λa'=>wpList P l.toArray Q (l.drop n) a' w.drew) (l.take n) a):(Code.region id l.toArray true).wp P Q a w :=
 wp_region_still_tail n hm hB h
theorem _root_.Go.RowKit.Below.drewN{B:Nat}{a w:World}(h:Below B a w)(n:Nat):Below B a (w.drewN n):=⟨h.os,h.tape,h.output,h.size,h.block⟩
theorem za{w w':World}(hb:Below w.heap.size w w'){a:Addr}{v:Value}(h:w.cell? a=some v):w'.cell? a=some v :=
 (hb.cell (block_lt_of_cell h)).trans h
theorem toList_inj{a b:ByteArray}(h:a.toList=b.toList):a=b:=by
 rw [ByteArray.toList_eq,ByteArray.toList_eq] at h;cases a;cases b;simp at h;simp [h]
theorem Oa{W w1:World}(hb:Below W.heap.size W w1):(∀b o,b<W.heap.size->w1.cell? ⟨b,o,none⟩=W.cell? ⟨b,o,none⟩)/\(∀b o,b<W.heap.size->w1.frozen? ⟨b,o,none⟩=W.frozen? ⟨b,o,none⟩):=
 ⟨λb o h=>hb.cell (p:=⟨b,o,none⟩) h,λb o h=>hb.frozen (p:=⟨b,o,none⟩) h⟩
@[simp] theorem size_drewN (w:World) (n:Nat):(w.drewN n).heap.size=w.heap.size:=rfl
theorem jP(w:World)(l:List Value)(t:TypeId):∀j u,l[j]?=some u->(w.alloc (.cells l.toArray t)).cell? ((⟨w.heap.size,0,none⟩:Addr).add j)=some u:=by
 intro j u h;have e:(⟨w.heap.size,0,none⟩:Addr).add j=⟨w.heap.size,j,none⟩:=by
  unfold Addr.add;split
  ·rename_i h0;subst h0;rfl
  ·simp
 rw [e,World.cell?_alloc_at _ _ _ _ rfl];simpa using h
theorem zR{w:World}{B:Nat}{e:TypeId}{size n:Nat}{v:Value}{xs:List Value}(h:w.ownsRow B e size v n xs):∀g,v.ownBlock=some g->B<=g:=by
 intro g hg;rcases h.2 with ⟨rfl,_⟩|⟨g',cap,cur,rfl,hb,_⟩
 ·simp [Value.ownBlock] at hg
 ·simp [Value.ownBlock] at hg;omega
theorem D7{w wr w1:World}{B:Nat}{e:TypeId}{size n:Nat}{v:Value}{xs:List Value}(hb:Below B w wr)(hB:B<=w.heap.size)(hown:wr.ownsRow B e size v n xs)(o:Obj)
 (hg:(wr.alloc o).grownBy w1 v.ownBlock):Below B w w1:=by
 have h1:B<=wr.heap.size:=Nat.le_trans hB hb.size;exact(hb.alloc h1 o).grown hg (by simp;omega) (zR hown)
def fa(n:Int):Value:=if n=0 then .nilIface else .iface 41 (.int .i64 n)
theorem zm:fa 0 = .nilIface:=rfl
theorem zy{n:Int}(h:n≠0):fa n = .iface 41 (.int .i64 n):=if_neg h
theorem jb{a b:Int}(h:a=b):Ending.returned (.int .i64 a)= .returned (.int .i64 b):=by rw [h]
theorem zn{a b:Bool}(h:a=b):Ending.returned (.bool a)= .returned (.bool b):=by rw [h]
theorem oz{B:Nat}{a b c:World}(h:Hid (Below B a b))(k:Hid (Below b.heap.size b c))(hB:B<=a.heap.size):Hid (Below B a c):=
 Go.Lib.hid (h.o.trans (k.o.mono (Nat.le_trans hB h.o.size)))
theorem bh{a b c:World}(h:Hid (Below a.heap.size a b))(k:Below b.heap.size b c):Hid (Below a.heap.size a c):=
 Go.Lib.hid (h.o.trans (k.mono h.o.size))
theorem ME{w w':World}(hg:w.grownBy w' none):Below w.heap.size w w':=⟨hg.os,hg.tape,hg.output,hg.size,λk hk=>hg.block k hk (by simp)⟩
theorem JL{w:World}{B n:Nat}{e:TypeId}{size:Nat}{v:Value}{xs:List Value}(h:w.ownsRow B e size v n xs):∀g,v.ownBlock=some g->g<w.heap.size:=by
 intro g hg;rcases h.2 with ⟨rfl,_⟩|⟨g',cap,cur,rfl,_,hh,_⟩
 ·simp [Value.ownBlock] at hg
 ·simp [Value.ownBlock] at hg;subst hg;exact(Array.getElem?_eq_some_iff.1 hh).1
theorem zb(w:World)(o:Obj):Below w.heap.size w (w.alloc o):=(Below.refl _ _).alloc (Nat.le_refl _) o
theorem zA{w w':World}(h:Below w.heap.size w w')(r:Option Nat):w.grownBy w' r:=⟨h.os,h.tape,h.output,h.size,λk hk _=>h.block k hk⟩
theorem j7{w w':World}{R B:Nat}(h:w.grownBy w' (some R))(hB:B<=R)(hB2:B<=w.heap.size):Below B w w' :=
 ⟨h.os,h.tape,h.output,h.size,λk hk=>h.block k (by omega) (by intro e;cases e;omega)⟩
theorem zr(w:World)(p:Addr)(u:Value):w.grownBy (w.setCell p u) (some p.block):=
 ⟨rfl,rfl,rfl,by simp [World.setCell],λk _ hn=>Below.heap_setCell _ _ _ _ (λe=>hn (by rw [e]))⟩
theorem aC{w w':World}{B n:Nat}{e:TypeId}{size:Nat}{v:Value}{xs:List Value}(h:w.ownsRow B e size v n xs)(hb:Below w.heap.size w w'):w'.ownsRow B e size v n xs :=
 h.kept (zA hb none) (by cases hv:v.ownBlock <;> simp)
end Go.Proofs.YtokiogmfgpidmaaGreatDoor
namespace Go.Wk
open Go.ChangeShapes Go.WideShapes Go.RowKit
def Rd(P:Program)(w:World)(t:TypeId)(cs:List Value):Prop :=
 ∃(H:Type) (enc:TypeId × Value->H) (base:Nat) (sp:Nat->Bool) (held:Bool) (fuel:Nat) (x:DataW H × List MemPlace),DataW.trod enc P w base sp held fuel t cs=some x
section
variable {P:Program} {w:World} {t:TypeId} {cs:List Value}
theorem zdr{H:Type}{enc:TypeId × Value->H}{b:Nat}{sp:Nat->Bool}{hd:Bool}{v:Value}{d:DataW H}{ps:List MemPlace}(h:DataW.Trod enc P w b sp hd t v d ps):Rd P w t v.cells.toList :=
 let ⟨f,hf⟩:=h;⟨H,enc,b,sp,hd,f,_,hf⟩
theorem WV(ht:P.underlying t=some .string)(h:Rd P w t cs):∃s:ByteArray,cs = [.string s]/\s.size<=maxLen:=by
 obtain⟨H,enc,b,sp,hd,f,x,hx⟩:=h;obtain⟨s,h1,_,h2⟩:=DataW.trod_string ht hx;exact⟨s,h1,h2⟩
theorem znS{k:IntKind}(ht:P.underlying t=some (.int k))(h:Rd P w t cs):∃n:Int,cs = [.int k n]/\(Lit.int k n).wf=true:=by
 obtain⟨H,enc,b,sp,hd,f,x,hx⟩:=h;obtain⟨s,h1,_,h2⟩:=DataW.trod_int ht hx;exact⟨s,h1,h2⟩
theorem zio(ht:P.underlying t=some (.int .i64))(h:Rd P w t cs):∃n:Int,cs = [.int .i64 n]/\-9223372036854775808<=n/\n<=9223372036854775807:=by
 obtain⟨n,h1,h2⟩:=znS ht h;refine⟨n,h1,?_⟩;simpa [Lit.wf,IntKind.min,IntKind.max,IntKind.bits,IntKind.signed] using h2
theorem Xg{fs:Array Field}(ht:P.underlying t=some (.struct fs))(h:Rd P w t cs):
 cs.length=P.cellsOf t/\∀(i:Nat) (f:Field),fs[i]?=some f->Rd P w f.type ((cs.drop f.offset).take (P.cellsOf f.type)):=by
 obtain⟨H,enc,b,sp,hd,f,x,hx⟩:=h;obtain⟨xs,n,_,_,h1,h2,h3⟩:=DataW.trod_struct ht hx;refine⟨h1,λi f hf=>?_⟩;have hi:i<xs.length:=by rw [h2];exact(Array.getElem?_eq_some_iff.1 hf).1
 exact⟨H,enc,b,sp,hd,n,xs[i],(h3 i f hf).trans (List.getElem?_eq_getElem hi)⟩
theorem Qz{fs:Array Field}(ht:P.underlying t=some (.struct fs))(h:Rd P w t cs)(i T o n:Nat)(hf:(fs[i]?).map (λf=>(f.type,f.offset))=some (T,o))(hn:P.cellsOf T=n):
 Rd P w T ((cs.drop o).take n):=by
 rcases hi:fs[i]? with _|f
 ·rw [hi] at hf;cases hf
 ·rw [hi] at hf;simp only [Option.map_some,Option.some.injEq,Prod.mk.injEq] at hf;obtain⟨rfl,rfl⟩:=hf;subst hn;exact(Xg ht h).2 i f hi
end
end Go.Wk
namespace Go.Proofs.YtokiogmfgpidmaaGreatDoor
open Go.Wk Go.ChangeShapes Go.WideShapes Go.RowKit
theorem W6:Tryz.prog.cellsOf 36=2:=by kernel_rfl
theorem MO:Tryz.prog.cellsOf 9=1:=by kernel_rfl
end Go.Proofs.YtokiogmfgpidmaaGreatDoor
namespace Go.Proofs
open Go.Shelf
def Tryz.lays106_ren:Go.Shelf.Ren:=⟨fun|106=>179|213=>192|265=>211|n=>n,fun|9=>9|3=>3|n=>n,fun|n=>n⟩
theorem Tryz.lays106:Go.Proofs.Lays.n106 Tryz.prog Tryz.lays106_ren := {
 mixed:=by kernel_rfl
 f106:=Tryz.func179.trans (congrArg some (by kernel_rfl))
 f213:=Tryz.func192.trans (congrArg some (by kernel_rfl))
 f265:=Tryz.func211.trans (congrArg some (by kernel_rfl))
 t3:=Tryz.underlying3
 a3:=Tryz.isAgg3
 z3:=Tryz.sizeOf3
 v3:=Tryz.zeroValue3
 t9:=Tryz.underlying9
 a9:=Tryz.isAgg9
 z9:=Tryz.sizeOf9
 v9:=Tryz.zeroValue9 }
open Go.RowKit in
theorem Tryz.strings_Compare(a b:ByteArray)(w:World):
 Calls Tryz.prog 179 #[.string a,.string b] w λe w'=>e = .returned (.int .i64 (Lib.compareBytes a.data.toList b.data.toList))/\w'=w:=Any.strings_Compare Tryz.lays106 a b w
def Tryz.lays122_ren:Go.Shelf.Ren:=⟨fun|122=>178|215=>191|n=>n,fun|3=>3|4=>4|n=>n,fun|n=>n⟩
theorem Tryz.lays122:Go.Proofs.Lays.n122 Tryz.prog Tryz.lays122_ren := {
 mixed:=by kernel_rfl
 f122:=Tryz.func178.trans (congrArg some (by kernel_rfl))
 f215:=Tryz.func191.trans (congrArg some (by kernel_rfl))
 t3:=Tryz.underlying3
 a3:=Tryz.isAgg3
 z3:=Tryz.sizeOf3
 v3:=Tryz.zeroValue3
 t4:=Tryz.underlying4
 a4:=Tryz.isAgg4
 z4:=Tryz.sizeOf4
 v4:=Tryz.zeroValue4 }
open Go.RowKit in
theorem Tryz.cmp_Compare_int(x y:Int)(w:World):
 Calls Tryz.prog 178 #[.int .i64 x,.int .i64 y] w λe w'=>e = .returned (.int .i64 (Lib.compareInt x y))/\w'=w:=Any.cmp_Compare_int Tryz.lays122 x y w
def Tryz.lays138_ren:Go.Shelf.Ren:=⟨fun|138=>300|195=>301|218=>302|143=>303|219=>304|217=>305|225=>306|224=>307|267=>308|266=>309|314=>310|n=>n,fun|9=>9|3=>3|4=>4|5=>5|0=>0|46=>254|146=>376|51=>225|n=>n,fun|1=>1|n=>n⟩
theorem Tryz.lays138:Go.Proofs.Lays.n138 Tryz.prog Tryz.lays138_ren := {
 mixed:=by kernel_rfl
 f138:=Tryz.func300.trans (congrArg some (by kernel_rfl))
 f143:=Tryz.func303.trans (congrArg some (by kernel_rfl))
 f195:=Tryz.func301.trans (congrArg some (by kernel_rfl))
 f217:=Tryz.func305.trans (congrArg some (by kernel_rfl))
 f218:=Tryz.func302.trans (congrArg some (by kernel_rfl))
 f219:=Tryz.func304.trans (congrArg some (by kernel_rfl))
 f224:=Tryz.func307.trans (congrArg some (by kernel_rfl))
 f225:=Tryz.func306.trans (congrArg some (by kernel_rfl))
 f266:=Tryz.func309.trans (congrArg some (by kernel_rfl))
 f267:=Tryz.func308.trans (congrArg some (by kernel_rfl))
 f314:=Tryz.func310.trans (congrArg some (by kernel_rfl))
 t0:=Tryz.underlying0
 a0:=Tryz.isAgg0
 z0:=Tryz.sizeOf0
 v0:=Tryz.zeroValue0
 t3:=Tryz.underlying3
 a3:=Tryz.isAgg3
 z3:=Tryz.sizeOf3
 v3:=Tryz.zeroValue3
 t4:=Tryz.underlying4
 a4:=Tryz.isAgg4
 z4:=Tryz.sizeOf4
 v4:=Tryz.zeroValue4
 t5:=Tryz.underlying5
 a5:=Tryz.isAgg5
 z5:=Tryz.sizeOf5
 v5:=Tryz.zeroValue5
 t9:=Tryz.underlying9
 a9:=Tryz.isAgg9
 z9:=Tryz.sizeOf9
 v9:=Tryz.zeroValue9
 t46:=Tryz.underlying254
 a46:=Tryz.isAgg254
 z46:=Tryz.sizeOf254
 v46:=Tryz.zeroValue254
 t51:=Tryz.underlying225
 a51:=Tryz.isAgg225
 z51:=Tryz.sizeOf225
 v51:=Tryz.zeroValue225
 t146:=Tryz.underlying376
 a146:=Tryz.isAgg376
 z146:=Tryz.sizeOf376
 v146:=Tryz.zeroValue376
 g1:=by kernel_rfl }
open Go.RowKit Go.Lib in
theorem Tryz.strings_Count_one(s:ByteArray)(c:UInt8)(w:World):
 Calls Tryz.prog 300 #[.string s,.string ⟨#[c]⟩] w λe w'=>e = .returned (.int .i64 (Lib.countByte s.data.toList c))/\w'=w:=Any.strings_Count_one Tryz.lays138 s c w
def Tryz.lays190_ren:Go.Shelf.Ren:=⟨fun|190=>181|125=>184|258=>194|128=>203|129=>204|302=>212|303=>213|304=>214|305=>215|306=>216|307=>217|308=>218|309=>219|310=>220|333=>236|329=>222|330=>223|334=>237|335=>238|336=>239|344=>249|n=>n,fun|31=>85|9=>9|3=>3|46=>254|0=>0|51=>225|53=>218|4=>4|183=>281|182=>280|131=>285|5=>5|218=>309|222=>313|228=>326|229=>327|n=>n,fun|n=>n⟩
theorem Tryz.lays190:Go.Proofs.Lays.n190 Tryz.prog Tryz.lays190_ren := {
 mixed:=by kernel_rfl
 f125:=Tryz.func184.trans (congrArg some (by kernel_rfl))
 f128:=Tryz.func203.trans (congrArg some (by kernel_rfl))
 f129:=Tryz.func204.trans (congrArg some (by kernel_rfl))
 f190:=Tryz.func181.trans (congrArg some (by kernel_rfl))
 f258:=Tryz.func194.trans (congrArg some (by kernel_rfl))
 f302:=Tryz.func212.trans (congrArg some (by kernel_rfl))
 f303:=Tryz.func213.trans (congrArg some (by kernel_rfl))
 f304:=Tryz.func214.trans (congrArg some (by kernel_rfl))
 f305:=Tryz.func215.trans (congrArg some (by kernel_rfl))
 f306:=Tryz.func216.trans (congrArg some (by kernel_rfl))
 f307:=Tryz.func217.trans (congrArg some (by kernel_rfl))
 f308:=Tryz.func218.trans (congrArg some (by kernel_rfl))
 f309:=Tryz.func219.trans (congrArg some (by kernel_rfl))
 f310:=Tryz.func220.trans (congrArg some (by kernel_rfl))
 f329:=Tryz.func222.trans (congrArg some (by kernel_rfl))
 f330:=Tryz.func223.trans (congrArg some (by kernel_rfl))
 f333:=Tryz.func236.trans (congrArg some (by kernel_rfl))
 f334:=Tryz.func237.trans (congrArg some (by kernel_rfl))
 f335:=Tryz.func238.trans (congrArg some (by kernel_rfl))
 f336:=Tryz.func239.trans (congrArg some (by kernel_rfl))
 f344:=Tryz.func249.trans (congrArg some (by kernel_rfl))
 t0:=Tryz.underlying0
 a0:=Tryz.isAgg0
 z0:=Tryz.sizeOf0
 v0:=Tryz.zeroValue0
 t3:=Tryz.underlying3
 a3:=Tryz.isAgg3
 z3:=Tryz.sizeOf3
 v3:=Tryz.zeroValue3
 t4:=Tryz.underlying4
 a4:=Tryz.isAgg4
 z4:=Tryz.sizeOf4
 v4:=Tryz.zeroValue4
 t5:=Tryz.underlying5
 a5:=Tryz.isAgg5
 z5:=Tryz.sizeOf5
 v5:=Tryz.zeroValue5
 t9:=Tryz.underlying9
 a9:=Tryz.isAgg9
 z9:=Tryz.sizeOf9
 v9:=Tryz.zeroValue9
 t31:=Tryz.underlying85
 a31:=Tryz.isAgg85
 z31:=Tryz.sizeOf85
 v31:=Tryz.zeroValue85
 t46:=Tryz.underlying254
 a46:=Tryz.isAgg254
 z46:=Tryz.sizeOf254
 v46:=Tryz.zeroValue254
 t51:=Tryz.underlying225
 a51:=Tryz.isAgg225
 z51:=Tryz.sizeOf225
 v51:=Tryz.zeroValue225
 t53:=Tryz.underlying218
 a53:=Tryz.isAgg218
 z53:=Tryz.sizeOf218
 v53:=Tryz.zeroValue218
 t131:=Tryz.underlying285
 a131:=Tryz.isAgg285
 z131:=Tryz.sizeOf285
 v131:=Tryz.zeroValue285
 t182:=Tryz.underlying280
 a182:=Tryz.isAgg280
 z182:=Tryz.sizeOf280
 v182:=Tryz.zeroValue280
 t183:=Tryz.underlying281
 a183:=Tryz.isAgg281
 z183:=Tryz.sizeOf281
 v183:=Tryz.zeroValue281
 t218:=Tryz.underlying309
 a218:=Tryz.isAgg309
 z218:=Tryz.sizeOf309
 v218:=Tryz.zeroValue309
 t222:=Tryz.underlying313
 a222:=Tryz.isAgg313
 z222:=Tryz.sizeOf313
 v222:=Tryz.zeroValue313
 t228:=Tryz.underlying326
 a228:=Tryz.isAgg326
 z228:=Tryz.sizeOf326
 v228:=Tryz.zeroValue326
 t229:=Tryz.underlying327
 a229:=Tryz.isAgg327
 z229:=Tryz.sizeOf327
 v229:=Tryz.zeroValue327 }
open Go.Sort Go.RowKit in
theorem Tryz.slices_Sort_string(blk off cap:Nat)(ss:List (List UInt8))(w:World)(hH:Holds encStr w blk off ss.toArray)(hblk:blk<w.heap.size)(hsz:ss.length<4611686018427387904):
 Calls Tryz.prog 181 #[.slice (some ⟨blk,off,none⟩) ss.length cap] w λe w' =>
  e = .returned (.tuple #[])/\∃n os,w'=grow (putRow encStr (Sort.ahead w n) blk off (ss.mergeSort λx y=>decide (x<=y)).toArray) os:=Any.slices_Sort_string Tryz.lays190 blk off cap ss w hH hblk hsz
def Tryz.lays264_ren:Go.Shelf.Ren:=⟨fun|264=>154|n=>n,fun|53=>218|46=>254|n=>n,fun|n=>n⟩
theorem Tryz.lays264:Go.Proofs.Lays.n264 Tryz.prog Tryz.lays264_ren := {
 mixed:=by kernel_rfl
 f264:=Tryz.func154.trans (congrArg some (by kernel_rfl))
 t46:=Tryz.underlying254
 a46:=Tryz.isAgg254
 z46:=Tryz.sizeOf254
 v46:=Tryz.zeroValue254
 t53:=Tryz.underlying218
 a53:=Tryz.isAgg218
 z53:=Tryz.sizeOf218
 v53:=Tryz.zeroValue218 }
open Go.RowKit Go.Lib in
theorem Tryz.bits_Mul64(x y:Nat)(hx:x<18446744073709551616)(hy:y<18446744073709551616)(w:World):
 Calls Tryz.prog 154 #[.int .u64 x,.int .u64 y] w λe w'=>e = .returned (.tuple #[.int .u64 ((x*y / 18446744073709551616:Nat):Int),.int .u64 ((x*y % 18446744073709551616:Nat):Int)])/\w'=w:=Any.bits_Mul64 Tryz.lays264 x y hx hy w
def Tryz.lays109_ren:Go.Shelf.Ren:=⟨fun|109=>144|n=>n,fun|31=>85|9=>9|3=>3|0=>0|4=>4|n=>n,fun|n=>n⟩
theorem Tryz.lays109:Go.Proofs.Lays.n109 Tryz.prog Tryz.lays109_ren := {
 mixed:=by kernel_rfl
 f109:=Tryz.func144.trans (congrArg some (by kernel_rfl))
 t0:=Tryz.underlying0
 a0:=Tryz.isAgg0
 z0:=Tryz.sizeOf0
 v0:=Tryz.zeroValue0
 t3:=Tryz.underlying3
 a3:=Tryz.isAgg3
 z3:=Tryz.sizeOf3
 v3:=Tryz.zeroValue3
 t4:=Tryz.underlying4
 a4:=Tryz.isAgg4
 z4:=Tryz.sizeOf4
 v4:=Tryz.zeroValue4
 t9:=Tryz.underlying9
 a9:=Tryz.isAgg9
 z9:=Tryz.sizeOf9
 v9:=Tryz.zeroValue9
 t31:=Tryz.underlying85
 a31:=Tryz.isAgg85
 z31:=Tryz.sizeOf85
 v31:=Tryz.zeroValue85 }
open Go.Lib in
theorem Tryz.slices_Index_string(b off n c:Nat)(zs:List ByteArray)(x:ByteArray)(w:World)(hz:n<=zs.length)(hbig:n<=9223372036854775807)(hc:∀j,j<zs.length->w.cell? ⟨b,off+j,none⟩=some (.string (zs.getD j ByteArray.empty))):
 Calls Tryz.prog 144 #[.slice (some ⟨b,off,none⟩) n c,.string x] w λe w'=>e = .returned (.int .i64 (Lib.idxOfS (zs.take n) x))/\w'=w:=Any.slices_Index_string Tryz.lays109 b off n c zs x w hz hbig hc
open Go.Lib in
theorem Tryz.slices_Index_string_empty(a:Option Addr)(c:Nat)(x:ByteArray)(w:World):
 Calls Tryz.prog 144 #[.slice a 0 c,.string x] w λe w'=>e = .returned (.int .i64 (Lib.idxOfS [] x))/\w'=w:=Any.slices_Index_string_empty Tryz.lays109 a c x w
open Go.RowKit Go.Sort in
theorem Tryz.slices_Sort_string_none(p:Option Addr)(cap:Nat)(w:World):
 Calls Tryz.prog 181 #[.slice p 0 cap] w λe w'=>e = .returned (.tuple #[])/\w'=w:=Any.slices_Sort_string_none Tryz.lays190 p cap w
end Go.Proofs
namespace Go.Proofs.YtokiogmfgpidmaaGreatDoor
open Go.RowKit Go.Wk
theorem strings_Compare(a b:ByteArray)(w:World):
 Calls Tryz.prog 179 #[.string a,.string b] w λe w'=>e = .returned (.int .i64 (jh a b))/\w'=w:=Tryz.strings_Compare a b w
theorem Gr(a b:Int)(w:World):
 Calls Tryz.prog 74 #[.int .i64 a,.int .i64 b] w λe w'=>e = .returned (.int .i64 (Gl a b))/\w=w':=by
 by_cases h1:a<b
 ·go_enter Tryz.func74,Tryz.ntmps74;go_wp2;go_ret;exact⟨jb (by unfold Gl;split <;>(try split)<;> omega),rfl⟩
 ·by_cases h2:b<a
  ·go_enter Tryz.func74,Tryz.ntmps74;go_wp2;go_ret;exact⟨jb (by unfold Gl;split <;>(try split)<;> omega),rfl⟩
  ·go_enter Tryz.func74,Tryz.ntmps74;go_wp2;go_ret;exact⟨jb (by unfold Gl;split <;>(try split)<;> omega),rfl⟩
theorem zk9(a b:ByteArray):jh a b=Lib.compareBytes (a.data.toList.drop 0) (b.data.toList.drop 0):=rfl
theorem zfH{a b:ByteArray}{k:Nat}(h1:k<a.size)(h2:k<b.size)(hc:jh a b=Lib.compareBytes (a.data.toList.drop k) (b.data.toList.drop k))(h:(a[k].toNat:Int)<b[k].toNat):jh a b = -1 :=
 hc.trans (Qu (by simpa using h1) (by simpa using h2) (UInt8.lt_iff_toNat_lt.2 (show a[k].toNat<b[k].toNat by omega)))
theorem zf0{a b:ByteArray}{k:Nat}(h1:k<a.size)(h2:k<b.size)(hc:jh a b=Lib.compareBytes (a.data.toList.drop k) (b.data.toList.drop k))(h:(b[k].toNat:Int)<a[k].toNat):jh a b=1 :=
 hc.trans (Pz (by simpa using h1) (by simpa using h2) (UInt8.lt_iff_toNat_lt.2 (show b[k].toNat<a[k].toNat by omega)))
theorem zfA{a b:ByteArray}{k:Nat}(h1:k<a.size)(h2:k<b.size)(hc:jh a b=Lib.compareBytes (a.data.toList.drop k) (b.data.toList.drop k))(h:(a[k].toNat:Int)=b[k].toNat):
 jh a b=Lib.compareBytes (a.data.toList.drop (k+1)) (b.data.toList.drop (k+1)):=
 hc.trans (Pr (by simpa using h1) (by simpa using h2) (UInt8.toNat_inj.1 (show a[k].toNat=b[k].toNat by omega)))
theorem zbT{a b:ByteArray}{k:Nat}(h:a.size<=k\/b.size<=k)(ha:k<=a.size)(hb:k<=b.size)(hc:jh a b=Lib.compareBytes (a.data.toList.drop k) (b.data.toList.drop k)):jh a b=Gl a.size b.size :=
 hc.trans ((QZ (by simpa using h) (by simpa using ha) (by simpa using hb)).trans (by simp))
theorem Mj(a b:ByteArray)(w:World)(ha:a.size<=maxLen)(_hb:b.size<=maxLen):
 Calls Tryz.prog 39 #[.string a,.string b] w λe w'=>e = .returned (.int .i64 (jh a b))/\Below w.heap.size w w':=by
 unfold maxLen at ha _hb;go_enter Tryz.func39,Tryz.ntmps39;go_wp2;go_loopw [4,5] (λr i wr=>∃k:Nat,k<=a.size/\k<=b.size/\i = .int .i64 k/\r = .int .i64 0/\Hid (jh a b=Lib.compareBytes (a.data.toList.drop k) (b.data.toList.drop k))/\Below w.heap.size w wr) (λ_ i _=>a.size-(intOf i).toNat)
 case atStart=>exact⟨0,Nat.zero_le _,Nat.zero_le _,rfl,rfl,zk9 a b,Below.refl _ _⟩
 case round =>
  obtain⟨k,hka,hkb,rfl,rfl,hc,yj⟩:=hrel;by_cases h1:k<a.size
  ·by_cases h2:k<b.size
   ·by_cases e1:(a[k].toNat:Int)<b[k].toNat
    ·have H:=O (zfH h1 h2 hc.o e1);clear hc;go_wp2;go_quiet (fail);go_wp2;go_ret;exact⟨jb H.o.symm,by first|exact yj.drewN _|exact(yj.drewN _).drewN _⟩
    ·by_cases e2:(b[k].toNat:Int)<a[k].toNat
     ·have H:=O (zf0 h1 h2 hc.o e2);clear hc;go_wp2;go_quiet (fail);go_wp2;go_quiet (fail);go_wp2;go_ret;exact⟨jb H.o.symm,by first|exact yj.drewN _|exact(yj.drewN _).drewN _⟩
     ·have H:=O (zfA h1 h2 hc.o (by omega));clear hc;go_wp2;go_quiet (fail);go_wp2;go_quiet (fail);go_wp2;go_roundw
      case rel=>exact⟨k+1,by omega,by omega,by go_num,rfl,H,by first|exact yj.drewN _|exact(yj.drewN _).drewN _⟩
      case measure=>simp [intOf];omega
   ·have H:=O (zbT (.inr (by omega)) hka hkb hc.o);clear hc;go_wp2_with (go_at_call 74;refine(Gr _ _ _).mono ?_;rintro e w' ⟨rfl,rfl⟩);go_ret;exact⟨jb H.o.symm,yj⟩
  ·have H:=O (zbT (.inl (by omega)) hka hkb hc.o);clear hc;go_wp2_with (go_at_call 74;refine(Gr _ _ _).mono ?_;rintro e w' ⟨rfl,rfl⟩);go_ret;exact⟨jb H.o.symm,yj⟩
end Go.Proofs.YtokiogmfgpidmaaGreatDoor
