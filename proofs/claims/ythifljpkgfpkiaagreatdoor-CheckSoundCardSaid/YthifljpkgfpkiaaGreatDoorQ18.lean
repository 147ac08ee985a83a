/-
  The frame of every law: a law that returns true and leaves what was there as it ..
-/
import Derived.WalkSpells
import Derived.WalkLawsBesides
import Derived.ProofKit
import Derived.OpenShut
import Derived.StillTailTactics
import Derived.Lib.QuietBelow
import Derived.Lib.Hide
import Derived.Shelf.Small.Bits
import Derived.Shelf.Small.Strs
import Derived.Shelf.Small.Wraps
import Derived.Shelf.Sort.Plain
import Derived.Shelf.Strings.Split
import Derived.Shelf.Bits.Mul64
import Derived.Shelf.Strings.BuilderCap
import Derived.Shelf.Slices.Turned
import Derived.Shelf.Slices.SearchI
import Derived.Shelf.Slices.In.SortNone
import Derived.Test.YthifljpkgfpkiaaGreatDoorRows
set_option maxRecDepth 100000
theorem hi9{p:Prop}(h:p):Go.RowKit.Hid p:=Go.Lib.hid h
theorem O {p:Prop} (h:p):Go.RowKit.Hid p:=h
theorem _root_.Go.RowKit.Hid.o {p:Prop} (h:Go.RowKit.Hid p):p:=h
namespace Go.Proofs.YthifljpkgfpkiaaGreatDoor
open Go.ChangeShapes Go.WideShapes Go.ChangeAt Go.RowKit
theorem own:ownKnob Tryz.prog.godebug=none:=by kernel_rfl
theorem I1:laidOutB Tryz.prog=true:=by kernel_rfl
theorem xd{H:Type}{enc:TypeId × Value->H}{P:Program}(hl:laidOutB P=true){W W':World}(hb:Below W.heap.size W W'):
 ∀(ts:List TypeId) (vs:List Value) (ds:List (DataW H)) (ps:List MemPlace),(∀t∈ts,P.readableRec t=true/\t<P.types.size)->
  (∀x∈ps,x.block<W.heap.size)->DataW.TrodAll enc P W 0 (λ_=>true) true ts vs ds ps->DataW.TrodAll enc P W' 0 (λb=>decide (b<W.heap.size)) true ts vs ds ps:=by
 intro ts
 induction ts with
 | nil =>
  intro vs ds ps _ _ h
  cases vs <;> cases ds <;> simp_all [DataW.TrodAll]
 | cons t ts ih =>
  intro vs ds ps hr hlt h
  match vs,ds,h with
  | v :: vs,d :: ds,h =>
   obtain⟨p,q,h1,h2,rfl⟩:=h
   have ht:=hr t (by simp)
   exact⟨p,q,Below.trod hl ht.1 ht.2 h1 hb (λx hx=>hlt x (by simp [hx])),
    ih vs ds q (λt' h'=>hr t' (by simp [h'])) (λx hx=>hlt x (by simp [hx])) h2,rfl⟩
theorem ve{H:Type}{enc:TypeId × Value->H}{P:Program}{W:World}{b:Nat}{sp:Nat->Bool}{hd:Bool} :
 ∀(ts:List TypeId) (vs:List Value) (ds:List (DataW H)) (ps:List MemPlace),DataW.TrodAll enc P W b sp hd ts vs ds ps->ds.length=ts.length:=by
 intro ts
 induction ts with
 | nil=>intro vs ds ps h;cases vs <;> cases ds <;> simp_all [DataW.TrodAll]
 | cons t ts ih =>
  intro vs ds ps h
  match vs,ds,h with
  | v :: vs,d :: ds,h =>
   obtain⟨p,q,_,h2,_⟩:=h
   simp [ih vs ds q h2]
theorem Qf{H:Type}{enc:TypeId × Value->H}{P:Program}{f:Func}{s:ChangeSpec}{W W':World}{args:Array Value}{ds gs:List (DataW H)}{before:List MemPlace}{tb:TypeId}
 (hl:laidOutB P=true) (hr0:(f.params.toList.all λt=>P.readableRec t && decide (t<P.types.size))=true) (hres:f.resultTypes=#[tb]) (hbool:P.underlying tb=some .bool)
 (hv:s.vars = []) (hs:∀ds:List (DataW H),ds.length=f.params.toList.length->s.fn H ds = { results := [.lit (.bool true)],args:=ds })
 (hW:DataW.Whole enc P f.params.toList s.vars false W args.toList ds gs before) (hb:Below W.heap.size W W'):
 s.post enc P f false true false false W args (.bool true) W':=by
 have hlt:=hW.lt;have hW0:=hW;have hr:∀t∈f.params.toList,P.readableRec t=true/\t<P.types.size:=λt ht=>by simpa using List.all_eq_true.1 hr0 t ht
 obtain⟨p,q,hA,hV,rfl,hfz,_⟩:=hW;rw [hv] at hV;obtain⟨rfl,rfl⟩:gs = []/\q = []:=by
  cases gs with
  | nil=>exact⟨rfl,hV⟩
  | cons g r=>exact absurd hV (by intro h;cases h)
 have hlen:=ve _ _ _ _ hA;have he:s.fn H (ds ++ [])= { results := [.lit (.bool true)],args:=ds }:=by rw [List.append_nil];exact hs ds hlen
 simp only [List.append_nil] at hlt hW0;refine⟨ds,[],p,[],p,[],hW0,?_,?_,?_,hb.frame _,λh=>by cases h⟩
 ·rw [he,hres];exact trodAll_mk1 (shut_bool hbool true)
 ·rw [he];exact xd hl hb _ _ _ _ hr hlt hA
 ·rw [he,hv];rfl
theorem tI{P:Program}{id:Nat}{Q:Exit->Act->World->Prop}{a:Act}{w:World}{l:List Oper}(n:Nat)(hm:P.follows .mixedOrders=true)(hB:Region.lexTailB .any l.toArray n=true)
 (h:wpStill P l.toArray w.drew (λa'=>wpList P l.toArray Q (l.drop n) a' w.drew) (l.take n) a):(Code.region id l.toArray true).wp P Q a w :=
 wp_region_still_tail n hm hB h
theorem _root_.Go.RowKit.Below.drewN{B:Nat}{a w:World}(h:Below B a w)(n:Nat):Below B a (w.drewN n):=⟨h.os,h.tape,h.output,h.size,h.block⟩
theorem zb{w w':World}(hb:Below w.heap.size w w'){a:Addr}{v:Value}(h:w.cell? a=some v):w'.cell? a=some v :=
 (hb.cell (block_lt_of_cell h)).trans h
theorem toList_inj{a b:ByteArray}(h:a.toList=b.toList):a=b:=by
 rw [ByteArray.toList_eq,ByteArray.toList_eq] at h;cases a;cases b;simp at h;simp [h]
theorem bv{W w1:World}(hb:Below W.heap.size W w1):(∀b o,b<W.heap.size->w1.cell? ⟨b,o,none⟩=W.cell? ⟨b,o,none⟩)/\(∀b o,b<W.heap.size->w1.frozen? ⟨b,o,none⟩=W.frozen? ⟨b,o,none⟩):=
 ⟨λb o h=>hb.cell (p:=⟨b,o,none⟩) h,λb o h=>hb.frozen (p:=⟨b,o,none⟩) h⟩
@[simp] theorem size_drewN (w:World) (n:Nat):(w.drewN n).heap.size=w.heap.size:=rfl
theorem ag(w:World)(l:List Value)(t:TypeId):∀j u,l[j]?=some u->(w.alloc (.cells l.toArray t)).cell? ((⟨w.heap.size,0,none⟩:Addr).add j)=some u:=by
 intro j u h;have e:(⟨w.heap.size,0,none⟩:Addr).add j=⟨w.heap.size,j,none⟩:=by
  unfold Addr.add;split
  ·rename_i h0;subst h0;rfl
  ·simp
 rw [e,World.cell?_alloc_at _ _ _ _ rfl];simpa using h
theorem jk{w:World}{B:Nat}{e:TypeId}{size n:Nat}{v:Value}{xs:List Value}(h:w.ownsRow B e size v n xs):∀g,v.ownBlock=some g->B<=g:=by
 intro g hg;rcases h.2 with ⟨rfl,_⟩|⟨g',cap,cur,rfl,hb,_⟩
 ·simp [Value.ownBlock] at hg
 ·simp [Value.ownBlock] at hg;omega
theorem dJ{w wr w1:World}{B:Nat}{e:TypeId}{size n:Nat}{v:Value}{xs:List Value}(hb:Below B w wr)(hB:B<=w.heap.size)(hown:wr.ownsRow B e size v n xs)(o:Obj)
 (hg:(wr.alloc o).grownBy w1 v.ownBlock):Below B w w1:=by
 have h1:B<=wr.heap.size:=Nat.le_trans hB hb.size;exact(hb.alloc h1 o).grown hg (by simp;omega) (jk hown)
def je(n:Int):Value:=if n=0 then .nilIface else .iface 41 (.int .i64 n)
theorem zj:je 0 = .nilIface:=rfl
theorem zm{n:Int}(h:n≠0):je n = .iface 41 (.int .i64 n):=if_neg h
theorem cG{a b:Int}(h:a=b):Ending.returned (.int .i64 a)= .returned (.int .i64 b):=by rw [h]
theorem zM{a b:Bool}(h:a=b):Ending.returned (.bool a)= .returned (.bool b):=by rw [h]
theorem Hg{B:Nat}{a b c:World}(h:Hid (Below B a b))(k:Hid (Below b.heap.size b c))(hB:B<=a.heap.size):Hid (Below B a c):=
 Go.Lib.hid (h.o.trans (k.o.mono (Nat.le_trans hB h.o.size)))
theorem bh{a b c:World}(h:Hid (Below a.heap.size a b))(k:Below b.heap.size b c):Hid (Below a.heap.size a c):=
 Go.Lib.hid (h.o.trans (k.mono h.o.size))
theorem ke{w w':World}(hg:w.grownBy w' none):Below w.heap.size w w':=⟨hg.os,hg.tape,hg.output,hg.size,λk hk=>hg.block k hk (by simp)⟩
theorem ej{w:World}{B n:Nat}{e:TypeId}{size:Nat}{v:Value}{xs:List Value}(h:w.ownsRow B e size v n xs):∀g,v.ownBlock=some g->g<w.heap.size:=by
 intro g hg;rcases h.2 with ⟨rfl,_⟩|⟨g',cap,cur,rfl,_,hh,_⟩
 ·simp [Value.ownBlock] at hg
 ·simp [Value.ownBlock] at hg;subst hg;exact(Array.getElem?_eq_some_iff.1 hh).1
theorem za(w:World)(o:Obj):Below w.heap.size w (w.alloc o):=(Below.refl _ _).alloc (Nat.le_refl _) o
theorem zc{w w':World}(h:Below w.heap.size w w')(r:Option Nat):w.grownBy w' r:=⟨h.os,h.tape,h.output,h.size,λk hk _=>h.block k hk⟩
theorem jE{w w':World}{R B:Nat}(h:w.grownBy w' (some R))(hB:B<=R)(UI:B<=w.heap.size):Below B w w' :=
 ⟨h.os,h.tape,h.output,h.size,λk hk=>h.block k (by omega) (by intro e;cases e;omega)⟩
theorem zl(w:World)(p:Addr)(u:Value):w.grownBy (w.setCell p u) (some p.block):=
 ⟨rfl,rfl,rfl,by simp [World.setCell],λk _ hn=>Below.heap_setCell _ _ _ _ (λe=>hn (by rw [e]))⟩
theorem dO{w w':World}{B n:Nat}{e:TypeId}{size:Nat}{v:Value}{xs:List Value}(h:w.ownsRow B e size v n xs)(hb:Below w.heap.size w w'):w'.ownsRow B e size v n xs :=
 h.kept (zc hb none) (by cases hv:v.ownBlock <;> simp)
end Go.Proofs.YthifljpkgfpkiaaGreatDoor
namespace Go.Wk
open Go.ChangeShapes Go.WideShapes Go.RowKit
def Rd(P:Program)(w:World)(t:TypeId)(cs:List Value):Prop :=
 ∃(H:Type) (enc:TypeId × Value->H) (base:Nat) (sp:Nat->Bool) (held:Bool) (fuel:Nat) (x:DataW H × List MemPlace),DataW.trod enc P w base sp held fuel t cs=some x
section
variable {P:Program} {w:World} {t:TypeId} {cs:List Value}
theorem kC{H:Type}{enc:TypeId × Value->H}{b:Nat}{sp:Nat->Bool}{hd:Bool}{v:Value}{d:DataW H}{ps:List MemPlace}(h:DataW.Trod enc P w b sp hd t v d ps):Rd P w t v.cells.toList :=
 let ⟨f,hf⟩:=h;⟨H,enc,b,sp,hd,f,_,hf⟩
theorem eA(ht:P.underlying t=some .string)(h:Rd P w t cs):∃s:ByteArray,cs = [.string s]/\s.size<=maxLen:=by
 obtain⟨H,enc,b,sp,hd,f,x,hx⟩:=h;obtain⟨s,h1,_,h2⟩:=DataW.trod_string ht hx;exact⟨s,h1,h2⟩
theorem Vf{k:IntKind}(ht:P.underlying t=some (.int k))(h:Rd P w t cs):∃n:Int,cs = [.int k n]/\(Lit.int k n).wf=true:=by
 obtain⟨H,enc,b,sp,hd,f,x,hx⟩:=h;obtain⟨s,h1,_,h2⟩:=DataW.trod_int ht hx;exact⟨s,h1,h2⟩
theorem Nh(ht:P.underlying t=some (.int .i64))(h:Rd P w t cs):∃n:Int,cs = [.int .i64 n]/\-9223372036854775808<=n/\n<=9223372036854775807:=by
 obtain⟨n,h1,h2⟩:=Vf ht h;refine⟨n,h1,?_⟩;simpa [Lit.wf,IntKind.min,IntKind.max,IntKind.bits,IntKind.signed] using h2
theorem dt{fs:Array Field}(ht:P.underlying t=some (.struct fs))(h:Rd P w t cs):
 cs.length=P.cellsOf t/\∀(i:Nat) (f:Field),fs[i]?=some f->Rd P w f.type ((cs.drop f.offset).take (P.cellsOf f.type)):=by
 obtain⟨H,enc,b,sp,hd,f,x,hx⟩:=h;obtain⟨xs,n,_,_,h1,h2,h3⟩:=DataW.trod_struct ht hx;refine⟨h1,λi f hf=>?_⟩;have hi:i<xs.length:=by rw [h2];exact(Array.getElem?_eq_some_iff.1 hf).1
 exact⟨H,enc,b,sp,hd,n,xs[i],(h3 i f hf).trans (List.getElem?_eq_getElem hi)⟩
theorem jH{fs:Array Field}(ht:P.underlying t=some (.struct fs))(h:Rd P w t cs)(i T o n:Nat)(hf:(fs[i]?).map (λf=>(f.type,f.offset))=some (T,o))(hn:P.cellsOf T=n):
 Rd P w T ((cs.drop o).take n):=by
 rcases hi:fs[i]? with _|f
 ·rw [hi] at hf;cases hf
 ·rw [hi] at hf;simp only [Option.map_some,Option.some.injEq,Prod.mk.injEq] at hf;obtain⟨rfl,rfl⟩:=hf;subst hn;exact(dt ht h).2 i f hi
end
end Go.Wk
namespace Go.Proofs.YthifljpkgfpkiaaGreatDoor
open Go.Wk Go.ChangeShapes Go.WideShapes Go.RowKit
theorem dy:Tryz.prog.cellsOf 28=2:=by kernel_rfl
theorem bf:Tryz.prog.cellsOf 9=1:=by kernel_rfl
theorem ub{w:World}{cs:List Value}(h:Rd Tryz.prog w 28 cs):∃a b:ByteArray,cs = [.string a,.string b]/\a.size<=maxLen/\b.size<=maxLen:=by
 have hl:=(dt Tryz.underlying28 h).1;rw [dy] at hl
 match cs,hl with
 | [c0,c1],_ =>
  have h0:Rd Tryz.prog w 9 [c0]:=jH Tryz.underlying28 h 0 9 0 1 rfl bf
  have h1:Rd Tryz.prog w 9 [c1]:=jH Tryz.underlying28 h 1 9 1 1 rfl bf
  obtain⟨a,e0,s0⟩:=eA Tryz.underlying9 h0
  obtain⟨b,e1,s1⟩:=eA Tryz.underlying9 h1
  simp only [List.cons.injEq,and_true] at e0 e1
  exact⟨a,b,by rw [e0,e1],s0,s1⟩
end Go.Proofs.YthifljpkgfpkiaaGreatDoor
namespace Go.Proofs
open Go.Shelf
def Tryz.lays106_ren:Go.Shelf.Ren:=⟨fun|106=>116|213=>148|265=>167|n=>n,fun|9=>9|3=>3|n=>n,fun|n=>n⟩
theorem Tryz.lays106:Go.Proofs.Lays.n106 Tryz.prog Tryz.lays106_ren := {
 mixed:=by kernel_rfl
 f106:=Tryz.func116.trans (congrArg some (by kernel_rfl))
 f213:=Tryz.func148.trans (congrArg some (by kernel_rfl))
 f265:=Tryz.func167.trans (congrArg some (by kernel_rfl))
 t3:=Tryz.underlying3
 a3:=Tryz.isAgg3
 z3:=Tryz.sizeOf3
 v3:=Tryz.zeroValue3
 t9:=Tryz.underlying9
 a9:=Tryz.isAgg9
 z9:=Tryz.sizeOf9
 v9:=Tryz.zeroValue9 }
open Go.RowKit in
theorem Tryz.strings_Compare(a b:ByteArray)(w:World):
 Calls Tryz.prog 116 #[.string a,.string b] w λe w'=>e = .returned (.int .i64 (Lib.compareBytes a.data.toList b.data.toList))/\w'=w:=Any.strings_Compare Tryz.lays106 a b w
def Tryz.lays122_ren:Go.Shelf.Ren:=⟨fun|122=>166|215=>188|n=>n,fun|3=>3|4=>4|n=>n,fun|n=>n⟩
theorem Tryz.lays122:Go.Proofs.Lays.n122 Tryz.prog Tryz.lays122_ren := {
 mixed:=by kernel_rfl
 f122:=Tryz.func166.trans (congrArg some (by kernel_rfl))
 f215:=Tryz.func188.trans (congrArg some (by kernel_rfl))
 t3:=Tryz.underlying3
 a3:=Tryz.isAgg3
 z3:=Tryz.sizeOf3
 v3:=Tryz.zeroValue3
 t4:=Tryz.underlying4
 a4:=Tryz.isAgg4
 z4:=Tryz.sizeOf4
 v4:=Tryz.zeroValue4 }
open Go.RowKit in
theorem Tryz.cmp_Compare_int(x y:Int)(w:World):
 Calls Tryz.prog 166 #[.int .i64 x,.int .i64 y] w λe w'=>e = .returned (.int .i64 (Lib.compareInt x y))/\w'=w:=Any.cmp_Compare_int Tryz.lays122 x y w
def Tryz.lays138_ren:Go.Shelf.Ren:=⟨fun|138=>297|195=>298|218=>299|143=>300|219=>301|217=>302|225=>303|224=>304|267=>305|266=>306|314=>307|n=>n,fun|9=>9|3=>3|4=>4|5=>5|0=>0|46=>260|146=>404|51=>205|n=>n,fun|1=>1|n=>n⟩
theorem Tryz.lays138:Go.Proofs.Lays.n138 Tryz.prog Tryz.lays138_ren := {
 mixed:=by kernel_rfl
 f138:=Tryz.func297.trans (congrArg some (by kernel_rfl))
 f143:=Tryz.func300.trans (congrArg some (by kernel_rfl))
 f195:=Tryz.func298.trans (congrArg some (by kernel_rfl))
 f217:=Tryz.func302.trans (congrArg some (by kernel_rfl))
 f218:=Tryz.func299.trans (congrArg some (by kernel_rfl))
 f219:=Tryz.func301.trans (congrArg some (by kernel_rfl))
 f224:=Tryz.func304.trans (congrArg some (by kernel_rfl))
 f225:=Tryz.func303.trans (congrArg some (by kernel_rfl))
 f266:=Tryz.func306.trans (congrArg some (by kernel_rfl))
 f267:=Tryz.func305.trans (congrArg some (by kernel_rfl))
 f314:=Tryz.func307.trans (congrArg some (by kernel_rfl))
 t0:=Tryz.underlying0
 a0:=Tryz.isAgg0
 z0:=Tryz.sizeOf0
 v0:=Tryz.zeroValue0
 t3:=Tryz.underlying3
 a3:=Tryz.isAgg3
 z3:=Tryz.sizeOf3
 v3:=Tryz.zeroValue3
 t4:=Tryz.underlying4
 a4:=Tryz.isAgg4
 z4:=Tryz.sizeOf4
 v4:=Tryz.zeroValue4
 t5:=Tryz.underlying5
 a5:=Tryz.isAgg5
 z5:=Tryz.sizeOf5
 v5:=Tryz.zeroValue5
 t9:=Tryz.underlying9
 a9:=Tryz.isAgg9
 z9:=Tryz.sizeOf9
 v9:=Tryz.zeroValue9
 t46:=Tryz.underlying260
 a46:=Tryz.isAgg260
 z46:=Tryz.sizeOf260
 v46:=Tryz.zeroValue260
 t51:=Tryz.underlying205
 a51:=Tryz.isAgg205
 z51:=Tryz.sizeOf205
 v51:=Tryz.zeroValue205
 t146:=Tryz.underlying404
 a146:=Tryz.isAgg404
 z146:=Tryz.sizeOf404
 v146:=Tryz.zeroValue404
 g1:=by kernel_rfl }
open Go.RowKit Go.Lib in
theorem Tryz.strings_Count_one(s:ByteArray)(c:UInt8)(w:World):
 Calls Tryz.prog 297 #[.string s,.string ⟨#[c]⟩] w λe w'=>e = .returned (.int .i64 (Lib.countByte s.data.toList c))/\w'=w:=Any.strings_Count_one Tryz.lays138 s c w
def Tryz.lays190_ren:Go.Shelf.Ren:=⟨fun|190=>185|125=>151|258=>201|128=>176|129=>177|302=>221|303=>222|304=>223|305=>224|306=>225|307=>226|308=>227|309=>228|310=>229|333=>241|329=>190|330=>191|334=>242|335=>243|336=>244|344=>246|n=>n,fun|31=>45|9=>9|3=>3|46=>260|0=>0|51=>205|53=>241|4=>4|183=>283|182=>282|131=>89|5=>5|218=>307|222=>311|228=>334|229=>335|n=>n,fun|n=>n⟩
theorem Tryz.lays190:Go.Proofs.Lays.n190 Tryz.prog Tryz.lays190_ren := {
 mixed:=by kernel_rfl
 f125:=Tryz.func151.trans (congrArg some (by kernel_rfl))
 f128:=Tryz.func176.trans (congrArg some (by kernel_rfl))
 f129:=Tryz.func177.trans (congrArg some (by kernel_rfl))
 f190:=Tryz.func185.trans (congrArg some (by kernel_rfl))
 f258:=Tryz.func201.trans (congrArg some (by kernel_rfl))
 f302:=Tryz.func221.trans (congrArg some (by kernel_rfl))
 f303:=Tryz.func222.trans (congrArg some (by kernel_rfl))
 f304:=Tryz.func223.trans (congrArg some (by kernel_rfl))
 f305:=Tryz.func224.trans (congrArg some (by kernel_rfl))
 f306:=Tryz.func225.trans (congrArg some (by kernel_rfl))
 f307:=Tryz.func226.trans (congrArg some (by kernel_rfl))
 f308:=Tryz.func227.trans (congrArg some (by kernel_rfl))
 f309:=Tryz.func228.trans (congrArg some (by kernel_rfl))
 f310:=Tryz.func229.trans (congrArg some (by kernel_rfl))
 f329:=Tryz.func190.trans (congrArg some (by kernel_rfl))
 f330:=Tryz.func191.trans (congrArg some (by kernel_rfl))
 f333:=Tryz.func241.trans (congrArg some (by kernel_rfl))
 f334:=Tryz.func242.trans (congrArg some (by kernel_rfl))
 f335:=Tryz.func243.trans (congrArg some (by kernel_rfl))
 f336:=Tryz.func244.trans (congrArg some (by kernel_rfl))
 f344:=Tryz.func246.trans (congrArg some (by kernel_rfl))
 t0:=Tryz.underlying0
 a0:=Tryz.isAgg0
 z0:=Tryz.sizeOf0
 v0:=Tryz.zeroValue0
 t3:=Tryz.underlying3
 a3:=Tryz.isAgg3
 z3:=Tryz.sizeOf3
 v3:=Tryz.zeroValue3
 t4:=Tryz.underlying4
 a4:=Tryz.isAgg4
 z4:=Tryz.sizeOf4
 v4:=Tryz.zeroValue4
 t5:=Tryz.underlying5
 a5:=Tryz.isAgg5
 z5:=Tryz.sizeOf5
 v5:=Tryz.zeroValue5
 t9:=Tryz.underlying9
 a9:=Tryz.isAgg9
 z9:=Tryz.sizeOf9
 v9:=Tryz.zeroValue9
 t31:=Tryz.underlying45
 a31:=Tryz.isAgg45
 z31:=Tryz.sizeOf45
 v31:=Tryz.zeroValue45
 t46:=Tryz.underlying260
 a46:=Tryz.isAgg260
 z46:=Tryz.sizeOf260
 v46:=Tryz.zeroValue260
 t51:=Tryz.underlying205
 a51:=Tryz.isAgg205
 z51:=Tryz.sizeOf205
 v51:=Tryz.zeroValue205
 t53:=Tryz.underlying241
 a53:=Tryz.isAgg241
 z53:=Tryz.sizeOf241
 v53:=Tryz.zeroValue241
 t131:=Tryz.underlying89
 a131:=Tryz.isAgg89
 z131:=Tryz.sizeOf89
 v131:=Tryz.zeroValue89
 t182:=Tryz.underlying282
 a182:=Tryz.isAgg282
 z182:=Tryz.sizeOf282
 v182:=Tryz.zeroValue282
 t183:=Tryz.underlying283
 a183:=Tryz.isAgg283
 z183:=Tryz.sizeOf283
 v183:=Tryz.zeroValue283
 t218:=Tryz.underlying307
 a218:=Tryz.isAgg307
 z218:=Tryz.sizeOf307
 v218:=Tryz.zeroValue307
 t222:=Tryz.underlying311
 a222:=Tryz.isAgg311
 z222:=Tryz.sizeOf311
 v222:=Tryz.zeroValue311
 t228:=Tryz.underlying334
 a228:=Tryz.isAgg334
 z228:=Tryz.sizeOf334
 v228:=Tryz.zeroValue334
 t229:=Tryz.underlying335
 a229:=Tryz.isAgg335
 z229:=Tryz.sizeOf335
 v229:=Tryz.zeroValue335 }
open Go.Sort Go.RowKit in
theorem Tryz.slices_Sort_string(blk off cap:Nat)(ss:List (List UInt8))(w:World)(hH:Holds encStr w blk off ss.toArray)(hblk:blk<w.heap.size)(hsz:ss.length<4611686018427387904):
 Calls Tryz.prog 185 #[.slice (some ⟨blk,off,none⟩) ss.length cap] w λe w' =>
  e = .returned (.tuple #[])/\∃n os,w'=grow (putRow encStr (Sort.ahead w n) blk off (ss.mergeSort λx y=>decide (x<=y)).toArray) os:=Any.slices_Sort_string Tryz.lays190 blk off cap ss w hH hblk hsz
def Tryz.lays264_ren:Go.Shelf.Ren:=⟨fun|264=>141|n=>n,fun|53=>241|46=>260|n=>n,fun|n=>n⟩
theorem Tryz.lays264:Go.Proofs.Lays.n264 Tryz.prog Tryz.lays264_ren := {
 mixed:=by kernel_rfl
 f264:=Tryz.func141.trans (congrArg some (by kernel_rfl))
 t46:=Tryz.underlying260
 a46:=Tryz.isAgg260
 z46:=Tryz.sizeOf260
 v46:=Tryz.zeroValue260
 t53:=Tryz.underlying241
 a53:=Tryz.isAgg241
 z53:=Tryz.sizeOf241
 v53:=Tryz.zeroValue241 }
open Go.RowKit Go.Lib in
theorem Tryz.bits_Mul64(x y:Nat)(hx:x<18446744073709551616)(hy:y<18446744073709551616)(w:World):
 Calls Tryz.prog 141 #[.int .u64 x,.int .u64 y] w λe w'=>e = .returned (.tuple #[.int .u64 ((x*y / 18446744073709551616:Nat):Int),.int .u64 ((x*y % 18446744073709551616:Nat):Int)])/\w'=w:=Any.bits_Mul64 Tryz.lays264 x y hx hy w
def Tryz.lays109_ren:Go.Shelf.Ren:=⟨fun|109=>44|n=>n,fun|31=>45|9=>9|3=>3|0=>0|4=>4|n=>n,fun|n=>n⟩
theorem Tryz.lays109:Go.Proofs.Lays.n109 Tryz.prog Tryz.lays109_ren := {
 mixed:=by kernel_rfl
 f109:=Tryz.func44.trans (congrArg some (by kernel_rfl))
 t0:=Tryz.underlying0
 a0:=Tryz.isAgg0
 z0:=Tryz.sizeOf0
 v0:=Tryz.zeroValue0
 t3:=Tryz.underlying3
 a3:=Tryz.isAgg3
 z3:=Tryz.sizeOf3
 v3:=Tryz.zeroValue3
 t4:=Tryz.underlying4
 a4:=Tryz.isAgg4
 z4:=Tryz.sizeOf4
 v4:=Tryz.zeroValue4
 t9:=Tryz.underlying9
 a9:=Tryz.isAgg9
 z9:=Tryz.sizeOf9
 v9:=Tryz.zeroValue9
 t31:=Tryz.underlying45
 a31:=Tryz.isAgg45
 z31:=Tryz.sizeOf45
 v31:=Tryz.zeroValue45 }
open Go.Lib in
theorem Tryz.slices_Index_string(b off n c:Nat)(zs:List ByteArray)(x:ByteArray)(w:World)(hz:n<=zs.length)(hbig:n<=9223372036854775807)(hc:∀j,j<zs.length->w.cell? ⟨b,off+j,none⟩=some (.string (zs.getD j ByteArray.empty))):
 Calls Tryz.prog 44 #[.slice (some ⟨b,off,none⟩) n c,.string x] w λe w'=>e = .returned (.int .i64 (Lib.idxOfS (zs.take n) x))/\w'=w:=Any.slices_Index_string Tryz.lays109 b off n c zs x w hz hbig hc
open Go.Lib in
theorem Tryz.slices_Index_string_empty(a:Option Addr)(c:Nat)(x:ByteArray)(w:World):
 Calls Tryz.prog 44 #[.slice a 0 c,.string x] w λe w'=>e = .returned (.int .i64 (Lib.idxOfS [] x))/\w'=w:=Any.slices_Index_string_empty Tryz.lays109 a c x w
open Go.RowKit Go.Sort in
theorem Tryz.slices_Sort_string_none(p:Option Addr)(cap:Nat)(w:World):
 Calls Tryz.prog 185 #[.slice p 0 cap] w λe w'=>e = .returned (.tuple #[])/\w'=w:=Any.slices_Sort_string_none Tryz.lays190 p cap w
end Go.Proofs
