/-
  The frame of every law: a law that returns true and leaves what was there as it was meets its row.
-/
import Derived.WalkKit
import Derived.WalkSpells
import Derived.WalkLawsBesides
import Derived.BigQuiet
import Derived.Deep.QuietTactic
import Derived.ProofKit
import Derived.OpenShut
import Derived.Carry
import Derived.StillTailTactics
import Derived.Lib.QuietBelow
import Derived.Lib.Hide
import Derived.Test.YtlkfaliomdbaoaaGreatDoorRows
set_option maxRecDepth 100000
theorem hi9{p:Prop}(h:p):Go.RowKit.Hid p:=Go.Lib.hid h
namespace Go.Proofs.YtlkfaliomdbaoaaGreatDoor
open Go.ChangeShapes Go.WideShapes Go.ChangeAt Go.RowKit
theorem own:ownKnob Tryz.prog.godebug=none:=by kernel_rfl
theorem zo7:laidOutB Tryz.prog=true:=by kernel_rfl
theorem zhm{H:Type}{enc:TypeId × Value→H}{P:Program}(hl:laidOutB P=true){W W':World}(hb:Below W.heap.size W W'):
 ∀(ts:List TypeId) (vs:List Value) (ds:List (DataW H)) (ps:List MemPlace),(∀t∈ts,P.readableRec t=true∧t<P.types.size)→
  (∀x∈ps,x.block<W.heap.size)→DataW.TrodAll enc P W 0 (fun _=>true) true ts vs ds ps→DataW.TrodAll enc P W' 0 (fun b=>decide (b<W.heap.size)) true ts vs ds ps:=by
 intro ts
 induction ts with
 | nil =>
  intro vs ds ps _ _ h
  cases vs <;> cases ds <;> simp_all [DataW.TrodAll]
 | cons t ts ih =>
  intro vs ds ps hr hlt h
  match vs,ds,h with
  | v :: vs,d :: ds,h =>
   obtain⟨p,q,h1,h2,rfl⟩:=h
   have ht:=hr t (by simp)
   exact⟨p,q,Below.trod hl ht.1 ht.2 h1 hb (fun x hx=>hlt x (by simp [hx])),
    ih vs ds q (fun t' h'=>hr t' (by simp [h'])) (fun x hx=>hlt x (by simp [hx])) h2,rfl⟩
theorem zg9{H:Type}{enc:TypeId × Value→H}{P:Program}{W:World}{b:Nat}{sp:Nat→Bool}{hd:Bool} :
 ∀(ts:List TypeId) (vs:List Value) (ds:List (DataW H)) (ps:List MemPlace),DataW.TrodAll enc P W b sp hd ts vs ds ps→ds.length=ts.length:=by
 intro ts
 induction ts with
 | nil=>intro vs ds ps h;cases vs <;> cases ds <;> simp_all [DataW.TrodAll]
 | cons t ts ih =>
  intro vs ds ps h
  match vs,ds,h with
  | v :: vs,d :: ds,h =>
   obtain⟨p,q,_,h2,_⟩:=h
   simp [ih vs ds q h2]
theorem zok{H:Type}{enc:TypeId × Value→H}{P:Program}{f:Func}{s:ChangeSpec}{W W':World}{args:Array Value}{ds gs:List (DataW H)}{before:List MemPlace}{tb:TypeId}
 (hl:laidOutB P=true) (hr0:(f.params.toList.all fun t=>P.readableRec t && decide (t<P.types.size))=true) (hres:f.resultTypes=#[tb]) (hbool:P.underlying tb=some .bool)
 (hv:s.vars = []) (hs:∀ds:List (DataW H),ds.length=f.params.toList.length→s.fn H ds = { results := [.lit (.bool true)],args:=ds })
 (hW:DataW.Whole enc P f.params.toList s.vars false W args.toList ds gs before) (hb:Below W.heap.size W W'):
 s.post enc P f false true false false W args (.bool true) W':=by
 have hlt:=hW.lt;have hW0:=hW;have hr:∀t∈f.params.toList,P.readableRec t=true∧t<P.types.size:=fun t ht=>by simpa using List.all_eq_true.1 hr0 t ht
 obtain⟨p,q,hA,hV,rfl,hfz,_⟩:=hW;rw [hv] at hV;obtain⟨rfl,rfl⟩:gs = []∧q = []:=by
  cases gs with
  | nil=>exact⟨rfl,hV⟩
  | cons g r=>exact absurd hV (by intro h;cases h)
 have hlen:=zg9 _ _ _ _ hA;have he:s.fn H (ds ++ [])= { results := [.lit (.bool true)],args:=ds }:=by rw [List.append_nil];exact hs ds hlen
 simp only [List.append_nil] at hlt hW0;refine⟨ds,[],p,[],p,[],hW0,?_,?_,?_,hb.frame _,fun h=>by cases h⟩
 ·rw [he,hres];exact trodAll_mk1 (shut_bool hbool true)
 ·rw [he];exact zhm hl hb _ _ _ _ hr hlt hA
 ·rw [he,hv];rfl
theorem zlc{P:Program}{id:Nat}{Q:Exit→Act→World→Prop}{a:Act}{w:World}{l:List Oper}(n:Nat)(hm:P.follows .mixedOrders=true)(hB:Region.lexTailB .any l.toArray n=true)
 (h:wpStill P l.toArray w.drew (fun a'=>wpList P l.toArray Q (l.drop n) a' w.drew) (l.take n) a):(Code.region id l.toArray true).wp P Q a w :=
 wp_region_still_tail n hm hB h
theorem _root_.Go.RowKit.Below.drewN{B:Nat}{a w:World}(h:Below B a w)(n:Nat):Below B a (w.drewN n):=⟨h.os,h.tape,h.output,h.size,h.block⟩
theorem zb{w w':World}(hb:Below w.heap.size w w'){a:Addr}{v:Value}(h:w.cell? a=some v):w'.cell? a=some v :=
 (hb.cell (block_lt_of_cell h)).trans h
theorem toList_inj{a b:ByteArray}(h:a.toList=b.toList):a=b:=by
 rw [ByteArray.toList_eq,ByteArray.toList_eq] at h;cases a;cases b;simp at h;simp [h]
theorem jO{W w1:World}(hb:Below W.heap.size W w1):(∀b o,b<W.heap.size→w1.cell? ⟨b,o,none⟩=W.cell? ⟨b,o,none⟩)∧(∀b o,b<W.heap.size→w1.frozen? ⟨b,o,none⟩=W.frozen? ⟨b,o,none⟩):=
 ⟨fun b o h=>hb.cell (p:=⟨b,o,none⟩) h,fun b o h=>hb.frozen (p:=⟨b,o,none⟩) h⟩
@[simp] theorem size_drewN (w:World) (n:Nat):(w.drewN n).heap.size=w.heap.size:=rfl
theorem zaz(w:World)(l:List Value)(t:TypeId):∀j u,l[j]?=some u→(w.alloc (.cells l.toArray t)).cell? ((⟨w.heap.size,0,none⟩:Addr).add j)=some u:=by
 intro j u h;have e:(⟨w.heap.size,0,none⟩:Addr).add j=⟨w.heap.size,j,none⟩:=by
  unfold Addr.add;split
  ·rename_i h0;subst h0;rfl
  ·simp
 rw [e,World.cell?_alloc_at _ _ _ _ rfl];simpa using h
theorem jB{w:World}{B:Nat}{e:TypeId}{size n:Nat}{v:Value}{xs:List Value}(h:w.ownsRow B e size v n xs):∀g,v.ownBlock=some g→B≤g:=by
 intro g hg;rcases h.2 with ⟨rfl,_⟩|⟨g',cap,cur,rfl,hb,_⟩
 ·simp [Value.ownBlock] at hg
 ·simp [Value.ownBlock] at hg;omega
def jE(n:Int):Value:=if n=0 then .nilIface else .iface 28 (.int .i64 n)
theorem zr:jE 0 = .nilIface:=rfl
theorem zA{n:Int}(h:n≠0):jE n = .iface 28 (.int .i64 n):=if_neg h
theorem za8{a b:Int}(h:a=b):Ending.returned (.int .i64 a)= .returned (.int .i64 b):=by rw [h]
theorem zt{a b:Bool}(h:a=b):Ending.returned (.bool a)= .returned (.bool b):=by rw [h]
theorem zp5{B:Nat}{a b c:World}(h:Hid (Below B a b))(k:Hid (Below b.heap.size b c))(hB:B≤a.heap.size):Hid (Below B a c):=
 Go.Lib.hid (h.out.trans (k.out.mono (Nat.le_trans hB h.out.size)))
theorem bh{a b c:World}(h:Hid (Below a.heap.size a b))(k:Below b.heap.size b c):Hid (Below a.heap.size a c):=
 Go.Lib.hid (h.out.trans (k.mono h.out.size))
theorem zcp{w w':World}(hg:w.grownBy w' none):Below w.heap.size w w':=⟨hg.os,hg.tape,hg.output,hg.size,fun k hk=>hg.block k hk (by simp)⟩
theorem zcc{w:World}{B n:Nat}{e:TypeId}{size:Nat}{v:Value}{xs:List Value}(h:w.ownsRow B e size v n xs):∀g,v.ownBlock=some g→g<w.heap.size:=by
 intro g hg;rcases h.2 with ⟨rfl,_⟩|⟨g',cap,cur,rfl,_,hh,_⟩
 ·simp [Value.ownBlock] at hg
 ·simp [Value.ownBlock] at hg;subst hg;exact(Array.getElem?_eq_some_iff.1 hh).1
theorem za(w:World)(o:Obj):Below w.heap.size w (w.alloc o):=(Below.refl _ _).alloc (Nat.le_refl _) o
theorem zc{w w':World}(h:Below w.heap.size w w')(r:Option Nat):w.grownBy w' r:=⟨h.os,h.tape,h.output,h.size,fun k hk _=>h.block k hk⟩
theorem jt{w w':World}{R B:Nat}(h:w.grownBy w' (some R))(hB:B≤R)(hB2:B≤w.heap.size):Below B w w' :=
 ⟨h.os,h.tape,h.output,h.size,fun k hk=>h.block k (by omega) (by intro e;cases e;omega)⟩
theorem zg(w:World)(p:Addr)(u:Value):w.grownBy (w.setCell p u) (some p.block):=
 ⟨rfl,rfl,rfl,by simp [World.setCell],fun k _ hn=>Below.heap_setCell _ _ _ _ (fun e=>hn (by rw [e]))⟩
theorem zaK{w w':World}{B n:Nat}{e:TypeId}{size:Nat}{v:Value}{xs:List Value}(h:w.ownsRow B e size v n xs)(hb:Below w.heap.size w w'):w'.ownsRow B e size v n xs :=
 h.kept (zc hb none) (by cases hv:v.ownBlock <;> simp)
end Go.Proofs.YtlkfaliomdbaoaaGreatDoor
