/-
  errors.As at the target '*api.Errno': the contracts of plain.Told, and of the ..
-/
import Derived.Stop.Asserts
import Derived.Test.YtokiogmfgpidmaaGreatDoorD27
set_option maxRecDepth 100000
set_option maxHeartbeats 8000000
namespace Go.Proofs.YtokiogmfgpidmaaGreatDoor
open Go.RowKit Go.Extern.Stop Go.Stop Go.Extern
theorem zjn(t:Addr)(w:World):(ReflectliteValue.unpack (.iface 93 (.pointer (some t)))).run Tryz.prog w
 = .ok (.agg #[.pointer (some ⟨2,93,none⟩),.pointer (some ⟨w.heap.size,0,none⟩),.int .u64 150]) (w.alloc (.cells #[.pointer (some t)] 93)):=by kernel_rfl
theorem zpi(a:Addr)(w:World):(ReflectliteValue.methodAny (ReflectliteValue.valueError "reflectlite.Value.Type" 0) (λt _ _ _=>ReflectliteType.toType t) #[.agg #[.pointer (some ⟨2,93,none⟩),.pointer (some a),.int .u64 150]]).run Tryz.prog w
 = .ok (.iface 183 (.agg #[.pointer (some ⟨2,93,none⟩)])) w:=by kernel_rfl
theorem zcN(h:Value)(w:World):(Go.method 488 183 (.agg #[h]) "Kind").run Tryz.prog w = .ok (264,h) w:=by kernel_rfl
theorem zpb(w:World):((ReflectliteType.abiMethod λt=>(λa:Nat=>Value.int IntKind.u8 (a:Int))<$> Rtype.kind t) #[.pointer (some ⟨2,93,none⟩)]).run Tryz.prog w = .ok (.int .u8 22) w:=by kernel_rfl
theorem zpy(w:World):((ReflectliteType.abiMethod λt=>(λa:Nat=>Value.int IntKind.u8 (a:Int))<$> Rtype.kind t) #[.pointer (some ⟨2,41,none⟩)]).run Tryz.prog w = .ok (.int .u8 2) w:=by kernel_rfl
theorem rlm(z:Sem Value)(f:TypeId->Addr->Nat->Nat->Sem Value)(v:Value):
 ReflectliteValue.method z f #[v]=(do match <-ReflectliteValue.parts v with|none=>z|some (t,a,fl)=>f t a fl (fl % 32)):=rfl
theorem zjc(a:Addr)(w:World):(ReflectliteValue.parts (.agg #[.pointer (some ⟨2,93,none⟩),.pointer (some a),.int .u64 150])).run Tryz.prog w = .ok (some (93,a,150)) w:=by kernel_rfl
theorem zni(a p:Addr)(W:World)(ha:W.cell? a=some (.pointer (some p))):
 (ReflectliteValue.method (ReflectliteValue.valueError "reflectlite.Value.IsNil" 0) ReflectliteValue.isNil #[.agg #[.pointer (some ⟨2,93,none⟩),.pointer (some a),.int .u64 150]]).run Tryz.prog W = .ok (.bool false) W:=by
 rw [rlm];simp only [Sem.run_bind,zjc,Result.andThen];simp [ReflectliteValue.isNil,loadVar,isAgg,underlying,Tryz.underlying93,ha,Result.andThen]
theorem zdw(h:Value)(w:World):(Go.method 488 183 (.agg #[h]) "Elem").run Tryz.prog w = .ok (274,.agg #[h]) w:=by kernel_rfl
theorem Rt(h:Value)(w:World):(Go.method 488 183 (.agg #[h]) "Implements").run Tryz.prog w = .ok (275,.agg #[h]) w:=by kernel_rfl
theorem O9(h:Value)(w:World):(Go.method 488 183 (.agg #[h]) "AssignableTo").run Tryz.prog w = .ok (272,.agg #[h]) w:=by kernel_rfl
theorem zpx(w:World):(ReflectliteType.method ReflectliteType.elem #[.agg #[.pointer (some ⟨2,93,none⟩)]]).run Tryz.prog w = .ok (.iface 183 (.agg #[.pointer (some ⟨2,41,none⟩)])) w:=by kernel_rfl
theorem zbx(w:World):(ReflectliteType.relation "Implements" ReflectliteType.implements_ #[.agg #[.pointer (some ⟨2,41,none⟩)],.iface 183 (.agg #[.pointer (some ⟨2,24,none⟩)])]).run Tryz.prog w = .ok (.bool true) w:=by kernel_rfl
theorem zlT(v:Value)(w:World):(ReflectliteType.typeOf #[.iface 41 v]).run Tryz.prog w = .ok (.iface 183 (.agg #[.pointer (some ⟨2,41,none⟩)])) w:=by kernel_rfl
theorem zaO(w:World):(ReflectliteType.relation "AssignableTo" ReflectliteType.assignableTo #[.agg #[.pointer (some ⟨2,41,none⟩)],.iface 183 (.agg #[.pointer (some ⟨2,41,none⟩)])]).run Tryz.prog w = .ok (.bool true) w:=by kernel_rfl
theorem zi4(n:Int)(w:World):(ReflectliteValue.unpack (.iface 41 (.int .i64 n))).run Tryz.prog w
 = .ok (.agg #[.pointer (some ⟨2,41,none⟩),.pointer (some ⟨w.heap.size,0,none⟩),.int .u64 130]) (w.alloc (.cells #[.int .i64 n] 41)):=by kernel_rfl
theorem zk0(w:World):(Rtype.elem? 93).run Tryz.prog w = .ok (some 41) w:=by kernel_rfl
theorem mkE(p:Addr)(w:World):(ReflectliteValue.mk 41 p ReflectliteValue.flagAddr).run Tryz.prog w = .ok (.agg #[.pointer (some ⟨2,41,none⟩),.pointer (some p),.int .u64 386]) w:=by kernel_rfl
theorem znU(a p:Addr)(W:World)(ha:W.cell? a=some (.pointer (some p))):
 (ReflectliteValue.method (ReflectliteValue.valueError "reflectlite.Value.Elem" 0) ReflectliteValue.elem #[.agg #[.pointer (some ⟨2,93,none⟩),.pointer (some a),.int .u64 150]]).run Tryz.prog W
  = .ok (.agg #[.pointer (some ⟨2,41,none⟩),.pointer (some p),.int .u64 386]) W:=by
 rw [rlm];simp only [Sem.run_bind,zjc,Result.andThen];simp [ReflectliteValue.elem,loadVar,isAgg,underlying,Tryz.underlying93,ha,Result.andThen,zk0,mkE]
theorem rls(v x:Value):ReflectliteValue.set #[v,x]=(do
 let (some (dst,a,fl),some (src,b,_)):=(<-ReflectliteValue.parts v,<-ReflectliteValue.parts x)
  | unsupported (.noEntry "extern/(internal/reflectlite.Value).Set.zeroValue")
 if fl / ReflectliteValue.flagAddr % 2==0 then unsupported (.noEntry "extern/(internal/reflectlite.Value).Set.unaddressable")
 let val <-loadVar src b
 if <-Rtype.directlyAssignable dst src then storeVar dst a val
 else if <-Rtype.implements dst src then
  if(<-Rtype.kind src)==20 then
   match val with
   | .nilIface=>unsupported (.noEntry "extern/reflectlite: a nil value of one interface type handed on as a value of another")
   | _=>storeVar dst a val
  else storeVar dst a (.iface src val)
 else panicString ("reflectlite.Set: value of type " ++(<-Rtype.spelt src)++ " is not assignable to type " ++(<-Rtype.spelt dst))
 pure (.tuple #[])):=rfl
theorem zlR(a:Addr)(w:World):(ReflectliteValue.parts (.agg #[.pointer (some ⟨2,41,none⟩),.pointer (some a),.int .u64 386])).run Tryz.prog w = .ok (some (41,a,386)) w:=by kernel_rfl
theorem znb(a:Addr)(w:World):(ReflectliteValue.parts (.agg #[.pointer (some ⟨2,41,none⟩),.pointer (some a),.int .u64 130])).run Tryz.prog w = .ok (some (41,a,130)) w:=by kernel_rfl
theorem zls(w:World):(Rtype.directlyAssignable 41 41).run Tryz.prog w = .ok true w:=by kernel_rfl
theorem zm6(ta b:Addr)(n:Int)(old:Value)(W:World)(hb:W.cell? b=some (.int .i64 n))(ht:W.cell? ta=some old)(hf:W.frozen? ta=false):
 (ReflectliteValue.set #[.agg #[.pointer (some ⟨2,41,none⟩),.pointer (some ta),.int .u64 386],.agg #[.pointer (some ⟨2,41,none⟩),.pointer (some b),.int .u64 130]]).run Tryz.prog W
  = .ok (.tuple #[]) (W.setCell ta (.int .i64 n)):=by
 rw [rls];simp only [Sem.run_bind,zlR,znb,Result.andThen];simp [ReflectliteValue.flagAddr,loadVar,isAgg,underlying,Tryz.underlying41,hb,Result.andThen,zls,storeVar,Value.cells,storeCells,Addr.add];rw [run_store Tryz.prog W ta _ _ (by rfl)];simp [ht,hf]
theorem zee(n:Int)(t:Addr)(old:Value)(w:World)(hg:w.cell? ⟨0,0,none⟩=some (.iface 183 (.agg #[.pointer (some ⟨2,24,none⟩)])))(ht0:w.cell? t=some old)(hf0:w.frozen? t=false):
 Calls Tryz.prog 48 #[.iface 41 (.int .i64 n),.iface 93 (.pointer (some t))] w λev w'=>ev = .returned (.bool true)/\w'=(((((w.alloc (.cells #[.pointer (some t)] 93)).alloc (.cells #[.pointer (some ⟨2,93,none⟩),.pointer (some ⟨w.heap.size,0,none⟩),.int .u64 150] 137)).alloc (.cells #[.pointer (some ⟨2,93,none⟩),.pointer (some ⟨w.heap.size,0,none⟩),.int .u64 150] 137)).alloc (.cells #[.int .i64 n] 41)).setCell t (.int .i64 n)):=by
 have h6:=@run_callFunc_extern Tryz.prog 85 _ (λargs=>ReflectliteValue.unpack (args.getD 0 (.tuple #[]))) Tryz.func85 (by kernel_rfl) (by kernel_rfl) (by kernel_rfl) (by kernel_rfl);have h7:=@run_callFunc_extern Tryz.prog 86 _ (ReflectliteValue.methodAny (ReflectliteValue.valueError "reflectlite.Value.Type" 0) (λt _ _ _=>ReflectliteType.toType t)) Tryz.func86 (by kernel_rfl) (by kernel_rfl) (by kernel_rfl) (by kernel_rfl)
 have h8:=@run_callFunc_extern Tryz.prog 87 _ (ReflectliteValue.method (ReflectliteValue.valueError "reflectlite.Value.IsNil" 0) ReflectliteValue.isNil) Tryz.func87 (by kernel_rfl) (by kernel_rfl) (by kernel_rfl) (by kernel_rfl)
 have h27:=@run_callFunc_extern Tryz.prog 264 _ (ReflectliteType.abiMethod λt=>do pure (.int .u8 (<-Rtype.kind t))) Tryz.func264 (by kernel_rfl) (by kernel_rfl) (by kernel_rfl) (by kernel_rfl);have h37:=@run_callFunc_extern Tryz.prog 274 _ (ReflectliteType.method ReflectliteType.elem) Tryz.func274 (by kernel_rfl) (by kernel_rfl) (by kernel_rfl) (by kernel_rfl);have h38:=@run_callFunc_extern Tryz.prog 275 _ (ReflectliteType.relation "Implements" ReflectliteType.implements_) Tryz.func275 (by kernel_rfl) (by kernel_rfl) (by kernel_rfl) (by kernel_rfl)
 have h10:=@run_callFunc_extern Tryz.prog 127 _ (ReflectliteType.typeOf) Tryz.func127 (by kernel_rfl) (by kernel_rfl) (by kernel_rfl) (by kernel_rfl);have h35:=@run_callFunc_extern Tryz.prog 272 _ (ReflectliteType.relation "AssignableTo" ReflectliteType.assignableTo) Tryz.func272 (by kernel_rfl) (by kernel_rfl) (by kernel_rfl) (by kernel_rfl)
 have h11:=@run_callFunc_extern Tryz.prog 128 _ (ReflectliteValue.method (ReflectliteValue.valueError "reflectlite.Value.Elem" 0) ReflectliteValue.elem) Tryz.func128 (by kernel_rfl) (by kernel_rfl) (by kernel_rfl) (by kernel_rfl)
 have h12:=@run_callFunc_extern Tryz.prog 129 _ (ReflectliteValue.set) Tryz.func129 (by kernel_rfl) (by kernel_rfl) (by kernel_rfl) (by kernel_rfl);have tO:=zlT;have mA:=O9;have a25:=zaO;have v25:=zi4;have f6:=zjn;have f7:=zpi;have mK:=zcN;have mE:=zdw;have mI:=Rt;have k27:=zpb;have k25:=zpy;have e27:=zpx;have i25:=zbx;have n8:=zni ⟨w.heap.size,0,none⟩ t ((w.alloc (.cells #[.pointer (some t)] 93)).alloc (.cells #[.pointer (some ⟨2,93,none⟩),.pointer (some ⟨w.heap.size,0,none⟩),.int .u64 150] 137)) (by simp);have hlt:0<w.heap.size:=by
  rcases Nat.eq_zero_or_pos w.heap.size with h0|h
  ·simp [World.cell?,h0] at hg
  ·exact h
 have hg2:((w.alloc (.cells #[.pointer (some t)] 93)).alloc (.cells #[.pointer (some ⟨2,93,none⟩),.pointer (some ⟨w.heap.size,0,none⟩),.int .u64 150] 137)).cell? ⟨0,0,none⟩=some (.iface 183 (.agg #[.pointer (some ⟨2,24,none⟩)])):=by
  rw [World.cell?_alloc_lt _ _ ⟨0,0,none⟩ (by simp),World.cell?_alloc_lt _ _ ⟨0,0,none⟩ hlt];exact hg
 have htl:t.block<w.heap.size:=by
  rcases Nat.lt_or_ge t.block w.heap.size with h|h
  ·exact h
  ·simp [World.cell?,Array.getElem?_eq_none h] at ht0
 have el:=znU ⟨w.heap.size,0,none⟩ t (((w.alloc (.cells #[.pointer (some t)] 93)).alloc (.cells #[.pointer (some ⟨2,93,none⟩),.pointer (some ⟨w.heap.size,0,none⟩),.int .u64 150] 137)).alloc (.cells #[.pointer (some ⟨2,93,none⟩),.pointer (some ⟨w.heap.size,0,none⟩),.int .u64 150] 137)) (by rw [World.cell?_alloc_lt _ _ ⟨w.heap.size,0,none⟩ (by simp;omega)];simp);have st:=zm6 t ⟨w.heap.size+1+1+1,0,none⟩ n old ((((w.alloc (.cells #[.pointer (some t)] 93)).alloc (.cells #[.pointer (some ⟨2,93,none⟩),.pointer (some ⟨w.heap.size,0,none⟩),.int .u64 150] 137)).alloc (.cells #[.pointer (some ⟨2,93,none⟩),.pointer (some ⟨w.heap.size,0,none⟩),.int .u64 150] 137)).alloc (.cells #[.int .i64 n] 41))
  (by rw [World.cell?_alloc_at _ _ _ _ (by simp)];rfl)
  (by rw [World.cell?_alloc_lt _ _ t (by simp;omega),World.cell?_alloc_lt _ _ t (by simp;omega),World.cell?_alloc_lt _ _ t (by simp;omega),World.cell?_alloc_lt _ _ t htl];exact ht0)
  (by rw [World.frozen?_alloc_old _ _ t (by simp;omega),World.frozen?_alloc_old _ _ t (by simp;omega),World.frozen?_alloc_old _ _ t (by simp;omega),World.frozen?_alloc_old _ _ t (Nat.ne_of_lt htl)];exact hf0)
 go_enter Tryz.func48,Tryz.ntmps48;go_wp2;refine wp_loop_rounds 1 ?_;rw [rounds_succ];go_wp2;go_ret;exact⟨rfl,rfl⟩
end Go.Proofs.YtokiogmfgpidmaaGreatDoor
namespace Go.Proofs.YtokiogmfgpidmaaGreatDoor
open Go.RowKit
def CQ(w:World):Prop:=w.cell? ⟨0,0,none⟩=some (.iface 183 (.agg #[.pointer (some ⟨2,24,none⟩)]))
theorem CQ.keep{w w':World}(h:CQ w)(hb:Below w.heap.size w w'):CQ w':=za hb h
theorem CQ.pos{w:World}(h:CQ w):0<w.heap.size:=block_lt_of_cell h
theorem CQ.alloc{w:World}(h:CQ w)(o:Obj):CQ (w.alloc o):=h.keep ((Below.refl _ _).alloc (Nat.le_refl _) _)
theorem CQ.drewN{w:World}(h:CQ w)(n:Nat):CQ (w.drewN n):=h
theorem CQ.drew{w:World}(h:CQ w):CQ w.drew:=h
end Go.Proofs.YtokiogmfgpidmaaGreatDoor
namespace Go.Proofs.YtokiogmfgpidmaaGreatDoor
open Go.RowKit Go.Wk Go.Sort
def P8(w:World)(B:Nat->Prop)(x:Ex)(e:Ending)(w':World):Prop :=
 ∃(o n:Int) (s t:ByteArray) (A:Option Addr) (m c:Nat) (b:Bool),e = .returned (.tuple #[.agg #[.int .i64 o,.int .i64 n,.string s,.string t,.slice A m c],.bool b])/\
  (b=true->∃y,jJ [] false x=some y/\PAt w' (λb=>B b\/w.heap.size<=b) y [.int .i64 o,.int .i64 n,.string s,.string t,.slice A m c])/\(b=false->jJ [] false x=none)/\Below w.heap.size w w'
def zjk:Prop:=∀(x:Ex) (f:Bool),x.valid f->x.flat.length<=200->∀(u:List Value) (w:World) (B:Nat->Prop),(∀b,B b->b<w.heap.size)->PAt w B x u->CQ w->
 Calls Tryz.prog 35 #[.agg #[.slice none 0 0,.bool false],.agg u.toArray] w (P8 w B x)
def zeP(w:World)(B:Nat->Prop)(x:Ex)(e:Ending)(w':World):Prop :=
 ∃(o n:Int) (s t:ByteArray) (A:Option Addr) (m c:Nat),e = .returned (.agg #[.int .i64 o,.int .i64 n,.string s,.string t,.slice A m c])/\
  PAt w' (λb=>B b\/w.heap.size<=b) x [.int .i64 o,.int .i64 n,.string s,.string t,.slice A m c]/\Below w.heap.size w w'
def zmF(N:Nat):Prop:=∀(x:Ex) (f:Bool),x.flat.length<=N->x.flat.length<=200->x.valid f->∀(u:List Value) (w:World) (B:Nat->Prop),(∀b,B b->b<w.heap.size)->PAt w B x u->CQ w->
 Calls Tryz.prog 17 #[.agg #[.slice none 0 0,.bool false],.agg u.toArray] w (zeP w B (jV [] false x))
structure BLp(w wr:World)(B:Nat->Prop)(nd:Nd)(sl:Value)(E:List Pe)(pv:Value):Prop where
 X0:wr.cell? ⟨w.heap.size,0,none⟩=some (.slice none 0 0)
 X1:wr.cell? ⟨w.heap.size,1,none⟩=some (.bool false)
 R4:Bx5 wr (w.heap.size+2) (.int .i64 0) (.int .i64 0) (.string ⟨#[]⟩) (.string ⟨#[]⟩) (.slice none 0 0)
 Q5:Bx5 wr (w.heap.size+3) (.int .i64 nd.op) (.int .i64 nd.n) (.string nd.s) (.string nd.t) pv
 R:Kt wr (w.heap.size+4) (λb=>B b\/w.heap.size+4<=b) pv E
 G:Below w.heap.size w wr
 z:w.heap.size+4<=wr.heap.size
theorem BLp.keep{w wr w':World}{B:Nat->Prop}{nd:Nd}{sl:Value}{E:List Pe}{pv:Value}(h:BLp w wr B nd sl E pv)(hb:Below wr.heap.size wr w'):BLp w w' B nd sl E pv :=
 ⟨za hb h.X0,za hb h.X1,h.R4.keep hb,h.Q5.keep hb,h.R.keepN (zA hb none),h.G.trans (hb.mono h.G.size),Nat.le_trans h.z hb.size⟩
theorem BLp.next{w w6 w7:World}{B:Nat->Prop}{nd:Nd}{sl:Value}{E:List Pe}{v v':Value}{z:Pe}(h:BLp w w6 B nd sl E v)(hB:∀b,B b->b<w.heap.size)(hrow:Kt w7 (w.heap.size+4) (λb=>B b\/w.heap.size+4<=b) v' (E ++ [z]))(hg:w6.grownBy w7 v.ownBlock):
 Bx5 w7 (w.heap.size+3) (.int .i64 nd.op) (.int .i64 nd.n) (.string nd.s) (.string nd.t) v/\BLp w (w7.setCell ⟨w.heap.size+3,4,none⟩ v') B nd sl (E ++ [z]) v':=by
 have hv:∀k,v.ownBlock=some k->w.heap.size+4<=k:=λk hk=>(h.R.own.lt k hk).1;have hn:∀b,b<w.heap.size+4->some b≠v.ownBlock:=λb hb e=>by have:=hv b e.symm;omega
 have gs:w7.grownBy (w7.setCell ⟨w.heap.size+3,4,none⟩ v') (some (w.heap.size+3)):=zr w7 ⟨w.heap.size+3,4,none⟩ v';have K7:=h.Q5.but hg (hn _ (by omega));have G7:Below w.heap.size w w7:=by
  refine h.G.trans ?_;rcases hv2:v.ownBlock with _|k
  ·rw [hv2] at hg;exact⟨hg.os,hg.tape,hg.output,hg.size,λi hi=>hg.block i (Nat.lt_of_lt_of_le hi h.G.size) (λe=>nomatch e)⟩
  ·rw [hv2] at hg;exact j7 hg (by have:=hv k hv2;omega) h.G.size
 have ne0:some w.heap.size≠some (w.heap.size+3):=λe=>by injection e with e;omega
 refine⟨K7,gs.cell (hg.cell h.X0 (hn w.heap.size (by omega))) ne0,gs.cell (hg.cell h.X1 (hn w.heap.size (by omega))) ne0,(h.R4.but hg (hn _ (by omega))).but gs (λe=>by injection e with e;omega),K7.set4 v',?_,?_,?_⟩
 ·refine hrow.keep gs (by omega) λhd=>?_;have hd':B (w.heap.size+3)\/w.heap.size+4<=w.heap.size+3:=hd;rcases hd' with hd|hd
  ·have:=hB _ hd;omega
  ·omega
 ·exact G7.trans (j7 gs (by omega) G7.size)
 ·have:=Nat.le_trans h.z hg.size;simpa [World.setCell] using this
theorem Uv:∀ps:Exs,exL (zZ [] false ps)=(exL ps).map (jV [] false)
 | .nil=>by rw [zZ];rfl
 | .cons x r=>by rw [zZ,exL,exL,List.map_cons,Uv r]
theorem Xs{m:Nat}{y:Ex}(h:ju y=none):eO m y=y:=by
 cases m with
 | zero=>rfl
 | succ m=>rw [eO,h]
theorem zaM{p:Nat->Prop}:∀n,p n->∃n,p n/\∀m,p m->n<=m:=λn=>by
 induction n using Nat.strongRecOn with
 | _ n ih =>
  intro h
  by_cases hm:∃m,m<n/\p m
  ·obtain⟨m,h1,h2⟩:=hm
   exact ih m h1 h2
  ·exact⟨n,h,λm h2=>Nat.le_of_not_lt λh1=>hm ⟨m,h1,h2⟩⟩
open Classical in
noncomputable def QY(p:Nat->Prop):Nat:=if h:∃n,p n/\∀m,p m->n<=m then Classical.choose h else 0
theorem UB{p:Nat->Prop}{n:Nat}(h:p n):p (QY p)/\∀m,p m->QY p<=m:=by
 unfold QY;rw [dif_pos (zaM n h)];exact Classical.choose_spec (zaM n h)
theorem Xh{k:Nat}:∀ {m:Nat} {y:Ex},ju (eO m y)=none->eO (m+k) y=eO m y
 | 0,y,h=>Xs (y:=y) h
 | m+1,y,h=>by
  rw [show m+1+k=m+k+1 by omega,eO,eO]
  cases hz:ju y with
  | none=>rfl
  | some z =>
   rw [eO,hz] at h
   exact Xh h
theorem zne{n:Nd}(h:jC true n=true):n.op=7:=by
 unfold jC at h;simp at h;exact h.2
theorem zlD{y:Ex}(hv:y.valid true):ju y=none:=by
 obtain⟨n,ps⟩:=y;rw [Ex.valid] at hv;have h7:=zne hv.1;exact zaz (by omega) (by omega) (by omega) (by omega)
theorem zgj{f:Bool}{y z:Ex}(hv:y.valid f)(h:ju y=some z):z.valid f/\z.flat.length<y.flat.length/\eO y.flat.length y=eO z.flat.length z:=by
 cases f with
 | true=>rw [zlD hv] at h;cases h
 | false =>
  obtain⟨-,h1,h2⟩:=zdt vS hv h
  refine⟨h1,h2,?_⟩
  obtain⟨k,hk⟩:∃k,y.flat.length=z.flat.length+k+1:=⟨y.flat.length-z.flat.length-1,by omega⟩
  rw [hk,eO,h]
  exact Xh (Ro vS _ h1 (Nat.le_refl _))
theorem zjs{nd:Nd}{ps:Exs}{f:Bool}(hv:(Ex.node nd ps).valid f)(hl:(Ex.node nd ps).flat.length<=200):(Ex.node nd (zZ [] false ps)).valid f/\(Ex.node nd (zZ [] false ps)).flat.length<=200:=by
 rw [Ex.valid] at hv;have hlen:=Q0 vS (E := []) ps _ _ hv.2.2;rw [Ex.flat,List.length_cons] at hl;refine⟨?_,by rw [Ex.flat,List.length_cons];omega⟩;rw [Ex.valid];have hle:(zZ [] false ps).len=ps.len:=by rw [<-J',<-J',Uv,List.length_map]
 refine⟨hv.1,by rw [hle];exact hv.2.1,?_⟩
 cases hr:zB nd with
 | true =>
  rw [hr] at hv
  exact(Vt (knows:=false) (E := []) vS (λh=>absurd h (by decide)) ps _ hv.2.2).2.1
 | false =>
  rw [hr] at hv
  exact(Re (knows:=false) (E := []) vS (λh=>absurd h (by decide)) ps _ hv.2.2).2.1
structure GJ(w w':World)(B:Nat->Prop)(f:Bool)(X y:Ex):Prop where
 X0:w'.cell? ⟨w.heap.size,0,none⟩=some (.slice none 0 0)
 X1:w'.cell? ⟨w.heap.size,1,none⟩=some (.bool false)
 R4:Bx5 w' (w.heap.size+2) (.int .i64 0) (.int .i64 0) (.string ⟨#[]⟩) (.string ⟨#[]⟩) (.slice none 0 0)
 Q:∃(o n:Int) (s t:ByteArray) (A:Option Addr) (m c:Nat),Bx5 w' (w.heap.size+3) (.int .i64 o) (.int .i64 n) (.string s) (.string t) (.slice A m c)/\PAt w' (λb=>B b\/w.heap.size+4<=b) y [.int .i64 o,.int .i64 n,.string s,.string t,.slice A m c]
 v:y.valid f
 l:eO y.flat.length y=eO X.flat.length X
 h:y.flat.length<=200
 G:Below w.heap.size w w'
 z:w.heap.size+4<=w'.heap.size
theorem zfB(hw:zjk)(N:Nat)(ih:zmF N)(nd:Nd)(ps:Exs)(f:Bool)(A:Option Addr)(c:Nat)(w:World)(B:Nat->Prop)(hN:ps.flat.length<=N)(hM:(Ex.node nd ps).flat.length<=200)(hv:(Ex.node nd ps).valid f)(hB:∀b,B b->b<w.heap.size)(hno:Kb nd)(hc:ps.len<=c)(hp:lV w B A 0 ps)(hd:CQ w):
 Calls Tryz.prog 17 #[.agg #[.slice none 0 0,.bool false],.agg #[.int .i64 nd.op,.int .i64 nd.n,.string nd.s,.string nd.t,.slice A ps.len c]] w (zeP w B (jV [] false (.node nd ps))):=by
 have HW:=O hw;have IH:=O ih;have QK:=O hB;have HK:=O hp;have HD:=O hd;have HNO:=O hno;have HV:=O hv;have HM2:=O hM;have HNN:=O hN;have HPV:=O (show∀y∈exL ps,y.valid (zB nd) from Kl (by rw [Ex.valid] at hv;exact hv.2.2));have hps:ps.flat.length<=200:=by rw [Ex.flat,List.length_cons] at hM;omega
 have ZJ:=O hps;have hml:ps.len<=200:=Nat.le_trans (gY ps) hps;obtain⟨m,hm⟩:∃m,m=ps.len:=⟨_,rfl⟩
 have HM:=O (hm.trans (J' ps).symm);rw [<-hm] at hml hc ⊢;obtain⟨XX,hXX⟩:∃XX,XX=jV [] false (.node nd ps):=⟨_,rfl⟩
 rw [<-hXX];have HXX:=O hXX;have LP:=O (show BLp w ((((w.alloc (.cells #[.slice none 0 0,.bool false] 53)).alloc (.cells #[.int .i64 nd.op,.int .i64 nd.n,.string nd.s,.string nd.t,.slice A m c] 49)).alloc (.cells #[.int .i64 0,.int .i64 0,.string ⟨#[]⟩,.string ⟨#[]⟩,.slice none 0 0] 49)).alloc (.cells #[.int .i64 nd.op,.int .i64 nd.n,.string nd.s,.string nd.t,.slice none 0 0] 49)) B nd (.slice A m c) [] (.slice none 0 0) from by
  have b0:=zb w (.cells #[.slice none 0 0,.bool false] 53)
  have b1:=zb (w.alloc (.cells #[.slice none 0 0,.bool false] 53)) (.cells #[.int .i64 nd.op,.int .i64 nd.n,.string nd.s,.string nd.t,.slice A m c] 49)
  have b2:=zb ((w.alloc (.cells #[.slice none 0 0,.bool false] 53)).alloc (.cells #[.int .i64 nd.op,.int .i64 nd.n,.string nd.s,.string nd.t,.slice A m c] 49)) (.cells #[.int .i64 0,.int .i64 0,.string ⟨#[]⟩,.string ⟨#[]⟩,.slice none 0 0] 49)
  have b3:=zb (((w.alloc (.cells #[.slice none 0 0,.bool false] 53)).alloc (.cells #[.int .i64 nd.op,.int .i64 nd.n,.string nd.s,.string nd.t,.slice A m c] 49)).alloc (.cells #[.int .i64 0,.int .i64 0,.string ⟨#[]⟩,.string ⟨#[]⟩,.slice none 0 0] 49)) (.cells #[.int .i64 nd.op,.int .i64 nd.n,.string nd.s,.string nd.t,.slice none 0 0] 49)
  have x2:=jR ((w.alloc (.cells #[.slice none 0 0,.bool false] 53)).alloc (.cells #[.int .i64 nd.op,.int .i64 nd.n,.string nd.s,.string nd.t,.slice A m c] 49)) (.int .i64 0) (.int .i64 0) (.string ⟨#[]⟩) (.string ⟨#[]⟩) (.slice none 0 0) 49
  have x3:=jR (((w.alloc (.cells #[.slice none 0 0,.bool false] 53)).alloc (.cells #[.int .i64 nd.op,.int .i64 nd.n,.string nd.s,.string nd.t,.slice A m c] 49)).alloc (.cells #[.int .i64 0,.int .i64 0,.string ⟨#[]⟩,.string ⟨#[]⟩,.slice none 0 0] 49)) (.int .i64 nd.op) (.int .i64 nd.n) (.string nd.s) (.string nd.t) (.slice none 0 0) 49
  rw [show((w.alloc (.cells #[.slice none 0 0,.bool false] 53)).alloc (.cells #[.int .i64 nd.op,.int .i64 nd.n,.string nd.s,.string nd.t,.slice A m c] 49)).heap.size=w.heap.size+2 by simp] at x2
  rw [show(((w.alloc (.cells #[.slice none 0 0,.bool false] 53)).alloc (.cells #[.int .i64 nd.op,.int .i64 nd.n,.string nd.s,.string nd.t,.slice A m c] 49)).alloc (.cells #[.int .i64 0,.int .i64 0,.string ⟨#[]⟩,.string ⟨#[]⟩,.slice none 0 0] 49)).heap.size=w.heap.size+3 by simp] at x3
  have bb:=b1.trans ((b2.trans (b3.mono b2.size)).mono b1.size)
  exact⟨za bb (E3 w _ _ 0 rfl),za bb (E3 w _ _ 1 rfl),x2.keep b3,x3,Kt.nil _ _ _,b0.trans (bb.mono b0.size),by simp⟩)
 clear hw ih hB hp hd hno hv hM hN hm hXX hps;have HVB:=O (show(Ex.node nd (zZ [] false ps)).valid f/\(Ex.node nd (zZ [] false ps)).flat.length<=200 from zjs HV.o HM2.o);go_enter Tryz.func17,Tryz.ntmps17;go_wp2_with fail;refine wp_scope_jumps 0 (λa' w'=>(∃(u6 u7 u8 u9 u10 u11 u12 u13 u14 u15 u16 u17 u18 u19 u20 u21 u22 u23 u24 u25 u26 u27 u28 u29 u30 u31 u32 u33 u34 u35 u36 u37 u38 u39 u40 u41 u42 u43 u44 u45 u46:Value),a' = { tmps:=#[.agg #[.slice none 0 0,.bool false],.agg #[.int .i64 nd.op,.int .i64 nd.n,.string nd.s,.string nd.t,.slice A m c],.pointer (some ⟨w.heap.size,0,none⟩),.pointer (some ⟨w.heap.size+1,0,none⟩),.pointer (some ⟨w.heap.size+2,0,none⟩),.pointer (some ⟨w.heap.size+3,0,none⟩),u6,u7,u8,u9,u10,u11,u12,u13,u14,u15,u16,u17,u18,u19,u20,u21,u22,u23,u24,u25,u26,u27,u28,u29,u30,u31,u32,u33,u34,u35,u36,u37,u38,u39,u40,u41,u42,u43,u44,u45,u46],defers := [] })/\∃y,GJ w w' B f (.node nd (zZ [] false ps)) y) (λ_ w'=>QY λn=>∃y,GJ w w' B f (.node nd (zZ [] false ps)) y/\y.flat.length=n) rfl ?first ?pass
 case' first =>
  go_wp2_with fail;go_loopw [18] (λi wr=>∃(k:Nat) (E:List Pe) (pv:Value),i = .int .i64 k/\k<=m/\Hid (E.map Pe.x=((exL ps).take k).map (jV [] false))/\Hid (BLp w wr B nd (.slice A m c) E pv)) (λi _=>m-(intOf i).toNat)
  case atStart=>exact⟨0,[],_,rfl,Nat.zero_le _,O rfl,LP⟩
  case' round =>
   clear LP;obtain⟨k,E,pv,rfl,hkm,hE,hL⟩:=hrel;by_cases hlt:k<m
   case pos =>
    have VG:k<(exL ps).length:=by rw [<-HM.o];exact hlt
    obtain⟨a,u,rfl,hBa,hr,hx⟩:=lV.at ps A 0 HK.o k _ (List.getElem?_eq_getElem VG);rw [Nat.zero_add] at hr;have HYM:=O (List.getElem_mem VG);have Lc:=O (show∀z:Pe,z.x=jV [] false (exL ps)[k]->(E ++ [z]).map Pe.x=((exL ps).take (k+1)).map (jV [] false) from λz hz=>by
     rw [List.take_succ_eq_append_getElem VG,List.map_append,List.map_append,hE.o]
     simp [hz])
    have HEL:=O (show E.length<=1000000 by
     have:=congrArg List.length hE.o
     simp at this
     omega)
    obtain⟨y,hy⟩:∃y,y=(exL ps)[k]:=⟨_,rfl⟩
    rw [<-hy] at hx HYM Lc;clear hy;obtain⟨o,n',s,t,A',m',c',rfl,q0,q1,q2,q3,q4⟩:=PAt.cells hr hx;obtain⟨A7,cp7,hpv,-,-,-⟩:=hL.o.R.pts (λb hb => .inr hb);obtain⟨ml,zcj⟩:∃ml,ml=E.length:=⟨_,rfl⟩
    rw [<-zcj] at hpv;subst hpv;have p0:=za hL.o.G q0;have p1:=za hL.o.G q1;have p2:=za hL.o.G q2;have p3:=za hL.o.G q3;have p4:=za hL.o.G q4;have bx:=zb wr (.cells #[.int .i64 o,.int .i64 n',.string s,.string t,.slice A' m' c'] 49);have bxd:=bx.trans ((Gt _).mono bx.size);have LD:=O (hL.o.keep bxd);have RD:=O ((jR wr (.int .i64 o) (.int .i64 n') (.string s) (.string t) (.slice A' m' c') 49).keep (Gt _));have HSD:=O (show wr.heap.size+1<=(wr.alloc (.cells #[.int .i64 o,.int .i64 n',.string s,.string t,.slice A' m' c'] 49)).drew.heap.size by simp);have HX:=O hx;have hl4:=hL.o.z;have HL4:=O hl4;have HOW:=O (λg hg=>(hL.o.R.own.lt g hg));clear q0 q1 q2 q3 q4 hr hx hBa bx bxd zcj;obtain⟨x0,x1,-,kq,-,-,-⟩:=LD.o;have kq4:=kq.c4;obtain⟨r0,r1,r2,r3,r4,-,-,-,-,-⟩:=RD.o;clear kq;go_wp2_with fail;refine wp_region_noPanic ?_;refine Gw (λ(w':World)=>w'.cell? ⟨w.heap.size,0,none⟩=some (.slice none 0 0)/\w'.cell? ⟨w.heap.size,1,none⟩=some (.bool false)/\w'.cell? ⟨w.heap.size+3,4,none⟩=some (.slice A7 ml cp7)/\w'.cell? ⟨wr.heap.size,0,none⟩=some (.int .i64 o)/\w'.cell? ⟨wr.heap.size,1,none⟩=some (.int .i64 n')/\w'.cell? ⟨wr.heap.size,2,none⟩=some (.string s)/\w'.cell? ⟨wr.heap.size,3,none⟩=some (.string t)/\w'.cell? ⟨wr.heap.size,4,none⟩=some (Value.slice A' m' c')) 8 (by kernel_rfl) ⟨x0,x1,kq4,r0,r1,r2,r3,r4⟩ (λhHeld=>?_);obtain⟨wd,hwd⟩:∃wd,(wr.alloc (.cells #[.int .i64 o,.int .i64 n',.string s,.string t,.slice A' m' c'] 49)).drew=wd:=⟨_,rfl⟩
    rw [hwd] at LD RD HSD hHeld ⊢;clear hwd x0 x1 kq4 r0 r1 r2 r3 r4 p0 p1 p2 p3 p4;refine ja 0 22 (.pointer (some ⟨w.heap.size+3,4,none⟩)) rfl (λw' hSw=>?_) hHeld ?_
    ·obtain⟨b0,b1,b2,a0,a1,a2,a3,a4⟩:=hSw;go_simp
    simp only [Act.put,zS];refine ja 1 23 (.slice A7 ml cp7) rfl (λw' hSw=>?_) hHeld ?_
    ·obtain⟨b0,b1,b2,a0,a1,a2,a3,a4⟩:=hSw;go_simp
    simp only [Act.put,zS];refine ja 2 24 (.agg #[.slice none 0 0,.bool false]) rfl (λw' hSw=>?_) hHeld ?_
    ·obtain⟨b0,b1,b2,a0,a1,a2,a3,a4⟩:=hSw;go_simp
    simp only [Act.put,zS];refine ja 3 25 (.agg #[.int .i64 o,.int .i64 n',.string s,.string t,.slice A' m' c']) rfl (λw' hSw=>?_) hHeld ?_
    ·obtain⟨b0,b1,b2,a0,a1,a2,a3,a4⟩:=hSw;go_simp
    simp only [Act.put,zS];refine jy (i:=4) (o:=⟨some 26,_,_,_,_,_⟩) (by kernel_rfl) rfl (λK' hK'=>?_);go_simp;go_at_call 17;refine(IH.o y (zB nd) (Nat.le_trans (Pj ps y HYM.o) HNN.o) (Nat.le_trans (Pj ps y HYM.o) ZJ.o) (HPV.o y HYM.o) _ wd B (λb hb=>Nat.lt_of_lt_of_le (QK.o b hb) LD.o.G.size) (PAt.cong (λb hb=>LD.o.G.block b (QK.o b hb)) _ _ HX.o) (HD.o.keep LD.o.G)).mono ?_;rintro e w6 ⟨o6,n6,s6,t6,A6,m6,c6,rfl,hx6,b6⟩;have L6:=O (LD.o.keep b6);have R6:=O (RD.o.keep b6);have HX6:=O hx6;have HS6:=O b6.size;clear hx6 b6 hHeld;go_wp2_with fail;refine hK'.out _ _ (λ_=>⟨L6.o.X0,L6.o.X1,L6.o.Q5.c4,R6.o.c0,R6.o.c1,R6.o.c2,R6.o.c3,R6.o.c4⟩) ?_;clear hK' K'
    try simp only [Act.put,zS]
    refine jy (i:=5) (o:=⟨some 27,_,_,_,_,_⟩) (by kernel_rfl) rfl (λK' hK'=>?_);go_simp;have b7:=zb w6 (.cells #[.int .i64 o6,.int .i64 n6,.string s6,.string t6,.slice A6 m6 c6] 49);have L7:=O (L6.o.keep b7);have R7:=O (R6.o.keep b7);have RN:=O (jP w6 [.int .i64 o6,.int .i64 n6,.string s6,.string t6,.slice A6 m6 c6] 49);have HS7:=O (show w6.heap.size<(w6.alloc (.cells #[.int .i64 o6,.int .i64 n6,.string s6,.string t6,.slice A6 m6 c6] 49)).heap.size by simp);have KK:=O (show PAt (w6.alloc (.cells #[.int .i64 o6,.int .i64 n6,.string s6,.string t6,.slice A6 m6 c6] 49)) (λb=>(B b\/w.heap.size+4<=b)/\some b≠(Value.slice A7 ml cp7).ownBlock) (jV [] false y) [.int .i64 o6,.int .i64 n6,.string s6,.string t6,.slice A6 m6 c6] from by
     have h1:=PAt.mono (B':=λb=>(B b\/wd.heap.size<=b)/\b<w6.heap.size) (λb h1 h2=>⟨h1,h2⟩) _ _ HX6.o
     refine PAt.mono (λb hb _=>?_) _ _ (PAt.cong (λb hb=>b7.block b hb.2) _ _ h1)
     rcases hb.1 with h|h
     ·exact⟨.inl h,λe=>by have h2:=(HOW.o b e.symm).1;have h3:=QK.o b h;omega⟩
     ·exact⟨.inr (by have:=HSD.o;have:=HL4.o;omega),λe=>by have h2:=(HOW.o b e.symm).2;have:=HSD.o;omega⟩)
    refine hK'.out _ _ (λ_=>⟨L7.o.X0,L7.o.X1,L7.o.Q5.c4,R7.o.c0,R7.o.c1,R7.o.c2,R7.o.c3,R7.o.c4⟩) ?_;obtain⟨w7,hw7⟩:∃w7,w6.alloc (.cells #[.int .i64 o6,.int .i64 n6,.string s6,.string t6,.slice A6 m6 c6] 49)=w7:=⟨_,rfl⟩
    rw [hw7] at L7 R7 RN HS7 KK ⊢;clear hK' K' b7 hw7 L6 R6
    try simp only [Act.put,zS]
    refine jy (i:=6) (o:=⟨some 28,_,_,_,_,_⟩) (by kernel_rfl) rfl (λK' hK'=>?_);refine Vh rfl (.tmp 23) (.tmp 27) rfl (w.heap.size+4) (λb=>B b\/w.heap.size+4<=b) (.slice A7 ml cp7) E rfl L7.o.R ⟨jV [] false y,o6,n6,s6,t6,A6,m6,c6⟩ ⟨w6.heap.size,0,none⟩ 1 rfl RN.o KK.o HEL.o L7.o.z (λv' w8 hrow hg=>?_);obtain⟨K8,LN⟩:=L7.o.next QK.o hrow hg;have Ng:=O LN;obtain⟨A9,cp9,hv',-,-,-⟩:=hrow.pts (λb hb => .inr hb);obtain⟨nl,hnl⟩:∃nl,nl=(E ++ [(⟨jV [] false y,o6,n6,s6,t6,A6,m6,c6⟩:Pe)]).length:=⟨_,rfl⟩
    rw [<-hnl] at hv';subst hv';have HN0:=O (show∀b,b<w.heap.size+4->some b≠(Value.slice A7 ml cp7).ownBlock from λb hb e=>by have:=(HOW.o b e.symm).1;omega);have HNR:=O (show some wr.heap.size≠(Value.slice A7 ml cp7).ownBlock from λe=>by have:=(HOW.o _ e.symm).2;omega);have HK8:=O K8;have hHeld:w8.cell? ⟨w.heap.size,0,none⟩=some (.slice none 0 0)/\w8.cell? ⟨w.heap.size,1,none⟩=some (.bool false)/\w8.cell? ⟨w.heap.size+3,4,none⟩=some (.slice A7 ml cp7)/\w8.cell? ⟨wr.heap.size,0,none⟩=some (.int .i64 o)/\w8.cell? ⟨wr.heap.size,1,none⟩=some (.int .i64 n')/\w8.cell? ⟨wr.heap.size,2,none⟩=some (.string s)/\w8.cell? ⟨wr.heap.size,3,none⟩=some (.string t)/\w8.cell? ⟨wr.heap.size,4,none⟩=some (Value.slice A' m' c'):=⟨hg.cell L7.o.X0 (HN0.o w.heap.size (by omega)),hg.cell L7.o.X1 (HN0.o w.heap.size (by omega)),K8.c4,hg.cell R7.o.c0 HNR.o,hg.cell R7.o.c1 HNR.o,hg.cell R7.o.c2 HNR.o,hg.cell R7.o.c3 HNR.o,hg.cell R7.o.c4 HNR.o⟩
    refine hK'.out _ _ (λ_=>hHeld) ?_;clear hK' K' hrow hg LN K8 hnl
    try simp only [Act.put,zS]
    refine ja 7 29 (.pointer (some ⟨w.heap.size+3,4,none⟩)) rfl (λw' hSw=>?_) hHeld ?_
    ·clear hSw;go_simp
    simp only [Act.put,zS];clear hHeld;obtain⟨k0,k1,k2,k3,k4,f0,f1,f2,f3,f4⟩:=HK8.o;refine jy (i:=8) (o:=⟨none,_,_,_,_,_⟩) (by kernel_rfl) rfl (λK' hK'=>?_);go_simp;refine hK'.out _ _ (λh=>absurd rfl h) ?_;clear hK' K';refine Gs (by kernel_rfl) ?_;refine NoPanic.normal ?_
    try simp only [Act.put,zS]
    clear k0 k1 k2 k3 k4 f0 f1 f2 f3 f4;go_wp2_with fail;go_roundw
    case rel=>exact⟨k+1,E ++ [⟨jV [] false y,o6,n6,s6,t6,A6,m6,c6⟩],_,by go_num,hlt,O (Lc.o _ rfl),Ng⟩
    case measure=>simp [intOf];omega
   case' neg =>
    have zou:k=m:=by omega
    subst zou;obtain⟨A7,cp7,hpv,zen,VJ,zj6⟩:=hL.o.R.pts (λb hb => .inr hb);have hE2:SD E=zZ [] false ps:=Ye (by rw [To,Uv,hE.o,List.take_of_length_le (by rw [<-HM.o];exact Nat.le_refl _)]);rw [hE2] at zen;have hlen:E.length=(zZ [] false ps).len:=by rw [<-hE2,TN]
    obtain⟨ml,zcj⟩:∃ml,ml=E.length:=⟨_,rfl⟩
    rw [<-zcj] at hpv VJ hlen;subst hpv;have HJ:=O (show GJ w wr B f (.node nd (zZ [] false ps)) (.node nd (zZ [] false ps)) from⟨hL.o.X0,hL.o.X1,hL.o.R4,⟨_,_,_,_,_,_,_,hL.o.Q5,by
     rw [PAt]
     exact⟨HNO.o,A7,cp7,by rw [hlen],by rw [<-hlen];exact VJ,zj6,zen⟩⟩,HVB.o.1,rfl,HVB.o.2,hL.o.G,hL.o.z⟩)
    clear zen VJ zj6 hE2 hlen zcj;obtain⟨y,hy⟩:∃y,y=Ex.node nd (zZ [] false ps):=⟨_,rfl⟩
    have HMU:=O (show True from trivial);have HJ2:=O (show GJ w wr B f (.node nd (zZ [] false ps)) y from by rw [hy];exact HJ.o);clear hL hE hlt hy HJ;have HJ:=O HJ2.o;clear HJ2;go_wp2_with fail;go_step3
 case' pass =>
  clear LP;rintro a' wr ⟨⟨u6,u7,u8,u9,u10,u11,u12,u13,u14,u15,u16,u17,u18,u19,u20,u21,u22,u23,u24,u25,u26,u27,u28,u29,u30,u31,u32,u33,u34,u35,u36,u37,u38,u39,u40,u41,u42,u43,u44,u45,u46,rfl⟩,hj⟩;obtain⟨y0,hj⟩:=hj;obtain⟨⟨y,hj,hyl⟩,hmin⟩:=UB (p:=λn=>∃y,GJ w wr B f (.node nd (zZ [] false ps)) y/\y.flat.length=n) ⟨y0,hj,rfl⟩;have HJ:=O hj;have HMU:=O (show∀(z:Ex) (w'':World),GJ w w'' B f (.node nd (zZ [] false ps)) z->z.flat.length<y.flat.length->(QY λn=>∃y,GJ w w'' B f (.node nd (zZ [] false ps)) y/\y.flat.length=n)<(QY λn=>∃y,GJ w wr B f (.node nd (zZ [] false ps)) y/\y.flat.length=n) from λz w'' hz hlt=>by
   have h1:=(UB (p:=λn=>∃y,GJ w w'' B f (.node nd (zZ [] false ps)) y/\y.flat.length=n) ⟨z,hz,rfl⟩).2 _ ⟨z,hz,rfl⟩
   omega)
  clear hj hyl hmin
 all_goals
  obtain⟨oy,ny,sy,ty,Ay,my,cy,hq5,hpy⟩:=HJ.o.Q;have Q5:=O hq5;have HPY:=O hpy;obtain⟨x0,x1,x2,x3,x4,-,-,-,-,-⟩:=hq5;have KL:=O (zhV y f HJ.o.v _ wr (λb=>(B b\/w.heap.size+4<=b)/\b<wr.heap.size) (λb hb=>hb.2) (PAt.mono (λb h1 h2=>⟨h1,h2⟩) _ _ hpy));clear hpy;go_wp2_with fail;refine KL.o.mono ?_;rintro e w5 ⟨o2,n2,s2,t2,A2,m2,c2,b2,rfl,hl1,hl2,b5⟩;have b6:=zb w5 (.cells #[.int .i64 o2,.int .i64 n2,.string s2,.string t2,.slice A2 m2 c2] 49);have b56:=b5.trans (b6.mono b5.size);have E0:=O (za b56 HJ.o.X0);have E1:=O (za b56 HJ.o.X1);have R6:=O (HJ.o.R4.keep b56);have Q6:=O (Q5.o.keep b56);have T6:=O (jR w5 (.int .i64 o2) (.int .i64 n2) (.string s2) (.string t2) (.slice A2 m2 c2) 49);have B56:=O b56;have HZ6:=O (show(w5.alloc (.cells #[.int .i64 o2,.int .i64 n2,.string s2,.string t2,.slice A2 m2 c2] 49)).heap.size=w5.heap.size+1 by simp);have HL1:=O hl1;have HL2:=O hl2;have HB5:=O b5;clear x0 x1 x2 x3 x4 KL hl1 hl2 b5 b6 b56;cases b2
  ·have KW:=O (HW.o y f HJ.o.v HJ.o.h _ (w5.alloc (.cells #[.int .i64 o2,.int .i64 n2,.string s2,.string t2,.slice A2 m2 c2] 49)) (λb=>(B b\/w.heap.size+4<=b)/\b<wr.heap.size) (λb hb=>Nat.lt_of_lt_of_le hb.2 B56.o.size) (PAt.cong (λb hb=>B56.o.block b hb.2) _ _ (PAt.mono (λb h1 h2=>⟨h1,h2⟩) _ _ HPY.o)) ((HD.o.keep HJ.o.G).keep B56.o));have HYN:=O (HL2.o rfl);have e0:=E0.o;have e1:=E1.o;obtain⟨x0,x1,x2,x3,x4,-,-,-,-,-⟩:=Q6.o;go_wp2_with fail;refine KW.o.mono ?_;rintro e w7 ⟨o3,n3,s3,t3,A3,m3,c3,b3,rfl,WF,hw2,b7⟩;have b8:=zb w7 (.cells #[.int .i64 o3,.int .i64 n3,.string s3,.string t3,.slice A3 m3 c3] 49);have b78:=b7.trans (b8.mono b7.size);have R8:=O (R6.o.keep b78);have Q8:=O (Q6.o.keep b78);have T8:=O (jR w7 (.int .i64 o3) (.int .i64 n3) (.string s3) (.string t3) (.slice A3 m3 c3) 49);have B78:=O b78;have HB7:=O b7;have HS7:=O (show w7.heap.size<(w7.alloc (.cells #[.int .i64 o3,.int .i64 n3,.string s3,.string t3,.slice A3 m3 c3] 49)).heap.size by simp);have HW1:=O WF;have HW2:=O hw2;have HG8:=O (show Below w.heap.size w (w7.alloc (.cells #[.int .i64 o3,.int .i64 n3,.string s3,.string t3,.slice A3 m3 c3] 49)) from(HJ.o.G.trans (B56.o.mono HJ.o.G.size)).trans (b78.mono (Nat.le_trans HJ.o.G.size B56.o.size)));have HLZ:=O (show eO (Ex.node nd (zZ [] false ps)).flat.length (.node nd (zZ [] false ps))=y from by rw [<-HJ.o.l];exact Xs HYN.o);clear e0 e1 x0 x1 x2 x3 x4 KW WF hw2 b7 b8 b78;obtain⟨q0,q1,q2,q3,q4,-,-,-,-,-⟩:=Q8.o;obtain⟨r0,r1,r2,r3,r4,z0,z1,z2,z3,z4⟩:=R8.o;obtain⟨t0,t1,t2',t3',t4,-,-,-,-,-⟩:=T8.o;cases b3
   ·have S8:=O (R8.o.set (.int .i64 oy) (.int .i64 ny) (.string sy) (.string ty) (.slice Ay my cy));have G8:=O (ed HG8.o (Nat.le_add_right w.heap.size 2) (.int .i64 oy) (.int .i64 ny) (.string sy) (.string ty) (.slice Ay my cy));have F8:=O (show PAt ((((((w7.alloc (.cells #[.int .i64 o3,.int .i64 n3,.string s3,.string t3,.slice A3 m3 c3] 49)).setCell ⟨w.heap.size+2,0,none⟩ (.int .i64 oy)).setCell ⟨w.heap.size+2,1,none⟩ (.int .i64 ny)).setCell ⟨w.heap.size+2,2,none⟩ (.string sy)).setCell ⟨w.heap.size+2,3,none⟩ (.string ty)).setCell ⟨w.heap.size+2,4,none⟩ (.slice Ay my cy)) (λb=>B b\/w.heap.size<=b) y [.int .i64 oy,.int .i64 ny,.string sy,.string ty,.slice Ay my cy] from by
     have h1:=PAt.mono (B':=λb=>(B b\/w.heap.size+4<=b)/\b<wr.heap.size) (λb h1 h2=>⟨h1,h2⟩) _ _ HPY.o
     refine PAt.mono (λb hb _=>hb.1.imp id (λh=>by omega)) _ _ (PAt.cong (λb hb=>?_) _ _ h1)
     refine(Km (w7.alloc (.cells #[.int .i64 o3,.int .i64 n3,.string s3,.string t3,.slice A3 m3 c3] 49)) (w.heap.size+2) _ _ _ _ _ (λe=>?_)).trans ((B78.o.block b (Nat.lt_of_lt_of_le hb.2 B56.o.size)).trans (B56.o.block b hb.2))
     rcases hb.1 with h|h
     ·have:=QK.o b h;omega
     ·omega)
    have HXE:=O (show XX=y from by rw [HXX.o,jV,NP,HLZ.o,HW2.o rfl]);go_wp2_with fail;obtain⟨s0,s1,s2',s3',s4,-,-,-,-,-⟩:=S8.o;exact bodyPost_ret (v := .agg #[.int .i64 oy,.int .i64 ny,.string sy,.string ty,.slice Ay my cy]) (by simp [results,Tryz.results17,go_sem,s0,s1,s2',s3',s4]) rfl ⟨_,_,_,_,_,_,_,rfl,by rw [HXE.o];exact F8.o,G8.o⟩
   ·obtain⟨z,hz1,hz2⟩:=HW1.o rfl;have HZ1:=O hz1;have HZ2:=O hz2;have S8:=O (R8.o.set (.int .i64 o3) (.int .i64 n3) (.string s3) (.string t3) (.slice A3 m3 c3));have G8:=O (ed HG8.o (Nat.le_add_right w.heap.size 2) (.int .i64 o3) (.int .i64 n3) (.string s3) (.string t3) (.slice A3 m3 c3));have F8:=O (show PAt ((((((w7.alloc (.cells #[.int .i64 o3,.int .i64 n3,.string s3,.string t3,.slice A3 m3 c3] 49)).setCell ⟨w.heap.size+2,0,none⟩ (.int .i64 o3)).setCell ⟨w.heap.size+2,1,none⟩ (.int .i64 n3)).setCell ⟨w.heap.size+2,2,none⟩ (.string s3)).setCell ⟨w.heap.size+2,3,none⟩ (.string t3)).setCell ⟨w.heap.size+2,4,none⟩ (.slice A3 m3 c3)) (λb=>B b\/w.heap.size<=b) z [.int .i64 o3,.int .i64 n3,.string s3,.string t3,.slice A3 m3 c3] from by
     have h1:=PAt.mono (B':=λb=>(((B b\/w.heap.size+4<=b)/\b<wr.heap.size)\/(w5.alloc (.cells #[.int .i64 o2,.int .i64 n2,.string s2,.string t2,.slice A2 m2 c2] 49)).heap.size<=b)/\b<w7.heap.size) (λb h1 h2=>⟨h1,h2⟩) _ _ HZ2.o
     have hz4:=HJ.o.z
     have hz5:=B56.o.size
     refine PAt.mono (λb hb _=>?_) _ _ (PAt.cong (λb hb=>?_) _ _ h1)
     ·rcases hb.1 with h|h
      ·exact h.1.imp id (λh=>by omega)
      ·exact .inr (by omega)
     ·refine(Km (w7.alloc (.cells #[.int .i64 o3,.int .i64 n3,.string s3,.string t3,.slice A3 m3 c3] 49)) (w.heap.size+2) _ _ _ _ _ (λe=>?_)).trans ((zb w7 _).block b hb.2)
      rcases hb.1 with h|h
      ·rcases h.1 with h|h
       ·have:=QK.o b h;omega
       ·omega
      ·omega)
    have HXE:=O (show XX=z from by rw [HXX.o,jV,NP,HLZ.o,HZ1.o]);go_wp2_with fail;obtain⟨s0,s1,s2',s3',s4,-,-,-,-,-⟩:=S8.o;exact bodyPost_ret (v := .agg #[.int .i64 o3,.int .i64 n3,.string s3,.string t3,.slice A3 m3 c3]) (by simp [results,Tryz.results17,go_sem,s0,s1,s2',s3',s4]) rfl ⟨_,_,_,_,_,_,_,rfl,by rw [HXE.o];exact F8.o,G8.o⟩
  ·obtain⟨z,hz1,hz2⟩:=HL1.o rfl;have LS:=O (zgj HJ.o.v hz1);have hne:some w.heap.size≠some (w.heap.size+3):=λe=>by injection e with e;omega
   have zoI:some (w.heap.size+2)≠some (w.heap.size+3):=λe=>by injection e with e;omega
   have g9:=Mz (w5.alloc (.cells #[.int .i64 o2,.int .i64 n2,.string s2,.string t2,.slice A2 m2 c2] 49)) (w.heap.size+3) (.int .i64 o2) (.int .i64 n2) (.string s2) (.string t2) (.slice A2 m2 c2);have NJ:=O (show GJ w ((((((w5.alloc (.cells #[.int .i64 o2,.int .i64 n2,.string s2,.string t2,.slice A2 m2 c2] 49)).setCell ⟨w.heap.size+3,0,none⟩ (.int .i64 o2)).setCell ⟨w.heap.size+3,1,none⟩ (.int .i64 n2)).setCell ⟨w.heap.size+3,2,none⟩ (.string s2)).setCell ⟨w.heap.size+3,3,none⟩ (.string t2)).setCell ⟨w.heap.size+3,4,none⟩ (.slice A2 m2 c2)) B f (.node nd (zZ [] false ps)) z from⟨g9.cell E0.o hne,g9.cell E1.o hne,R6.o.but g9 zoI,⟨_,_,_,_,_,_,_,Q6.o.set (.int .i64 o2) (.int .i64 n2) (.string s2) (.string t2) (.slice A2 m2 c2),by
    refine PAt.mono (λb hb _=>hb.1) _ _ (PAt.cong (λb hb=>?_) _ _ hz2)
    refine(Km (w5.alloc (.cells #[.int .i64 o2,.int .i64 n2,.string s2,.string t2,.slice A2 m2 c2] 49)) (w.heap.size+3) _ _ _ _ _ (λe=>?_)).trans ((zb w5 _).block b (Nat.lt_of_lt_of_le hb.2 HB5.o.size))
    rcases hb.1 with h|h
    ·have:=QK.o b h;omega
    ·omega⟩,LS.o.1,LS.o.2.2.symm.trans HJ.o.l,Nat.le_trans (Nat.le_of_lt LS.o.2.1) HJ.o.h,ed (HJ.o.G.trans (B56.o.mono HJ.o.G.size)) (Nat.le_add_right w.heap.size 3) (.int .i64 o2) (.int .i64 n2) (.string s2) (.string t2) (.slice A2 m2 c2),by
    have h1:=HJ.o.z
    have h2:=B56.o.size
    simp only [World.setCell] at *
    simpa [World.setCell] using Nat.le_trans h1 h2⟩)
   clear hne zoI g9 hz1 hz2;obtain⟨q0,q1,q2,q3,q4,z0,z1,z2,z3,z4⟩:=Q6.o;obtain⟨t0,t1,t2',t3',t4,-,-,-,-,-⟩:=T6.o;go_wp2_with fail;go_step3
   first
    | exact⟨rfl,⟨_,_,_,_,_,_,_,_,_,_,_,_,_,_,_,_,_,_,_,_,_,_,_,_,_,_,_,_,_,_,_,_,_,_,_,_,_,_,_,_,_,rfl⟩,z,NJ.o⟩
    | exact⟨rfl,⟨⟨_,_,_,_,_,_,_,_,_,_,_,_,_,_,_,_,_,_,_,_,_,_,_,_,_,_,_,_,_,_,_,_,_,_,_,_,_,_,_,_,_,rfl⟩,z,NJ.o⟩,HMU.o z _ NJ.o LS.o.2.1⟩
theorem ze5(hw:zjk):∀N,zmF N
 | 0=>λx _ h=>by have:=jp x;omega
 | N+1=>λx f h hM hv u w B hB hx hd=>by
  cases x with
  | node nd ps =>
   rw [PAt] at hx
   obtain⟨hno,A,c,rfl,hc,-,hp⟩:=hx
   rw [Ex.flat,List.length_cons] at h
   exact zfB hw N (ze5 hw N) nd ps f A c w B (by omega) hM hv hB hno hc hp hd
end Go.Proofs.YtokiogmfgpidmaaGreatDoor
namespace Go.Proofs.YtokiogmfgpidmaaGreatDoor
open Go.RowKit Go.Wk Go.Sort
structure Vn(w:World)(b:Nat)(x:Nd):Prop where
 c0:w.cell? ⟨b,0,none⟩=some (.int .i64 x.op)
 c1:w.cell? ⟨b,1,none⟩=some (.int .i64 x.n)
 c2:w.cell? ⟨b,2,none⟩=some (.string x.s)
 c3:w.cell? ⟨b,3,none⟩=some (.string x.t)
theorem Vn.keep{w w':World}{b:Nat}{x:Nd}(h:Vn w b x)(hb:Below w.heap.size w w'):Vn w' b x:=⟨za hb h.c0,za hb h.c1,za hb h.c2,za hb h.c3⟩
theorem LW(w:World)(x:Nd)(t:TypeId):Vn (w.alloc (.cells #[.int .i64 x.op,.int .i64 x.n,.string x.s,.string x.t] t)) w.heap.size x :=
 ⟨Gn (heap_alloc_new w _) rfl,Gn (heap_alloc_new w _) rfl,Gn (heap_alloc_new w _) rfl,Gn (heap_alloc_new w _) rfl⟩
theorem zd9(t:List Nd)(s s':ByteArray):∀(c p:Nat),px t c false s p=px t c false s' p
 | 0,p=>by unfold px;simp only [jS]
 | c+1,p=>by
  rcases h:t[p]? with _|y
  ·have hp:t.length<=p:=List.getElem?_eq_none_iff.1 h;rw [Kk hp,Kk hp]
  ·have e1:∀z,¬(false=true/\¬jh z y.s<0):=λz q=>Bool.false_ne_true q.1;rw [IQ h,IQ h,if_neg (e1 s),if_neg (e1 s')]
theorem RH{t:List Nd}{s:ByteArray}{c p:Nat}:px t (c+1) false s p=if 0<=jQ t p false then px t c false s (jQ t p false).toNat else -1:=by
 rcases h:t[p]? with _|y
 ·have hp:t.length<=p:=List.getElem?_eq_none_iff.1 h;rw [Kk hp,QH hp];rfl
 ·rw [IQ h,if_neg (λq=>absurd q.1 Bool.false_ne_true),zd9 t y.s s]
theorem zbm{f:Bool}{x:Nd}(h:je x=false):jC f x=false:=by unfold jC;rw [h];rfl
theorem zbo{f:Bool}{x:Nd}(h:je x=true):jC f x=(decide (x.op=7)==f):=by unfold jC;rw [h];rfl
theorem W8{x:Nd}(h:Kb x):zC x<=9223372036854775807:=by
 unfold zC;have:=h.hi;split
 ·exact this
 ·repeat' (first|split|omega)
def TbC(P:List Nd)(A:Option Addr)(n c m:Nat):Prop:=∀(p:Nat) (f:Bool) (w:World),Ns w A n c P->n-p<=m->
 Calls Tryz.prog 32 #[.slice A n c,.int .i64 p,.bool f] w λe w'=>e = .returned (.int .i64 (jQ P p f))/\Below w.heap.size w w'
theorem zi6(P:List Nd)(A:Option Addr)(n c p:Nat)(f:Bool)(w:World)(h:Ns w A n c P)(hp:n<=p):
 Calls Tryz.prog 32 #[.slice A n c,.int .i64 p,.bool f] w λe w'=>e = .returned (.int .i64 (jQ P p f))/\Below w.heap.size w w':=by
 have HR:=O (QH (t:=P) (p:=p) (f:=f) (by rw [<-h.len];exact hp));have f0:decide ((n:Int)<=(p:Int))=true:=decide_eq_true (by omega);have f1:decide ((p:Int)<0)=false:=decide_eq_false (by omega);clear h;go_enter Tryz.func32,Tryz.ntmps32;go_wp2_with fail;go_ret;exact⟨by rw [HR.o];rfl,Below.refl _ _⟩
theorem zl2(P:List Nd)(m:Nat)(a:Addr)(n c q:Nat)(f:Bool)(w:World)(ih:TbC P (some a) n c m)(Gy:Ns w (some a) n c P)(hq:q<n)(hf:n-q<=m+1):
 Calls Tryz.prog 32 #[.slice (some a) n c,.int .i64 q,.bool f] w λe w'=>e = .returned (.int .i64 (jQ P q f))/\Below w.heap.size w w':=by
 have hm:=Gy.max;unfold maxLen at hm;have Tj:=O Gy;have Ng:=O Gy.len;have hql:q<P.length:=by rw [<-Gy.len];exact hq
 have ZA:=List.getElem?_eq_getElem hql;have hok:=Gy.ok _ (List.getElem_mem hql);have IH:=O (λp g w' (hp:q<p) hb=>ih p g w' (Gy.keep (w':=w') hb) (by omega));obtain⟨a',ea,d0,d1,d2,d3⟩:=Gy.at_ q _ ZA;injection ea with ea;subst ea;have CS:=O (zaW P[q] w hok);have CP:=O (λw=>MU P[q] w);have hpl:=W8 hok;obtain⟨x,hx⟩:∃x,x=P[q]:=⟨_,rfl⟩
 rw [<-hx] at ZA hok d0 d1 d2 d3 CS CP hpl;have HX:=O ZA;clear hx ZA Gy ih hok;have HXE:=O (show Nd4 w (a.add (q*4)) x from⟨d0,d1,d2,d3⟩);unfold ndV at CS CP;have f0:decide (n<=q)=false:=decide_eq_false (by omega);have f1:decide ((q:Int)<0)=false:=decide_eq_false (by omega);by_cases ZF:je x=true
 ·rw [ZF] at CS;have HH:=O (zbo (f:=f) ZF);have HP0:=O (Pa ZF);clear ZF;go_enter Tryz.func32,Tryz.ntmps32;go_wp2_with fail;refine CS.o.mono ?_;rintro e w1 ⟨rfl,b1⟩;have B1:=O b1;have zkv:=O (HXE.o.keep b1);obtain⟨e0,e1,e2,e3⟩:=zkv.o;clear b1 CS HXE d0 d1 d2 d3;have he:(x.op==7)=decide (x.op=7):=rfl;by_cases hh:(decide (x.op=7)==f)=true
  ·have HE:=O (show jQ P q f=px P (zC x).toNat (zB x) emp (q+1) from Rc HX.o (HH.o.trans hh));have f2:(!(x.op==7)==f)=false:=by rw [he];revert hh;cases decide (x.op=7)<;> cases f <;> simp
   obtain⟨M,hM⟩:∃M:Nat,zC x=(M:Int):=⟨(zC x).toNat,by have:=HP0.o;omega⟩
   rw [hM] at CP hpl;rw [hM,Int.toNat_natCast] at HE;have B2:=O (B1.o.trans ((zb w1 (.cells #[.int .i64 x.op,.int .i64 x.n,.string x.s,.string x.t] 28)).mono B1.o.size));have V2:=O (LW w1 x 28);clear hh he hM HH HP0 HX;go_wp2_with fail;refine(CP.o _).mono ?_;rintro e w2 ⟨rfl,b2⟩;have B3:=bh B2 b2;have V3:=O (V2.o.keep b2);clear b2 B2 V2 e0 e1 e2 e3 zkv B1 CP;go_wp2_with fail;go_loopw [1,8,43] (λu l i wr=>∃(k p:Nat) (last:ByteArray),u = .int .i64 p/\l = .string last/\i = .int .i64 k/\k<=M/\q<p/\p<=n/\Hid (jQ P q f=px P (M-k) (zB x) last p)/\Hid (Below w.heap.size w wr)/\Hid (Vn wr w1.heap.size x)) (λ_ _ i _=>M-(intOf i).toNat)
   case atStart=>exact⟨0,q+1,⟨#[]⟩,by go_num,rfl,rfl,Nat.zero_le _,Nat.lt_succ_self _,hq,HE,B3,V3⟩
   case round =>
    clear B3 V3 HE;obtain⟨k,p,last,rfl,rfl,rfl,hk,hqp,hpn,hF,hB,hV⟩:=hrel;obtain⟨v0,v1,v2,v3⟩:=hV.o;by_cases hlt:k<M
    ·have HF:=O (show jQ P q f=px P (M-(k+1)+1) (zB x) last p by rw [hF.o,show M-k=M-(k+1)+1 by omega]);clear hF;by_cases hpn2:p<n
     ·have zmh:p<P.length:=by rw [<-Ng.o];exact hpn2
      have g3:decide (n<=p)=false:=decide_eq_false (by omega);by_cases h6:x.op=6
      ·have hr:zB x=true:=by unfold zB;exact decide_eq_true h6
       have g2:(x.op==6)=true:=beq_iff_eq.2 h6;obtain⟨a',ea,e0,e1,e2,e3⟩:=(Tj.o.keep hB.o).at_ p _ (List.getElem?_eq_getElem zmh);injection ea with ea;subst ea;have HN:=O (HF.o.trans ((congrArg (λb=>px P (M-(k+1)+1) b last p) hr).trans (IQ (List.getElem?_eq_getElem zmh))));have HRC:=O hr;have IHP:=O (λw' hb=>IH.o p true w' hqp hb);generalize P[p]=y at *;clear HF hr h6;rcases zaJ y.s last with ⟨hc,l1,l2⟩|⟨hc,l1⟩|⟨hc,l1,l2⟩
       ·have HGV:=O (HN.o.trans (if_neg (λq=>q.2 hc)));clear hc HN;go_wp2_with fail;refine(IHP.o _ hB.o).mono ?_;rintro e w6 ⟨rfl,b6⟩;have B6:=bh hB b6;have V6:=O (hV.o.keep b6);clear b6 hB hV v0 v1 v2 v3 e0 e1 e2 e3;by_cases hk0:0<=jQ P p true
        ·obtain⟨e',he,hep,Zz⟩:=Qv hk0;have HF2:=O (show jQ P q f=px P (M-(k+1)) (zB x) y.s e' by
          have h1:=HGV.o
          rw [if_pos hk0,he,Int.toNat_natCast] at h1
          rw [h1,HRC.o])
         have hen:e'<=n:=by rw [Ng.o];exact Zz
         rw [he];clear hk0 he Zz;go_wp2_with fail;go_roundw
         case rel=>exact⟨k+1,e',y.s,rfl,rfl,by go_num,hlt,by omega,hen,HF2,B6,V6⟩
         case measure=>simp [intOf];omega
        ·have WG:=O (show jQ P q f = -1 by rw [HGV.o,if_neg hk0]);rw [NV hk0];clear hk0;go_wp2_with fail;go_ret;exact⟨by rw [WG.o];rfl,B6.o⟩
       ·have WG:=O (show jQ P q f = -1 from HN.o.trans (if_pos ⟨rfl,hc⟩));clear hc HN;go_wp2_with fail;go_ret;exact⟨by rw [WG.o];rfl,hB.o⟩
       ·have WG:=O (show jQ P q f = -1 from HN.o.trans (if_pos ⟨rfl,hc⟩));clear hc HN;go_wp2_with fail;go_ret;exact⟨by rw [WG.o];rfl,hB.o⟩
      ·have hr:zB x=false:=by unfold zB;exact decide_eq_false h6
       have HRC:=O hr;have g2:(x.op==6)=false:=beq_eq_false_iff_ne.2 h6;have HGV:=O (HF.o.trans ((congrArg (λb=>px P (M-(k+1)+1) b last p) hr).trans RH));have IHP:=O (λw' hb=>IH.o p false w' hqp hb);clear hr HF h6;go_wp2_with fail;refine(IHP.o _ hB.o).mono ?_;rintro e w6 ⟨rfl,b6⟩;have B6:=bh hB b6;have V6:=O (hV.o.keep b6);clear b6 hB hV v0 v1 v2 v3;by_cases hk0:0<=jQ P p false
       ·obtain⟨e',he,hep,Zz⟩:=Qv hk0;have HF2:=O (show jQ P q f=px P (M-(k+1)) (zB x) last e' by
         have h1:=HGV.o
         rw [if_pos hk0,he,Int.toNat_natCast] at h1
         rw [h1,HRC.o])
        have hen:e'<=n:=by rw [Ng.o];exact Zz
        rw [he];clear hk0 he Zz;go_wp2_with fail;go_roundw
        case rel=>exact⟨k+1,e',last,rfl,rfl,by go_num,hlt,by omega,hen,HF2,B6,V6⟩
        case measure=>simp [intOf];omega
       ·have WG:=O (show jQ P q f = -1 by rw [HGV.o,if_neg hk0]);rw [NV hk0];clear hk0;go_wp2_with fail;go_ret;exact⟨by rw [WG.o];rfl,B6.o⟩
     ·have WG:=O (show jQ P q f = -1 by rw [HF.o,Kk (by rw [<-Ng.o];omega)]);have g3:decide (n<=p)=true:=decide_eq_true (by omega);clear HF;go_wp2_with fail;go_ret;exact⟨by rw [WG.o];rfl,hB.o⟩
    ·have Kq:=O (show jQ P q f=(p:Int) by
      rw [hF.o,show M-k=0 by omega]
      exact Pf (by rw [<-Ng.o];exact hpn))
     clear hF;go_wp2_with fail;go_ret;exact⟨by rw [Kq.o];rfl,hB.o⟩
  ·have HE:=O (show jQ P q f = -1 from NF HX.o (HH.o.trans (by simpa using hh)));have f2:(!(x.op==7)==f)=true:=by rw [he];revert hh;cases decide (x.op=7)<;> cases f <;> simp
   clear hh he;go_wp2_with fail;go_ret;exact⟨by rw [HE.o];rfl,B1.o⟩
 ·have ZF:je x=false:=by simpa using ZF
  rw [ZF] at CS;have HE:=O (show jQ P q f = -1 from NF HX.o (zbm ZF));clear ZF;go_enter Tryz.func32,Tryz.ntmps32;go_wp2_with fail;refine CS.o.mono ?_;rintro e w1 ⟨rfl,b1⟩;have B1:=O b1;clear b1 CS HXE d0 d1 d2 d3;go_wp2_with fail;go_ret;exact⟨by rw [HE.o];rfl,B1.o⟩
theorem Sm(P:List Nd)(A:Option Addr)(n c:Nat):∀m,TbC P A n c m
 | 0=>λp f w h hm=>zi6 P A n c p f w h (by omega)
 | m+1=>λp f w h hm=>by
  by_cases hp:p<n
  ·rcases A with _|a
   ·have:=h.at_ p _ (List.getElem?_eq_getElem (by rw [<-h.len];exact hp));obtain⟨a,e,-⟩:=this;cases e
   ·exact zl2 P m a n c p f w (Sm P (some a) n c m) h hp hm
  ·exact zi6 P A n c p f w h (by omega)
theorem UM(A:Option Addr)(n c:Nat)(P:List Nd)(w:World)(h:Ns w A n c P):
 Calls Tryz.prog 15 #[.slice A n c] w λe w'=>e = .returned (fa (vR P))/\Below w.heap.size w w':=by
 have hl:=h.len;by_cases Ms:200<n
 ·have HR:=O (show vR P=4 by unfold vR;rw [if_pos (by omega)]);have f0:decide ((200:Int)<(n:Int))=true:=decide_eq_true (by omega);clear h hl;go_enter Tryz.func15,Tryz.ntmps15;go_wp2_with fail;go_ret;exact⟨by rw [HR.o];rfl,Below.refl _ _⟩
 ·have C:=O (Sm P A n c n 0 false w h (by omega));have f0:decide ((200:Int)<(n:Int))=false:=decide_eq_false (by omega);have HR:=O (show vR P=if(QF P).isSome then 0 else 1 by unfold vR;rw [if_neg (by omega)]);have HA:=O (ziD (t:=P));rw [<-hl] at HA;clear h hl Ms;generalize jQ P 0 false=r at *;go_enter Tryz.func15,Tryz.ntmps15;go_wp2_with fail;refine C.o.mono ?_;rintro e w1 ⟨rfl,b1⟩;have B1:=O b1;clear b1 C;by_cases hr:r=(n:Int)
  ·have HE:=O (show vR P=0 by rw [HR.o,if_pos (HA.o.1 hr)]);have f1:(r !=(n:Int))=false:=by rw [bne_eq_false_iff_eq];exact hr
   clear hr;go_wp2_with fail;go_ret;exact⟨by rw [HE.o];rfl,B1.o⟩
  ·have HE:=O (show vR P=1 by rw [HR.o,if_neg (λq=>hr (HA.o.2 q))]);have f1:(r !=(n:Int))=true:=by rw [bne_iff_ne];exact hr
   clear hr;go_wp2_with fail;go_ret;exact⟨by rw [HE.o];rfl,B1.o⟩
end Go.Proofs.YtokiogmfgpidmaaGreatDoor
