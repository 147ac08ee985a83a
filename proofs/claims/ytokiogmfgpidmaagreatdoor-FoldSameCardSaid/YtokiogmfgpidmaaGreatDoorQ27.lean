/-
  errors.As at the target '*api.Errno': the contracts of plain.Told, and of the ..
-/
import Derived.Stop.Asserts
import Derived.Test.YtokiogmfgpidmaaGreatDoorQ26
set_option maxRecDepth 100000
set_option maxHeartbeats 8000000
namespace Go.Proofs.YtokiogmfgpidmaaGreatDoor
open Go.RowKit Go.Extern.Stop Go.Stop Go.Extern
theorem FK(t:Addr)(w:World):(ReflectliteValue.unpack (.iface 93 (.pointer (some t)))).run Tryz.prog w
 = .ok (.agg #[.pointer (some ⟨2,93,none⟩),.pointer (some ⟨w.heap.size,0,none⟩),.int .u64 150]) (w.alloc (.cells #[.pointer (some t)] 93)):=by kernel_rfl
theorem LG(a:Addr)(w:World):(ReflectliteValue.methodAny (ReflectliteValue.valueError "reflectlite.Value.Type" 0) (λt _ _ _=>ReflectliteType.toType t) #[.agg #[.pointer (some ⟨2,93,none⟩),.pointer (some a),.int .u64 150]]).run Tryz.prog w
 = .ok (.iface 183 (.agg #[.pointer (some ⟨2,93,none⟩)])) w:=by kernel_rfl
theorem yc(h:Value)(w:World):(Go.method 488 183 (.agg #[h]) "Kind").run Tryz.prog w = .ok (264,h) w:=by kernel_rfl
theorem Lz(w:World):((ReflectliteType.abiMethod λt=>(λa:Nat=>Value.int IntKind.u8 (a:Int))<$> Rtype.kind t) #[.pointer (some ⟨2,93,none⟩)]).run Tryz.prog w = .ok (.int .u8 22) w:=by kernel_rfl
theorem Lr(w:World):((ReflectliteType.abiMethod λt=>(λa:Nat=>Value.int IntKind.u8 (a:Int))<$> Rtype.kind t) #[.pointer (some ⟨2,41,none⟩)]).run Tryz.prog w = .ok (.int .u8 2) w:=by kernel_rfl
theorem rlm(z:Sem Value)(f:TypeId->Addr->Nat->Nat->Sem Value)(v:Value):
 ReflectliteValue.method z f #[v]=(do match <-ReflectliteValue.parts v with|none=>z|some (t,a,fl)=>f t a fl (fl % 32)):=rfl
theorem DC(a:Addr)(w:World):(ReflectliteValue.parts (.agg #[.pointer (some ⟨2,93,none⟩),.pointer (some a),.int .u64 150])).run Tryz.prog w = .ok (some (93,a,150)) w:=by kernel_rfl
theorem JK(a p:Addr)(W:World)(ha:W.cell? a=some (.pointer (some p))):
 (ReflectliteValue.method (ReflectliteValue.valueError "reflectlite.Value.IsNil" 0) ReflectliteValue.isNil #[.agg #[.pointer (some ⟨2,93,none⟩),.pointer (some a),.int .u64 150]]).run Tryz.prog W = .ok (.bool false) W:=by
 rw [rlm];simp only [Sem.run_bind,DC,Result.andThen];simp [ReflectliteValue.isNil,loadVar,isAgg,underlying,Tryz.underlying93,ha,Result.andThen]
theorem xd(h:Value)(w:World):(Go.method 488 183 (.agg #[h]) "Elem").run Tryz.prog w = .ok (274,.agg #[h]) w:=by kernel_rfl
theorem kC(h:Value)(w:World):(Go.method 488 183 (.agg #[h]) "Implements").run Tryz.prog w = .ok (275,.agg #[h]) w:=by kernel_rfl
theorem gr(h:Value)(w:World):(Go.method 488 183 (.agg #[h]) "AssignableTo").run Tryz.prog w = .ok (272,.agg #[h]) w:=by kernel_rfl
theorem Lq(w:World):(ReflectliteType.method ReflectliteType.elem #[.agg #[.pointer (some ⟨2,93,none⟩)]]).run Tryz.prog w = .ok (.iface 183 (.agg #[.pointer (some ⟨2,41,none⟩)])) w:=by kernel_rfl
theorem sZ(w:World):(ReflectliteType.relation "Implements" ReflectliteType.implements_ #[.agg #[.pointer (some ⟨2,41,none⟩)],.iface 183 (.agg #[.pointer (some ⟨2,24,none⟩)])]).run Tryz.prog w = .ok (.bool true) w:=by kernel_rfl
theorem GH(v:Value)(w:World):(ReflectliteType.typeOf #[.iface 41 v]).run Tryz.prog w = .ok (.iface 183 (.agg #[.pointer (some ⟨2,41,none⟩)])) w:=by kernel_rfl
theorem tH(w:World):(ReflectliteType.relation "AssignableTo" ReflectliteType.assignableTo #[.agg #[.pointer (some ⟨2,41,none⟩)],.iface 183 (.agg #[.pointer (some ⟨2,41,none⟩)])]).run Tryz.prog w = .ok (.bool true) w:=by kernel_rfl
theorem Fc(n:Int)(w:World):(ReflectliteValue.unpack (.iface 41 (.int .i64 n))).run Tryz.prog w
 = .ok (.agg #[.pointer (some ⟨2,41,none⟩),.pointer (some ⟨w.heap.size,0,none⟩),.int .u64 130]) (w.alloc (.cells #[.int .i64 n] 41)):=by kernel_rfl
theorem Hh(w:World):(Rtype.elem? 93).run Tryz.prog w = .ok (some 41) w:=by kernel_rfl
theorem mkE(p:Addr)(w:World):(ReflectliteValue.mk 41 p ReflectliteValue.flagAddr).run Tryz.prog w = .ok (.agg #[.pointer (some ⟨2,41,none⟩),.pointer (some p),.int .u64 386]) w:=by kernel_rfl
theorem J1(a p:Addr)(W:World)(ha:W.cell? a=some (.pointer (some p))):
 (ReflectliteValue.method (ReflectliteValue.valueError "reflectlite.Value.Elem" 0) ReflectliteValue.elem #[.agg #[.pointer (some ⟨2,93,none⟩),.pointer (some a),.int .u64 150]]).run Tryz.prog W
  = .ok (.agg #[.pointer (some ⟨2,41,none⟩),.pointer (some p),.int .u64 386]) W:=by
 rw [rlm];simp only [Sem.run_bind,DC,Result.andThen];simp [ReflectliteValue.elem,loadVar,isAgg,underlying,Tryz.underlying93,ha,Result.andThen,Hh,mkE]
theorem rls(v x:Value):ReflectliteValue.set #[v,x]=(do
 let (some (dst,a,fl),some (src,b,_)):=(<-ReflectliteValue.parts v,<-ReflectliteValue.parts x)
  | unsupported (.noEntry "extern/(internal/reflectlite.Value).Set.zeroValue")
 if fl / ReflectliteValue.flagAddr % 2==0 then unsupported (.noEntry "extern/(internal/reflectlite.Value).Set.unaddressable")
 let val <-loadVar src b
 if <-Rtype.directlyAssignable dst src then storeVar dst a val
 else if <-Rtype.implements dst src then
  if(<-Rtype.kind src)==20 then
   match val with
   | .nilIface=>unsupported (.noEntry "extern/reflectlite: a nil value of one interface type handed on as a value of another")
   | _=>storeVar dst a val
  else storeVar dst a (.iface src val)
 else panicString ("reflectlite.Set: value of type " ++(<-Rtype.spelt src)++ " is not assignable to type " ++(<-Rtype.spelt dst))
 pure (.tuple #[])):=rfl
theorem Io(a:Addr)(w:World):(ReflectliteValue.parts (.agg #[.pointer (some ⟨2,41,none⟩),.pointer (some a),.int .u64 386])).run Tryz.prog w = .ok (some (41,a,386)) w:=by kernel_rfl
theorem J3(a:Addr)(w:World):(ReflectliteValue.parts (.agg #[.pointer (some ⟨2,41,none⟩),.pointer (some a),.int .u64 130])).run Tryz.prog w = .ok (some (41,a,130)) w:=by kernel_rfl
theorem GE(w:World):(Rtype.directlyAssignable 41 41).run Tryz.prog w = .ok true w:=by kernel_rfl
theorem Jq(ta b:Addr)(n:Int)(old:Value)(W:World)(hb:W.cell? b=some (.int .i64 n))(ht:W.cell? ta=some old)(hf:W.frozen? ta=false):
 (ReflectliteValue.set #[.agg #[.pointer (some ⟨2,41,none⟩),.pointer (some ta),.int .u64 386],.agg #[.pointer (some ⟨2,41,none⟩),.pointer (some b),.int .u64 130]]).run Tryz.prog W
  = .ok (.tuple #[]) (W.setCell ta (.int .i64 n)):=by
 rw [rls];simp only [Sem.run_bind,Io,J3,Result.andThen];simp [ReflectliteValue.flagAddr,loadVar,isAgg,underlying,Tryz.underlying41,hb,Result.andThen,GE,storeVar,Value.cells,storeCells,Addr.add];rw [run_store Tryz.prog W ta _ _ (by rfl)];simp [ht,hf]
theorem sn(n:Int)(t:Addr)(old:Value)(w:World)(hg:w.cell? ⟨0,0,none⟩=some (.iface 183 (.agg #[.pointer (some ⟨2,24,none⟩)])))(M9:w.cell? t=some old)(hf0:w.frozen? t=false):
 Calls Tryz.prog 48 #[.iface 41 (.int .i64 n),.iface 93 (.pointer (some t))] w λev w'=>ev = .returned (.bool true)/\w'=(((((w.alloc (.cells #[.pointer (some t)] 93)).alloc (.cells #[.pointer (some ⟨2,93,none⟩),.pointer (some ⟨w.heap.size,0,none⟩),.int .u64 150] 137)).alloc (.cells #[.pointer (some ⟨2,93,none⟩),.pointer (some ⟨w.heap.size,0,none⟩),.int .u64 150] 137)).alloc (.cells #[.int .i64 n] 41)).setCell t (.int .i64 n)):=by
 have h6:=@run_callFunc_extern Tryz.prog 85 _ (λargs=>ReflectliteValue.unpack (args.getD 0 (.tuple #[]))) Tryz.func85 (by kernel_rfl) (by kernel_rfl) (by kernel_rfl) (by kernel_rfl);have h7:=@run_callFunc_extern Tryz.prog 86 _ (ReflectliteValue.methodAny (ReflectliteValue.valueError "reflectlite.Value.Type" 0) (λt _ _ _=>ReflectliteType.toType t)) Tryz.func86 (by kernel_rfl) (by kernel_rfl) (by kernel_rfl) (by kernel_rfl)
 have h8:=@run_callFunc_extern Tryz.prog 87 _ (ReflectliteValue.method (ReflectliteValue.valueError "reflectlite.Value.IsNil" 0) ReflectliteValue.isNil) Tryz.func87 (by kernel_rfl) (by kernel_rfl) (by kernel_rfl) (by kernel_rfl)
 have h27:=@run_callFunc_extern Tryz.prog 264 _ (ReflectliteType.abiMethod λt=>do pure (.int .u8 (<-Rtype.kind t))) Tryz.func264 (by kernel_rfl) (by kernel_rfl) (by kernel_rfl) (by kernel_rfl);have h37:=@run_callFunc_extern Tryz.prog 274 _ (ReflectliteType.method ReflectliteType.elem) Tryz.func274 (by kernel_rfl) (by kernel_rfl) (by kernel_rfl) (by kernel_rfl);have h38:=@run_callFunc_extern Tryz.prog 275 _ (ReflectliteType.relation "Implements" ReflectliteType.implements_) Tryz.func275 (by kernel_rfl) (by kernel_rfl) (by kernel_rfl) (by kernel_rfl)
 have h10:=@run_callFunc_extern Tryz.prog 127 _ (ReflectliteType.typeOf) Tryz.func127 (by kernel_rfl) (by kernel_rfl) (by kernel_rfl) (by kernel_rfl);have h35:=@run_callFunc_extern Tryz.prog 272 _ (ReflectliteType.relation "AssignableTo" ReflectliteType.assignableTo) Tryz.func272 (by kernel_rfl) (by kernel_rfl) (by kernel_rfl) (by kernel_rfl)
 have h11:=@run_callFunc_extern Tryz.prog 128 _ (ReflectliteValue.method (ReflectliteValue.valueError "reflectlite.Value.Elem" 0) ReflectliteValue.elem) Tryz.func128 (by kernel_rfl) (by kernel_rfl) (by kernel_rfl) (by kernel_rfl)
 have h12:=@run_callFunc_extern Tryz.prog 129 _ (ReflectliteValue.set) Tryz.func129 (by kernel_rfl) (by kernel_rfl) (by kernel_rfl) (by kernel_rfl);have tO:=GH;have mA:=gr;have a25:=tH;have v25:=Fc;have f6:=FK;have f7:=LG;have mK:=yc;have mE:=xd;have mI:=kC;have k27:=Lz;have k25:=Lr;have e27:=Lq;have i25:=sZ;have n8:=JK ⟨w.heap.size,0,none⟩ t ((w.alloc (.cells #[.pointer (some t)] 93)).alloc (.cells #[.pointer (some ⟨2,93,none⟩),.pointer (some ⟨w.heap.size,0,none⟩),.int .u64 150] 137)) (by simp);have hlt:0<w.heap.size:=by
  rcases Nat.eq_zero_or_pos w.heap.size with h0|h
  ·simp [World.cell?,h0] at hg
  ·exact h
 have hg2:((w.alloc (.cells #[.pointer (some t)] 93)).alloc (.cells #[.pointer (some ⟨2,93,none⟩),.pointer (some ⟨w.heap.size,0,none⟩),.int .u64 150] 137)).cell? ⟨0,0,none⟩=some (.iface 183 (.agg #[.pointer (some ⟨2,24,none⟩)])):=by
  rw [World.cell?_alloc_lt _ _ ⟨0,0,none⟩ (by simp),World.cell?_alloc_lt _ _ ⟨0,0,none⟩ hlt];exact hg
 have htl:t.block<w.heap.size:=by
  rcases Nat.lt_or_ge t.block w.heap.size with h|h
  ·exact h
  ·simp [World.cell?,Array.getElem?_eq_none h] at M9
 have el:=J1 ⟨w.heap.size,0,none⟩ t (((w.alloc (.cells #[.pointer (some t)] 93)).alloc (.cells #[.pointer (some ⟨2,93,none⟩),.pointer (some ⟨w.heap.size,0,none⟩),.int .u64 150] 137)).alloc (.cells #[.pointer (some ⟨2,93,none⟩),.pointer (some ⟨w.heap.size,0,none⟩),.int .u64 150] 137)) (by rw [World.cell?_alloc_lt _ _ ⟨w.heap.size,0,none⟩ (by simp;omega)];simp);have st:=Jq t ⟨w.heap.size+1+1+1,0,none⟩ n old ((((w.alloc (.cells #[.pointer (some t)] 93)).alloc (.cells #[.pointer (some ⟨2,93,none⟩),.pointer (some ⟨w.heap.size,0,none⟩),.int .u64 150] 137)).alloc (.cells #[.pointer (some ⟨2,93,none⟩),.pointer (some ⟨w.heap.size,0,none⟩),.int .u64 150] 137)).alloc (.cells #[.int .i64 n] 41))
  (by rw [World.cell?_alloc_at _ _ _ _ (by simp)];rfl)
  (by rw [World.cell?_alloc_lt _ _ t (by simp;omega),World.cell?_alloc_lt _ _ t (by simp;omega),World.cell?_alloc_lt _ _ t (by simp;omega),World.cell?_alloc_lt _ _ t htl];exact M9)
  (by rw [World.frozen?_alloc_old _ _ t (by simp;omega),World.frozen?_alloc_old _ _ t (by simp;omega),World.frozen?_alloc_old _ _ t (by simp;omega),World.frozen?_alloc_old _ _ t (Nat.ne_of_lt htl)];exact hf0)
 go_enter Tryz.func48,Tryz.ntmps48;go_wp2;refine wp_loop_rounds 1 ?_;rw [rounds_succ];go_wp2;go_ret;exact⟨rfl,rfl⟩
end Go.Proofs.YtokiogmfgpidmaaGreatDoor
namespace Go.Proofs.YtokiogmfgpidmaaGreatDoor
open Go.RowKit
def aD(w:World):Prop:=w.cell? ⟨0,0,none⟩=some (.iface 183 (.agg #[.pointer (some ⟨2,24,none⟩)]))
theorem aD.keep{w w':World}(h:aD w)(hb:Below w.heap.size w w'):aD w':=za hb h
theorem aD.pos{w:World}(h:aD w):0<w.heap.size:=block_lt_of_cell h
theorem aD.alloc{w:World}(h:aD w)(o:Obj):aD (w.alloc o):=h.keep ((Below.refl _ _).alloc (Nat.le_refl _) _)
theorem aD.drewN{w:World}(h:aD w)(n:Nat):aD (w.drewN n):=h
theorem aD.drew{w:World}(h:aD w):aD w.drew:=h
theorem FM(w:World):Calls Tryz.prog 25 #[.nilIface] w λe w'=>e = .returned (.int .i64 0)/\Below w.heap.size w w':=by
 go_enter Tryz.func25,Tryz.ntmps25;go_wp2;go_ret;exact⟨rfl,Below.refl _ _⟩
theorem DI(n:Int)(w:World)(hg:aD w):Calls Tryz.prog 25 #[.iface 41 (.int .i64 n)] w λe w'=>e = .returned (.int .i64 n)/\Below w.heap.size w w':=by
 have h1:=hg.alloc (.cells #[.int .i64 0] 41);have c1:=sn n ⟨w.heap.size,0,none⟩ (.int .i64 0) (w.alloc (.cells #[.int .i64 0] 41)) h1 (by simp) (by simp);have C1:=O c1;clear c1 h1;go_enter Tryz.func25,Tryz.ntmps25;go_wp2_with (go_at_call 48;refine C1.o.mono ?_;rintro e w' ⟨rfl,rfl⟩);go_ret;refine⟨rfl,?_⟩;exact(by(repeat' (first|exact Below.refl _ _|refine Below.alloc ?_ ?_ _|refine Below.setCell ?_ ?_ _|refine Below.drew ?_|refine Below.drewN ?_ _))<;>(try simp)<;> omega)
theorem gK(n:Int)(w:World)(hg:aD w):Calls Tryz.prog 25 #[jr n] w λe w'=>e = .returned (.int .i64 n)/\Below w.heap.size w w':=by
 by_cases h:n=0
 ·subst h;exact FM w
 ·rw [zn h];exact DI n w hg
theorem wR(n k:Int)(w:World)(hg:aD w):Calls Tryz.prog 11 #[jr n,.int .i64 k] w λe w'=>e = .returned (.bool (n==k))/\Below w.heap.size w w':=by
 have C1:=O (gK n w hg);go_enter Tryz.func11,Tryz.ntmps11;go_wp2_with (go_at_call 25;refine C1.o.mono ?_;rintro e w' ⟨rfl,hb⟩);go_ret;exact⟨rfl,hb⟩
theorem BH(n k:Int)(w:World)(hg:aD w):Calls Tryz.prog 31 #[jr n,jr k] w λe w'=>e = .returned (.bool (n==k))/\Below w.heap.size w w':=by
 have C1:=O (gK n w hg);have C2:=O (λw1 hb=>gK k w1 (hg.keep (w':=w1) hb));go_enter Tryz.func31,Tryz.ntmps31;go_wp2_with fail;refine C1.o.mono ?_;rintro e w1 ⟨rfl,hb⟩;go_wp2_with fail;refine(C2.o w1 hb).mono ?_;rintro e w2 ⟨rfl,hb2⟩;go_wp2;go_ret;exact⟨rfl,hb.trans (hb2.mono hb.size)⟩
end Go.Proofs.YtokiogmfgpidmaaGreatDoor
namespace Go.Proofs.YtokiogmfgpidmaaGreatDoor
open Go.RowKit Go.Wk Go.Sort
def ie(w:World)(B:Nat->Prop)(x:Ex)(e:Ending)(w':World):Prop :=
 ∃(o n:Int) (s t:ByteArray) (A:Option Addr) (m c:Nat) (b:Bool),e = .returned (.tuple #[.agg #[.int .i64 o,.int .i64 n,.string s,.string t,.slice A m c],.bool b])/\
  (b=true->∃y,jN [] false x=some y/\PAt w' (λb=>B b\/w.heap.size<=b) y [.int .i64 o,.int .i64 n,.string s,.string t,.slice A m c])/\(b=false->jN [] false x=none)/\Below w.heap.size w w'
def Ee:Prop:=∀(x:Ex) (f:Bool),x.valid f->x.flat.length<=200->∀(u:List Value) (w:World) (B:Nat->Prop),(∀b,B b->b<w.heap.size)->PAt w B x u->aD w->
 Calls Tryz.prog 35 #[.agg #[.slice none 0 0,.bool false],.agg u.toArray] w (ie w B x)
def Ad(w:World)(B:Nat->Prop)(x:Ex)(e:Ending)(w':World):Prop :=
 ∃(o n:Int) (s t:ByteArray) (A:Option Addr) (m c:Nat),e = .returned (.agg #[.int .i64 o,.int .i64 n,.string s,.string t,.slice A m c])/\
  PAt w' (λb=>B b\/w.heap.size<=b) x [.int .i64 o,.int .i64 n,.string s,.string t,.slice A m c]/\Below w.heap.size w w'
def I8(N:Nat):Prop:=∀(x:Ex) (f:Bool),x.flat.length<=N->x.flat.length<=200->x.valid f->∀(u:List Value) (w:World) (B:Nat->Prop),(∀b,B b->b<w.heap.size)->PAt w B x u->aD w->
 Calls Tryz.prog 17 #[.agg #[.slice none 0 0,.bool false],.agg u.toArray] w (Ad w B (jC [] false x))
structure BLp(w wr:World)(B:Nat->Prop)(nd:Nd)(sl:Value)(E:List Pe)(pv:Value):Prop where
 X0:wr.cell? ⟨w.heap.size,0,none⟩=some (.slice none 0 0)
 X1:wr.cell? ⟨w.heap.size,1,none⟩=some (.bool false)
 R4:Bx5 wr (w.heap.size+2) (.int .i64 0) (.int .i64 0) (.string ⟨#[]⟩) (.string ⟨#[]⟩) (.slice none 0 0)
 Q5:Bx5 wr (w.heap.size+3) (.int .i64 nd.op) (.int .i64 nd.n) (.string nd.s) (.string nd.t) pv
 R:dl wr (w.heap.size+4) (λb=>B b\/w.heap.size+4<=b) pv E
 G:Below w.heap.size w wr
 z:w.heap.size+4<=wr.heap.size
theorem BLp.keep{w wr w':World}{B:Nat->Prop}{nd:Nd}{sl:Value}{E:List Pe}{pv:Value}(h:BLp w wr B nd sl E pv)(hb:Below wr.heap.size wr w'):BLp w w' B nd sl E pv :=
 ⟨za hb h.X0,za hb h.X1,h.R4.keep hb,h.Q5.keep hb,h.R.keepN (zj hb none),h.G.trans (hb.mono h.G.size),Nat.le_trans h.z hb.size⟩
theorem BLp.next{w w6 w7:World}{B:Nat->Prop}{nd:Nd}{sl:Value}{E:List Pe}{v v':Value}{z:Pe}(h:BLp w w6 B nd sl E v)(hB:∀b,B b->b<w.heap.size)(hrow:dl w7 (w.heap.size+4) (λb=>B b\/w.heap.size+4<=b) v' (E ++ [z]))(hg:w6.grownBy w7 v.ownBlock):
 Bx5 w7 (w.heap.size+3) (.int .i64 nd.op) (.int .i64 nd.n) (.string nd.s) (.string nd.t) v/\BLp w (w7.setCell ⟨w.heap.size+3,4,none⟩ v') B nd sl (E ++ [z]) v':=by
 have hv:∀k,v.ownBlock=some k->w.heap.size+4<=k:=λk hk=>(h.R.own.lt k hk).1;have hn:∀b,b<w.heap.size+4->some b≠v.ownBlock:=λb hb e=>by have:=hv b e.symm;omega
 have gs:w7.grownBy (w7.setCell ⟨w.heap.size+3,4,none⟩ v') (some (w.heap.size+3)):=zB w7 ⟨w.heap.size+3,4,none⟩ v';have K7:=h.Q5.but hg (hn _ (by omega));have G7:Below w.heap.size w w7:=by
  refine h.G.trans ?_;rcases hv2:v.ownBlock with _|k
  ·rw [hv2] at hg;exact⟨hg.os,hg.tape,hg.output,hg.size,λi hi=>hg.block i (Nat.lt_of_lt_of_le hi h.G.size) (λe=>nomatch e)⟩
  ·rw [hv2] at hg;exact jj hg (by have:=hv k hv2;omega) h.G.size
 have ne0:some w.heap.size≠some (w.heap.size+3):=λe=>by injection e with e;omega
 refine⟨K7,gs.cell (hg.cell h.X0 (hn w.heap.size (by omega))) ne0,gs.cell (hg.cell h.X1 (hn w.heap.size (by omega))) ne0,(h.R4.but hg (hn _ (by omega))).but gs (λe=>by injection e with e;omega),K7.set4 v',?_,?_,?_⟩
 ·refine hrow.keep gs (by omega) λhd=>?_;have hd':B (w.heap.size+3)\/w.heap.size+4<=w.heap.size+3:=hd;rcases hd' with hd|hd
  ·have:=hB _ hd;omega
  ·omega
 ·exact G7.trans (jj gs (by omega) G7.size)
 ·have:=Nat.le_trans h.z hg.size;simpa [World.setCell] using this
theorem nw:∀ps:Exs,exL (zY [] false ps)=(exL ps).map (jC [] false)
 | .nil=>by rw [zY];rfl
 | .cons x r=>by rw [zY,exL,exL,List.map_cons,nw r]
theorem pD{m:Nat}{y:Ex}(h:jW y=none):jR m y=y:=by
 cases m with
 | zero=>rfl
 | succ m=>rw [jR,h]
theorem uk{p:Nat->Prop}:∀n,p n->∃n,p n/\∀m,p m->n<=m:=λn=>by
 induction n using Nat.strongRecOn with
 | _ n ih =>
  intro h
  by_cases hm:∃m,m<n/\p m
  ·obtain⟨m,h1,h2⟩:=hm
   exact ih m h1 h2
  ·exact⟨n,h,λm h2=>Nat.le_of_not_lt λh1=>hm ⟨m,h1,h2⟩⟩
open Classical in
noncomputable def kc(p:Nat->Prop):Nat:=if h:∃n,p n/\∀m,p m->n<=m then Classical.choose h else 0
theorem mG{p:Nat->Prop}{n:Nat}(h:p n):p (kc p)/\∀m,p m->kc p<=m:=by
 unfold kc;rw [dif_pos (uk n h)];exact Classical.choose_spec (uk n h)
theorem pM{k:Nat}:∀ {m:Nat} {y:Ex},jW (jR m y)=none->jR (m+k) y=jR m y
 | 0,y,h=>pD (y:=y) h
 | m+1,y,h=>by
  rw [show m+1+k=m+k+1 by omega,jR,jR]
  cases hz:jW y with
  | none=>rfl
  | some z =>
   rw [jR,hz] at h
   exact pM h
theorem JS{n:Nd}(h:jA true n=true):n.op=7:=by
 unfold jA at h;simp at h;exact h.2
theorem Hl{y:Ex}(hv:y.valid true):jW y=none:=by
 obtain⟨n,ps⟩:=y;rw [Ex.valid] at hv;have h7:=JS hv.1;exact uQ (by omega) (by omega) (by omega) (by omega)
theorem Ar{f:Bool}{y z:Ex}(hv:y.valid f)(h:jW y=some z):z.valid f/\z.flat.length<y.flat.length/\jR y.flat.length y=jR z.flat.length z:=by
 cases f with
 | true=>rw [Hl hv] at h;cases h
 | false =>
  obtain⟨-,h1,h2⟩:=wT cN hv h
  refine⟨h1,h2,?_⟩
  obtain⟨k,hk⟩:∃k,y.flat.length=z.flat.length+k+1:=⟨y.flat.length-z.flat.length-1,by omega⟩
  rw [hk,jR,h]
  exact pM (pE cN _ h1 (Nat.le_refl _))
theorem EY{nd:Nd}{ps:Exs}{f:Bool}(hv:(Ex.node nd ps).valid f)(hl:(Ex.node nd ps).flat.length<=200):(Ex.node nd (zY [] false ps)).valid f/\(Ex.node nd (zY [] false ps)).flat.length<=200:=by
 rw [Ex.valid] at hv;have hlen:=km cN (E := []) ps _ _ hv.2.2;rw [Ex.flat,List.length_cons] at hl;refine⟨?_,by rw [Ex.flat,List.length_cons];omega⟩;rw [Ex.valid];have hle:(zY [] false ps).len=ps.len:=by rw [<-dz,<-dz,nw,List.length_map]
 refine⟨hv.1,by rw [hle];exact hv.2.1,?_⟩
 cases hr:zP nd with
 | true =>
  rw [hr] at hv
  exact(qX (knows:=false) (E := []) cN (λh=>absurd h (by decide)) ps _ hv.2.2).2.1
 | false =>
  rw [hr] at hv
  exact(og (knows:=false) (E := []) cN (λh=>absurd h (by decide)) ps _ hv.2.2).2.1
structure GJ(w w':World)(B:Nat->Prop)(f:Bool)(X y:Ex):Prop where
 X0:w'.cell? ⟨w.heap.size,0,none⟩=some (.slice none 0 0)
 X1:w'.cell? ⟨w.heap.size,1,none⟩=some (.bool false)
 R4:Bx5 w' (w.heap.size+2) (.int .i64 0) (.int .i64 0) (.string ⟨#[]⟩) (.string ⟨#[]⟩) (.slice none 0 0)
 Q:∃(o n:Int) (s t:ByteArray) (A:Option Addr) (m c:Nat),Bx5 w' (w.heap.size+3) (.int .i64 o) (.int .i64 n) (.string s) (.string t) (.slice A m c)/\PAt w' (λb=>B b\/w.heap.size+4<=b) y [.int .i64 o,.int .i64 n,.string s,.string t,.slice A m c]
 v:y.valid f
 l:jR y.flat.length y=jR X.flat.length X
 h:y.flat.length<=200
 G:Below w.heap.size w w'
 z:w.heap.size+4<=w'.heap.size
theorem Ci(hw:Ee)(N:Nat)(ih:I8 N)(nd:Nd)(ps:Exs)(f:Bool)(A:Option Addr)(c:Nat)(w:World)(B:Nat->Prop)(hN:ps.flat.length<=N)(hM:(Ex.node nd ps).flat.length<=200)(hv:(Ex.node nd ps).valid f)(hB:∀b,B b->b<w.heap.size)(hno:er nd)(hc:ps.len<=c)(hp:jL w B A 0 ps)(hd:aD w):
 Calls Tryz.prog 17 #[.agg #[.slice none 0 0,.bool false],.agg #[.int .i64 nd.op,.int .i64 nd.n,.string nd.s,.string nd.t,.slice A ps.len c]] w (Ad w B (jC [] false (.node nd ps))):=by
 have HW:=O hw;have IH:=O ih;have lB:=O hB;have HK:=O hp;have HD:=O hd;have IQ:=O hno;have HV:=O hv;have Kp:=O hM;have HNN:=O hN;have ID:=O (show∀y∈exL ps,y.valid (zP nd) from d6 (by rw [Ex.valid] at hv;exact hv.2.2));have Lb:ps.flat.length<=200:=by rw [Ex.flat,List.length_cons] at hM;omega
 have Nk:=O Lb;have ym:ps.len<=200:=Nat.le_trans (am ps) Lb;obtain⟨m,hm⟩:∃m,m=ps.len:=⟨_,rfl⟩
 have HM:=O (hm.trans (dz ps).symm);rw [<-hm] at ym hc ⊢;obtain⟨XX,OA⟩:∃XX,XX=jC [] false (.node nd ps):=⟨_,rfl⟩
 rw [<-OA];have HXX:=O OA;have LP:=O (show BLp w ((((w.alloc (.cells #[.slice none 0 0,.bool false] 53)).alloc (.cells #[.int .i64 nd.op,.int .i64 nd.n,.string nd.s,.string nd.t,.slice A m c] 49)).alloc (.cells #[.int .i64 0,.int .i64 0,.string ⟨#[]⟩,.string ⟨#[]⟩,.slice none 0 0] 49)).alloc (.cells #[.int .i64 nd.op,.int .i64 nd.n,.string nd.s,.string nd.t,.slice none 0 0] 49)) B nd (.slice A m c) [] (.slice none 0 0) from by
  have b0:=zb w (.cells #[.slice none 0 0,.bool false] 53)
  have b1:=zb (w.alloc (.cells #[.slice none 0 0,.bool false] 53)) (.cells #[.int .i64 nd.op,.int .i64 nd.n,.string nd.s,.string nd.t,.slice A m c] 49)
  have b2:=zb ((w.alloc (.cells #[.slice none 0 0,.bool false] 53)).alloc (.cells #[.int .i64 nd.op,.int .i64 nd.n,.string nd.s,.string nd.t,.slice A m c] 49)) (.cells #[.int .i64 0,.int .i64 0,.string ⟨#[]⟩,.string ⟨#[]⟩,.slice none 0 0] 49)
  have b3:=zb (((w.alloc (.cells #[.slice none 0 0,.bool false] 53)).alloc (.cells #[.int .i64 nd.op,.int .i64 nd.n,.string nd.s,.string nd.t,.slice A m c] 49)).alloc (.cells #[.int .i64 0,.int .i64 0,.string ⟨#[]⟩,.string ⟨#[]⟩,.slice none 0 0] 49)) (.cells #[.int .i64 nd.op,.int .i64 nd.n,.string nd.s,.string nd.t,.slice none 0 0] 49)
  have x2:=jp ((w.alloc (.cells #[.slice none 0 0,.bool false] 53)).alloc (.cells #[.int .i64 nd.op,.int .i64 nd.n,.string nd.s,.string nd.t,.slice A m c] 49)) (.int .i64 0) (.int .i64 0) (.string ⟨#[]⟩) (.string ⟨#[]⟩) (.slice none 0 0) 49
  have x3:=jp (((w.alloc (.cells #[.slice none 0 0,.bool false] 53)).alloc (.cells #[.int .i64 nd.op,.int .i64 nd.n,.string nd.s,.string nd.t,.slice A m c] 49)).alloc (.cells #[.int .i64 0,.int .i64 0,.string ⟨#[]⟩,.string ⟨#[]⟩,.slice none 0 0] 49)) (.int .i64 nd.op) (.int .i64 nd.n) (.string nd.s) (.string nd.t) (.slice none 0 0) 49
  rw [show((w.alloc (.cells #[.slice none 0 0,.bool false] 53)).alloc (.cells #[.int .i64 nd.op,.int .i64 nd.n,.string nd.s,.string nd.t,.slice A m c] 49)).heap.size=w.heap.size+2 by simp] at x2
  rw [show(((w.alloc (.cells #[.slice none 0 0,.bool false] 53)).alloc (.cells #[.int .i64 nd.op,.int .i64 nd.n,.string nd.s,.string nd.t,.slice A m c] 49)).alloc (.cells #[.int .i64 0,.int .i64 0,.string ⟨#[]⟩,.string ⟨#[]⟩,.slice none 0 0] 49)).heap.size=w.heap.size+3 by simp] at x3
  have bb:=b1.trans ((b2.trans (b3.mono b2.size)).mono b1.size)
  exact⟨za bb (a7 w _ _ 0 rfl),za bb (a7 w _ _ 1 rfl),x2.keep b3,x3,dl.nil _ _ _,b0.trans (bb.mono b0.size),by simp⟩)
 clear hw ih hB hp hd hno hv hM hN hm OA Lb;have HVB:=O (show(Ex.node nd (zY [] false ps)).valid f/\(Ex.node nd (zY [] false ps)).flat.length<=200 from EY HV.o Kp.o);go_enter Tryz.func17,Tryz.ntmps17;go_wp2_with fail;refine wp_scope_jumps 0 (λa' w'=>(∃(u6 u7 u8 u9 u10 u11 u12 u13 u14 u15 u16 u17 u18 u19 u20 u21 u22 u23 u24 u25 u26 u27 u28 u29 u30 u31 u32 u33 u34 u35 u36 u37 u38 u39 u40 u41 u42 u43 u44 u45 u46:Value),a' = { tmps:=#[.agg #[.slice none 0 0,.bool false],.agg #[.int .i64 nd.op,.int .i64 nd.n,.string nd.s,.string nd.t,.slice A m c],.pointer (some ⟨w.heap.size,0,none⟩),.pointer (some ⟨w.heap.size+1,0,none⟩),.pointer (some ⟨w.heap.size+2,0,none⟩),.pointer (some ⟨w.heap.size+3,0,none⟩),u6,u7,u8,u9,u10,u11,u12,u13,u14,u15,u16,u17,u18,u19,u20,u21,u22,u23,u24,u25,u26,u27,u28,u29,u30,u31,u32,u33,u34,u35,u36,u37,u38,u39,u40,u41,u42,u43,u44,u45,u46],defers := [] })/\∃y,GJ w w' B f (.node nd (zY [] false ps)) y) (λ_ w'=>kc λn=>∃y,GJ w w' B f (.node nd (zY [] false ps)) y/\y.flat.length=n) rfl ?first ?pass
 case' first =>
  go_wp2_with fail;go_loopw [18] (λi wr=>∃(k:Nat) (E:List Pe) (pv:Value),i = .int .i64 k/\k<=m/\Hid (E.map Pe.x=((exL ps).take k).map (jC [] false))/\Hid (BLp w wr B nd (.slice A m c) E pv)) (λi _=>m-(intOf i).toNat)
  case atStart=>exact⟨0,[],_,rfl,Nat.zero_le _,O rfl,LP⟩
  case' round =>
   clear LP;obtain⟨k,E,pv,rfl,MP,hE,hL⟩:=hrel;by_cases hlt:k<m
   case pos =>
    have CW:k<(exL ps).length:=by rw [<-HM.o];exact hlt
    obtain⟨a,u,rfl,Mw,hr,hx⟩:=jL.at ps A 0 HK.o k _ (List.getElem?_eq_getElem CW);rw [Nat.zero_add] at hr;have MK:=O (List.getElem_mem CW);have Ag:=O (show∀z:Pe,z.x=jC [] false (exL ps)[k]->(E ++ [z]).map Pe.x=((exL ps).take (k+1)).map (jC [] false) from λz hz=>by
     rw [List.take_succ_eq_append_getElem CW,List.map_append,List.map_append,hE.o]
     simp [hz])
    have OZ:=O (show E.length<=1000000 by
     have:=congrArg List.length hE.o
     simp at this
     omega)
    obtain⟨y,hy⟩:∃y,y=(exL ps)[k]:=⟨_,rfl⟩
    rw [<-hy] at hx MK Ag;clear hy;obtain⟨o,n',s,t,A',m',c',rfl,q0,q1,q2,q3,q4⟩:=PAt.cells hr hx;obtain⟨A7,cp7,Ge,-,-,-⟩:=hL.o.R.pts (λb hb => .inr hb);obtain⟨ml,vR⟩:∃ml,ml=E.length:=⟨_,rfl⟩
    rw [<-vR] at Ge;subst Ge;have p0:=za hL.o.G q0;have p1:=za hL.o.G q1;have p2:=za hL.o.G q2;have p3:=za hL.o.G q3;have p4:=za hL.o.G q4;have bx:=zb wr (.cells #[.int .i64 o,.int .i64 n',.string s,.string t,.slice A' m' c'] 49);have bxd:=bx.trans ((bC _).mono bx.size);have LD:=O (hL.o.keep bxd);have RD:=O ((jp wr (.int .i64 o) (.int .i64 n') (.string s) (.string t) (.slice A' m' c') 49).keep (bC _));have Og:=O (show wr.heap.size+1<=(wr.alloc (.cells #[.int .i64 o,.int .i64 n',.string s,.string t,.slice A' m' c'] 49)).drew.heap.size by simp);have HX:=O hx;have hl4:=hL.o.z;have HL4:=O hl4;have HOW:=O (λg hg=>(hL.o.R.own.lt g hg));clear q0 q1 q2 q3 q4 hr hx Mw bx bxd vR;obtain⟨x0,x1,-,kq,-,-,-⟩:=LD.o;have kq4:=kq.c4;obtain⟨r0,r1,r2,r3,r4,-,-,-,-,-⟩:=RD.o;clear kq;go_wp2_with fail;refine wp_region_noPanic ?_;refine aE (λ(w':World)=>w'.cell? ⟨w.heap.size,0,none⟩=some (.slice none 0 0)/\w'.cell? ⟨w.heap.size,1,none⟩=some (.bool false)/\w'.cell? ⟨w.heap.size+3,4,none⟩=some (.slice A7 ml cp7)/\w'.cell? ⟨wr.heap.size,0,none⟩=some (.int .i64 o)/\w'.cell? ⟨wr.heap.size,1,none⟩=some (.int .i64 n')/\w'.cell? ⟨wr.heap.size,2,none⟩=some (.string s)/\w'.cell? ⟨wr.heap.size,3,none⟩=some (.string t)/\w'.cell? ⟨wr.heap.size,4,none⟩=some (Value.slice A' m' c')) 8 (by kernel_rfl) ⟨x0,x1,kq4,r0,r1,r2,r3,r4⟩ (λhHeld=>?_);obtain⟨wd,hwd⟩:∃wd,(wr.alloc (.cells #[.int .i64 o,.int .i64 n',.string s,.string t,.slice A' m' c'] 49)).drew=wd:=⟨_,rfl⟩
    rw [hwd] at LD RD Og hHeld ⊢;clear hwd x0 x1 kq4 r0 r1 r2 r3 r4 p0 p1 p2 p3 p4;refine zw 0 22 (.pointer (some ⟨w.heap.size+3,4,none⟩)) rfl (λw' hSw=>?_) hHeld ?_
    ·obtain⟨b0,b1,b2,a0,a1,a2,a3,a4⟩:=hSw;go_simp
    simp only [Act.put,zA];refine zw 1 23 (.slice A7 ml cp7) rfl (λw' hSw=>?_) hHeld ?_
    ·obtain⟨b0,b1,b2,a0,a1,a2,a3,a4⟩:=hSw;go_simp
    simp only [Act.put,zA];refine zw 2 24 (.agg #[.slice none 0 0,.bool false]) rfl (λw' hSw=>?_) hHeld ?_
    ·obtain⟨b0,b1,b2,a0,a1,a2,a3,a4⟩:=hSw;go_simp
    simp only [Act.put,zA];refine zw 3 25 (.agg #[.int .i64 o,.int .i64 n',.string s,.string t,.slice A' m' c']) rfl (λw' hSw=>?_) hHeld ?_
    ·obtain⟨b0,b1,b2,a0,a1,a2,a3,a4⟩:=hSw;go_simp
    simp only [Act.put,zA];refine zR (i:=4) (o:=⟨some 26,_,_,_,_,_⟩) (by kernel_rfl) rfl (λK' hK'=>?_);go_simp;go_at_call 17;refine(IH.o y (zP nd) (Nat.le_trans (gW ps y MK.o) HNN.o) (Nat.le_trans (gW ps y MK.o) Nk.o) (ID.o y MK.o) _ wd B (λb hb=>Nat.lt_of_lt_of_le (lB.o b hb) LD.o.G.size) (PAt.cong (λb hb=>LD.o.G.block b (lB.o b hb)) _ _ HX.o) (HD.o.keep LD.o.G)).mono ?_;rintro e w6 ⟨o6,n6,s6,t6,A6,m6,c6,rfl,Jh,b6⟩;have L6:=O (LD.o.keep b6);have R6:=O (RD.o.keep b6);have HX6:=O Jh;have HS6:=O b6.size;clear Jh b6 hHeld;go_wp2_with fail;refine hK'.out _ _ (λ_=>⟨L6.o.X0,L6.o.X1,L6.o.Q5.c4,R6.o.c0,R6.o.c1,R6.o.c2,R6.o.c3,R6.o.c4⟩) ?_;clear hK' K'
    try simp only [Act.put,zA]
    refine zR (i:=5) (o:=⟨some 27,_,_,_,_,_⟩) (by kernel_rfl) rfl (λK' hK'=>?_);go_simp;have b7:=zb w6 (.cells #[.int .i64 o6,.int .i64 n6,.string s6,.string t6,.slice A6 m6 c6] 49);have L7:=O (L6.o.keep b7);have R7:=O (R6.o.keep b7);have RN:=O (aA w6 [.int .i64 o6,.int .i64 n6,.string s6,.string t6,.slice A6 m6 c6] 49);have HS7:=O (show w6.heap.size<(w6.alloc (.cells #[.int .i64 o6,.int .i64 n6,.string s6,.string t6,.slice A6 m6 c6] 49)).heap.size by simp);have KK:=O (show PAt (w6.alloc (.cells #[.int .i64 o6,.int .i64 n6,.string s6,.string t6,.slice A6 m6 c6] 49)) (λb=>(B b\/w.heap.size+4<=b)/\some b≠(Value.slice A7 ml cp7).ownBlock) (jC [] false y) [.int .i64 o6,.int .i64 n6,.string s6,.string t6,.slice A6 m6 c6] from by
     have h1:=PAt.mono (B':=λb=>(B b\/wd.heap.size<=b)/\b<w6.heap.size) (λb h1 h2=>⟨h1,h2⟩) _ _ HX6.o
     refine PAt.mono (λb hb _=>?_) _ _ (PAt.cong (λb hb=>b7.block b hb.2) _ _ h1)
     rcases hb.1 with h|h
     ·exact⟨.inl h,λe=>by have h2:=(HOW.o b e.symm).1;have h3:=lB.o b h;omega⟩
     ·exact⟨.inr (by have:=Og.o;have:=HL4.o;omega),λe=>by have h2:=(HOW.o b e.symm).2;have:=Og.o;omega⟩)
    refine hK'.out _ _ (λ_=>⟨L7.o.X0,L7.o.X1,L7.o.Q5.c4,R7.o.c0,R7.o.c1,R7.o.c2,R7.o.c3,R7.o.c4⟩) ?_;obtain⟨w7,hw7⟩:∃w7,w6.alloc (.cells #[.int .i64 o6,.int .i64 n6,.string s6,.string t6,.slice A6 m6 c6] 49)=w7:=⟨_,rfl⟩
    rw [hw7] at L7 R7 RN HS7 KK ⊢;clear hK' K' b7 hw7 L6 R6
    try simp only [Act.put,zA]
    refine zR (i:=6) (o:=⟨some 28,_,_,_,_,_⟩) (by kernel_rfl) rfl (λK' hK'=>?_);refine nS rfl (.tmp 23) (.tmp 27) rfl (w.heap.size+4) (λb=>B b\/w.heap.size+4<=b) (.slice A7 ml cp7) E rfl L7.o.R ⟨jC [] false y,o6,n6,s6,t6,A6,m6,c6⟩ ⟨w6.heap.size,0,none⟩ 1 rfl RN.o KK.o OZ.o L7.o.z (λv' w8 hrow hg=>?_);obtain⟨K8,LN⟩:=L7.o.next lB.o hrow hg;have ow:=O LN;obtain⟨A9,cp9,hv',-,-,-⟩:=hrow.pts (λb hb => .inr hb);obtain⟨nl,Mb⟩:∃nl,nl=(E ++ [(⟨jC [] false y,o6,n6,s6,t6,A6,m6,c6⟩:Pe)]).length:=⟨_,rfl⟩
    rw [<-Mb] at hv';subst hv';have HN0:=O (show∀b,b<w.heap.size+4->some b≠(Value.slice A7 ml cp7).ownBlock from λb hb e=>by have:=(HOW.o b e.symm).1;omega);have ME:=O (show some wr.heap.size≠(Value.slice A7 ml cp7).ownBlock from λe=>by have:=(HOW.o _ e.symm).2;omega);have HK8:=O K8;have hHeld:w8.cell? ⟨w.heap.size,0,none⟩=some (.slice none 0 0)/\w8.cell? ⟨w.heap.size,1,none⟩=some (.bool false)/\w8.cell? ⟨w.heap.size+3,4,none⟩=some (.slice A7 ml cp7)/\w8.cell? ⟨wr.heap.size,0,none⟩=some (.int .i64 o)/\w8.cell? ⟨wr.heap.size,1,none⟩=some (.int .i64 n')/\w8.cell? ⟨wr.heap.size,2,none⟩=some (.string s)/\w8.cell? ⟨wr.heap.size,3,none⟩=some (.string t)/\w8.cell? ⟨wr.heap.size,4,none⟩=some (Value.slice A' m' c'):=⟨hg.cell L7.o.X0 (HN0.o w.heap.size (by omega)),hg.cell L7.o.X1 (HN0.o w.heap.size (by omega)),K8.c4,hg.cell R7.o.c0 ME.o,hg.cell R7.o.c1 ME.o,hg.cell R7.o.c2 ME.o,hg.cell R7.o.c3 ME.o,hg.cell R7.o.c4 ME.o⟩
    refine hK'.out _ _ (λ_=>hHeld) ?_;clear hK' K' hrow hg LN K8 Mb
    try simp only [Act.put,zA]
    refine zw 7 29 (.pointer (some ⟨w.heap.size+3,4,none⟩)) rfl (λw' hSw=>?_) hHeld ?_
    ·clear hSw;go_simp
    simp only [Act.put,zA];clear hHeld;obtain⟨k0,k1,k2,k3,k4,f0,f1,f2,f3,f4⟩:=HK8.o;refine zR (i:=8) (o:=⟨none,_,_,_,_,_⟩) (by kernel_rfl) rfl (λK' hK'=>?_);go_simp;refine hK'.out _ _ (λh=>absurd rfl h) ?_;clear hK' K';refine aF (by kernel_rfl) ?_;refine NoPanic.normal ?_
    try simp only [Act.put,zA]
    clear k0 k1 k2 k3 k4 f0 f1 f2 f3 f4;go_wp2_with fail;go_roundw
    case rel=>exact⟨k+1,E ++ [⟨jC [] false y,o6,n6,s6,t6,A6,m6,c6⟩],_,by go_num,hlt,O (Ag.o _ rfl),ow⟩
    case measure=>simp [intOf];omega
   case' neg =>
    have J8:k=m:=by omega
    subst J8;obtain⟨A7,cp7,Ge,yn,ou,Gf⟩:=hL.o.R.pts (λb hb => .inr hb);have hE2:lO E=zY [] false ps:=rh (by rw [oh,nw,hE.o,List.take_of_length_le (by rw [<-HM.o];exact Nat.le_refl _)]);rw [hE2] at yn;have hlen:E.length=(zY [] false ps).len:=by rw [<-hE2,mP]
    obtain⟨ml,vR⟩:∃ml,ml=E.length:=⟨_,rfl⟩
    rw [<-vR] at Ge ou hlen;subst Ge;have HJ:=O (show GJ w wr B f (.node nd (zY [] false ps)) (.node nd (zY [] false ps)) from⟨hL.o.X0,hL.o.X1,hL.o.R4,⟨_,_,_,_,_,_,_,hL.o.Q5,by
     rw [PAt]
     exact⟨IQ.o,A7,cp7,by rw [hlen],by rw [<-hlen];exact ou,Gf,yn⟩⟩,HVB.o.1,rfl,HVB.o.2,hL.o.G,hL.o.z⟩)
    clear yn ou Gf hE2 hlen vR;obtain⟨y,hy⟩:∃y,y=Ex.node nd (zY [] false ps):=⟨_,rfl⟩
    have HMU:=O (show True from trivial);have HJ2:=O (show GJ w wr B f (.node nd (zY [] false ps)) y from by rw [hy];exact HJ.o);clear hL hE hlt hy HJ;have HJ:=O HJ2.o;clear HJ2;go_wp2_with fail;go_step3
 case' pass =>
  clear LP;rintro a' wr ⟨⟨u6,u7,u8,u9,u10,u11,u12,u13,u14,u15,u16,u17,u18,u19,u20,u21,u22,u23,u24,u25,u26,u27,u28,u29,u30,u31,u32,u33,u34,u35,u36,u37,u38,u39,u40,u41,u42,u43,u44,u45,u46,rfl⟩,hj⟩;obtain⟨y0,hj⟩:=hj;obtain⟨⟨y,hj,Ld⟩,hmin⟩:=mG (p:=λn=>∃y,GJ w wr B f (.node nd (zY [] false ps)) y/\y.flat.length=n) ⟨y0,hj,rfl⟩;have HJ:=O hj;have HMU:=O (show∀(z:Ex) (w'':World),GJ w w'' B f (.node nd (zY [] false ps)) z->z.flat.length<y.flat.length->(kc λn=>∃y,GJ w w'' B f (.node nd (zY [] false ps)) y/\y.flat.length=n)<(kc λn=>∃y,GJ w wr B f (.node nd (zY [] false ps)) y/\y.flat.length=n) from λz w'' hz hlt=>by
   have h1:=(mG (p:=λn=>∃y,GJ w w'' B f (.node nd (zY [] false ps)) y/\y.flat.length=n) ⟨z,hz,rfl⟩).2 _ ⟨z,hz,rfl⟩
   omega)
  clear hj Ld hmin
 all_goals
  obtain⟨oy,ny,sy,ty,Ay,my,cy,hq5,Of⟩:=HJ.o.Q;have Q5:=O hq5;have HPY:=O Of;obtain⟨x0,x1,x2,x3,x4,-,-,-,-,-⟩:=hq5;have KL:=O (DT y f HJ.o.v _ wr (λb=>(B b\/w.heap.size+4<=b)/\b<wr.heap.size) (λb hb=>hb.2) (PAt.mono (λb h1 h2=>⟨h1,h2⟩) _ _ Of));clear Of;go_wp2_with fail;refine KL.o.mono ?_;rintro e w5 ⟨o2,n2,s2,t2,A2,m2,c2,b2,rfl,ql,hl2,b5⟩;have b6:=zb w5 (.cells #[.int .i64 o2,.int .i64 n2,.string s2,.string t2,.slice A2 m2 c2] 49);have b56:=b5.trans (b6.mono b5.size);have E0:=O (za b56 HJ.o.X0);have E1:=O (za b56 HJ.o.X1);have R6:=O (HJ.o.R4.keep b56);have Q6:=O (Q5.o.keep b56);have T6:=O (jp w5 (.int .i64 o2) (.int .i64 n2) (.string s2) (.string t2) (.slice A2 m2 c2) 49);have Gs:=O b56;have HZ6:=O (show(w5.alloc (.cells #[.int .i64 o2,.int .i64 n2,.string s2,.string t2,.slice A2 m2 c2] 49)).heap.size=w5.heap.size+1 by simp);have Ki:=O ql;have HL2:=O hl2;have HB5:=O b5;clear x0 x1 x2 x3 x4 KL ql hl2 b5 b6 b56;cases b2
  ·have KW:=O (HW.o y f HJ.o.v HJ.o.h _ (w5.alloc (.cells #[.int .i64 o2,.int .i64 n2,.string s2,.string t2,.slice A2 m2 c2] 49)) (λb=>(B b\/w.heap.size+4<=b)/\b<wr.heap.size) (λb hb=>Nat.lt_of_lt_of_le hb.2 Gs.o.size) (PAt.cong (λb hb=>Gs.o.block b hb.2) _ _ (PAt.mono (λb h1 h2=>⟨h1,h2⟩) _ _ HPY.o)) ((HD.o.keep HJ.o.G).keep Gs.o));have HYN:=O (HL2.o rfl);have e0:=E0.o;have e1:=E1.o;obtain⟨x0,x1,x2,x3,x4,-,-,-,-,-⟩:=Q6.o;go_wp2_with fail;refine KW.o.mono ?_;rintro e w7 ⟨o3,n3,s3,t3,A3,m3,c3,b3,rfl,vY,hw2,b7⟩;have b8:=zb w7 (.cells #[.int .i64 o3,.int .i64 n3,.string s3,.string t3,.slice A3 m3 c3] 49);have b78:=b7.trans (b8.mono b7.size);have R8:=O (R6.o.keep b78);have Q8:=O (Q6.o.keep b78);have T8:=O (jp w7 (.int .i64 o3) (.int .i64 n3) (.string s3) (.string t3) (.slice A3 m3 c3) 49);have B78:=O b78;have HB7:=O b7;have HS7:=O (show w7.heap.size<(w7.alloc (.cells #[.int .i64 o3,.int .i64 n3,.string s3,.string t3,.slice A3 m3 c3] 49)).heap.size by simp);have HW1:=O vY;have HW2:=O hw2;have HG8:=O (show Below w.heap.size w (w7.alloc (.cells #[.int .i64 o3,.int .i64 n3,.string s3,.string t3,.slice A3 m3 c3] 49)) from(HJ.o.G.trans (Gs.o.mono HJ.o.G.size)).trans (b78.mono (Nat.le_trans HJ.o.G.size Gs.o.size)));have HLZ:=O (show jR (Ex.node nd (zY [] false ps)).flat.length (.node nd (zY [] false ps))=y from by rw [<-HJ.o.l];exact pD HYN.o);clear e0 e1 x0 x1 x2 x3 x4 KW vY hw2 b7 b8 b78;obtain⟨q0,q1,q2,q3,q4,-,-,-,-,-⟩:=Q8.o;obtain⟨r0,r1,r2,r3,r4,z0,z1,z2,z3,z4⟩:=R8.o;obtain⟨t0,t1,t2',t3',t4,-,-,-,-,-⟩:=T8.o;cases b3
   ·have S8:=O (R8.o.set (.int .i64 oy) (.int .i64 ny) (.string sy) (.string ty) (.slice Ay my cy));have G8:=O (jH HG8.o (Nat.le_add_right w.heap.size 2) (.int .i64 oy) (.int .i64 ny) (.string sy) (.string ty) (.slice Ay my cy));have F8:=O (show PAt ((((((w7.alloc (.cells #[.int .i64 o3,.int .i64 n3,.string s3,.string t3,.slice A3 m3 c3] 49)).setCell ⟨w.heap.size+2,0,none⟩ (.int .i64 oy)).setCell ⟨w.heap.size+2,1,none⟩ (.int .i64 ny)).setCell ⟨w.heap.size+2,2,none⟩ (.string sy)).setCell ⟨w.heap.size+2,3,none⟩ (.string ty)).setCell ⟨w.heap.size+2,4,none⟩ (.slice Ay my cy)) (λb=>B b\/w.heap.size<=b) y [.int .i64 oy,.int .i64 ny,.string sy,.string ty,.slice Ay my cy] from by
     have h1:=PAt.mono (B':=λb=>(B b\/w.heap.size+4<=b)/\b<wr.heap.size) (λb h1 h2=>⟨h1,h2⟩) _ _ HPY.o
     refine PAt.mono (λb hb _=>hb.1.imp id (λh=>by omega)) _ _ (PAt.cong (λb hb=>?_) _ _ h1)
     refine(cV (w7.alloc (.cells #[.int .i64 o3,.int .i64 n3,.string s3,.string t3,.slice A3 m3 c3] 49)) (w.heap.size+2) _ _ _ _ _ (λe=>?_)).trans ((B78.o.block b (Nat.lt_of_lt_of_le hb.2 Gs.o.size)).trans (Gs.o.block b hb.2))
     rcases hb.1 with h|h
     ·have:=lB.o b h;omega
     ·omega)
    have Ga:=O (show XX=y from by rw [HXX.o,jC,kO,HLZ.o,HW2.o rfl]);go_wp2_with fail;obtain⟨s0,s1,s2',s3',s4,-,-,-,-,-⟩:=S8.o;exact bodyPost_ret (v := .agg #[.int .i64 oy,.int .i64 ny,.string sy,.string ty,.slice Ay my cy]) (by simp [results,Tryz.results17,go_sem,s0,s1,s2',s3',s4]) rfl ⟨_,_,_,_,_,_,_,rfl,by rw [Ga.o];exact F8.o,G8.o⟩
   ·obtain⟨z,hz1,hz2⟩:=HW1.o rfl;have Nt:=O hz1;have NZ:=O hz2;have S8:=O (R8.o.set (.int .i64 o3) (.int .i64 n3) (.string s3) (.string t3) (.slice A3 m3 c3));have G8:=O (jH HG8.o (Nat.le_add_right w.heap.size 2) (.int .i64 o3) (.int .i64 n3) (.string s3) (.string t3) (.slice A3 m3 c3));have F8:=O (show PAt ((((((w7.alloc (.cells #[.int .i64 o3,.int .i64 n3,.string s3,.string t3,.slice A3 m3 c3] 49)).setCell ⟨w.heap.size+2,0,none⟩ (.int .i64 o3)).setCell ⟨w.heap.size+2,1,none⟩ (.int .i64 n3)).setCell ⟨w.heap.size+2,2,none⟩ (.string s3)).setCell ⟨w.heap.size+2,3,none⟩ (.string t3)).setCell ⟨w.heap.size+2,4,none⟩ (.slice A3 m3 c3)) (λb=>B b\/w.heap.size<=b) z [.int .i64 o3,.int .i64 n3,.string s3,.string t3,.slice A3 m3 c3] from by
     have h1:=PAt.mono (B':=λb=>(((B b\/w.heap.size+4<=b)/\b<wr.heap.size)\/(w5.alloc (.cells #[.int .i64 o2,.int .i64 n2,.string s2,.string t2,.slice A2 m2 c2] 49)).heap.size<=b)/\b<w7.heap.size) (λb h1 h2=>⟨h1,h2⟩) _ _ NZ.o
     have hz4:=HJ.o.z
     have hz5:=Gs.o.size
     refine PAt.mono (λb hb _=>?_) _ _ (PAt.cong (λb hb=>?_) _ _ h1)
     ·rcases hb.1 with h|h
      ·exact h.1.imp id (λh=>by omega)
      ·exact .inr (by omega)
     ·refine(cV (w7.alloc (.cells #[.int .i64 o3,.int .i64 n3,.string s3,.string t3,.slice A3 m3 c3] 49)) (w.heap.size+2) _ _ _ _ _ (λe=>?_)).trans ((zb w7 _).block b hb.2)
      rcases hb.1 with h|h
      ·rcases h.1 with h|h
       ·have:=lB.o b h;omega
       ·omega
      ·omega)
    have Ga:=O (show XX=z from by rw [HXX.o,jC,kO,HLZ.o,Nt.o]);go_wp2_with fail;obtain⟨s0,s1,s2',s3',s4,-,-,-,-,-⟩:=S8.o;exact bodyPost_ret (v := .agg #[.int .i64 o3,.int .i64 n3,.string s3,.string t3,.slice A3 m3 c3]) (by simp [results,Tryz.results17,go_sem,s0,s1,s2',s3',s4]) rfl ⟨_,_,_,_,_,_,_,rfl,by rw [Ga.o];exact F8.o,G8.o⟩
  ·obtain⟨z,hz1,hz2⟩:=Ki.o rfl;have LS:=O (Ar HJ.o.v hz1);have hne:some w.heap.size≠some (w.heap.size+3):=λe=>by injection e with e;omega
   have IZ:some (w.heap.size+2)≠some (w.heap.size+3):=λe=>by injection e with e;omega
   have g9:=eo (w5.alloc (.cells #[.int .i64 o2,.int .i64 n2,.string s2,.string t2,.slice A2 m2 c2] 49)) (w.heap.size+3) (.int .i64 o2) (.int .i64 n2) (.string s2) (.string t2) (.slice A2 m2 c2);have NJ:=O (show GJ w ((((((w5.alloc (.cells #[.int .i64 o2,.int .i64 n2,.string s2,.string t2,.slice A2 m2 c2] 49)).setCell ⟨w.heap.size+3,0,none⟩ (.int .i64 o2)).setCell ⟨w.heap.size+3,1,none⟩ (.int .i64 n2)).setCell ⟨w.heap.size+3,2,none⟩ (.string s2)).setCell ⟨w.heap.size+3,3,none⟩ (.string t2)).setCell ⟨w.heap.size+3,4,none⟩ (.slice A2 m2 c2)) B f (.node nd (zY [] false ps)) z from⟨g9.cell E0.o hne,g9.cell E1.o hne,R6.o.but g9 IZ,⟨_,_,_,_,_,_,_,Q6.o.set (.int .i64 o2) (.int .i64 n2) (.string s2) (.string t2) (.slice A2 m2 c2),by
    refine PAt.mono (λb hb _=>hb.1) _ _ (PAt.cong (λb hb=>?_) _ _ hz2)
    refine(cV (w5.alloc (.cells #[.int .i64 o2,.int .i64 n2,.string s2,.string t2,.slice A2 m2 c2] 49)) (w.heap.size+3) _ _ _ _ _ (λe=>?_)).trans ((zb w5 _).block b (Nat.lt_of_lt_of_le hb.2 HB5.o.size))
    rcases hb.1 with h|h
    ·have:=lB.o b h;omega
    ·omega⟩,LS.o.1,LS.o.2.2.symm.trans HJ.o.l,Nat.le_trans (Nat.le_of_lt LS.o.2.1) HJ.o.h,jH (HJ.o.G.trans (Gs.o.mono HJ.o.G.size)) (Nat.le_add_right w.heap.size 3) (.int .i64 o2) (.int .i64 n2) (.string s2) (.string t2) (.slice A2 m2 c2),by
    have h1:=HJ.o.z
    have h2:=Gs.o.size
    simp only [World.setCell] at *
    simpa [World.setCell] using Nat.le_trans h1 h2⟩)
   clear hne IZ g9 hz1 hz2;obtain⟨q0,q1,q2,q3,q4,z0,z1,z2,z3,z4⟩:=Q6.o;obtain⟨t0,t1,t2',t3',t4,-,-,-,-,-⟩:=T6.o;go_wp2_with fail;go_step3
   first
    | exact⟨rfl,⟨_,_,_,_,_,_,_,_,_,_,_,_,_,_,_,_,_,_,_,_,_,_,_,_,_,_,_,_,_,_,_,_,_,_,_,_,_,_,_,_,_,rfl⟩,z,NJ.o⟩
    | exact⟨rfl,⟨⟨_,_,_,_,_,_,_,_,_,_,_,_,_,_,_,_,_,_,_,_,_,_,_,_,_,_,_,_,_,_,_,_,_,_,_,_,_,_,_,_,_,rfl⟩,z,NJ.o⟩,HMU.o z _ NJ.o LS.o.2.1⟩
theorem yN(hw:Ee):∀N,I8 N
 | 0=>λx _ h=>by have:=jh x;omega
 | N+1=>λx f h hM hv u w B hB hx hd=>by
  cases x with
  | node nd ps =>
   rw [PAt] at hx
   obtain⟨hno,A,c,rfl,hc,-,hp⟩:=hx
   rw [Ex.flat,List.length_cons] at h
   exact Ci hw N (yN hw N) nd ps f A c w B (by omega) hM hv hB hno hc hp hd
end Go.Proofs.YtokiogmfgpidmaaGreatDoor
namespace Go.Proofs.YtokiogmfgpidmaaGreatDoor
open Go.RowKit Go.Wk Go.Sort
structure Vn(w:World)(b:Nat)(x:Nd):Prop where
 c0:w.cell? ⟨b,0,none⟩=some (.int .i64 x.op)
 c1:w.cell? ⟨b,1,none⟩=some (.int .i64 x.n)
 c2:w.cell? ⟨b,2,none⟩=some (.string x.s)
 c3:w.cell? ⟨b,3,none⟩=some (.string x.t)
theorem Vn.keep{w w':World}{b:Nat}{x:Nd}(h:Vn w b x)(hb:Below w.heap.size w w'):Vn w' b x:=⟨za hb h.c0,za hb h.c1,za hb h.c2,za hb h.c3⟩
theorem FX(w:World)(x:Nd)(t:TypeId):Vn (w.alloc (.cells #[.int .i64 x.op,.int .i64 x.n,.string x.s,.string x.t] t)) w.heap.size x :=
 ⟨bE (heap_alloc_new w _) rfl,bE (heap_alloc_new w _) rfl,bE (heap_alloc_new w _) rfl,bE (heap_alloc_new w _) rfl⟩
theorem xM(t:List Nd)(s s':ByteArray):∀(c p:Nat),j6 t c false s p=j6 t c false s' p
 | 0,p=>by unfold j6;simp only [jq]
 | c+1,p=>by
  rcases h:t[p]? with _|y
  ·have hp:t.length<=p:=List.getElem?_eq_none_iff.1 h;rw [cX hp,cX hp]
  ·have e1:∀z,¬(false=true/\¬js z y.s<0):=λz q=>Bool.false_ne_true q.1;rw [cj h,cj h,if_neg (e1 s),if_neg (e1 s')]
theorem kT{t:List Nd}{s:ByteArray}{c p:Nat}:j6 t (c+1) false s p=if 0<=ju t p false then j6 t c false s (ju t p false).toNat else -1:=by
 rcases h:t[p]? with _|y
 ·have hp:t.length<=p:=List.getElem?_eq_none_iff.1 h;rw [cX hp,i7 hp];rfl
 ·rw [cj h,if_neg (λq=>absurd q.1 Bool.false_ne_true),xM t y.s s]
theorem vx{f:Bool}{x:Nd}(h:jd x=false):jA f x=false:=by unfold jA;rw [h];rfl
theorem uz{f:Bool}{x:Nd}(h:jd x=true):jA f x=(decide (x.op=7)==f):=by unfold jA;rw [h];rfl
theorem pO{x:Nd}(h:er x):zt x<=9223372036854775807:=by
 unfold zt;have:=h.hi;split
 ·exact this
 ·repeat' (first|split|omega)
def TbC(P:List Nd)(A:Option Addr)(n c m:Nat):Prop:=∀(p:Nat) (f:Bool) (w:World),Ns w A n c P->n-p<=m->
 Calls Tryz.prog 32 #[.slice A n c,.int .i64 p,.bool f] w λe w'=>e = .returned (.int .i64 (ju P p f))/\Below w.heap.size w w'
theorem DR(P:List Nd)(A:Option Addr)(n c p:Nat)(f:Bool)(w:World)(h:Ns w A n c P)(hp:n<=p):
 Calls Tryz.prog 32 #[.slice A n c,.int .i64 p,.bool f] w λe w'=>e = .returned (.int .i64 (ju P p f))/\Below w.heap.size w w':=by
 have HR:=O (i7 (t:=P) (p:=p) (f:=f) (by rw [<-h.len];exact hp));have f0:decide ((n:Int)<=(p:Int))=true:=decide_eq_true (by omega);have f1:decide ((p:Int)<0)=false:=decide_eq_false (by omega);clear h;go_enter Tryz.func32,Tryz.ntmps32;go_wp2_with fail;go_ret;exact⟨by rw [HR.o];rfl,Below.refl _ _⟩
theorem Hu(P:List Nd)(m:Nat)(a:Addr)(n c q:Nat)(f:Bool)(w:World)(ih:TbC P (some a) n c m)(fa:Ns w (some a) n c P)(hq:q<n)(hf:n-q<=m+1):
 Calls Tryz.prog 32 #[.slice (some a) n c,.int .i64 q,.bool f] w λe w'=>e = .returned (.int .i64 (ju P q f))/\Below w.heap.size w w':=by
 have hm:=fa.max;unfold maxLen at hm;have vS:=O fa;have ow:=O fa.len;have Kb:q<P.length:=by rw [<-fa.len];exact hq
 have IP:=List.getElem?_eq_getElem Kb;have ee:=fa.ok _ (List.getElem_mem Kb);have IH:=O (λp g w' (hp:q<p) hb=>ih p g w' (fa.keep (w':=w') hb) (by omega));obtain⟨a',ea,d0,d1,d2,d3⟩:=fa.at_ q _ IP;injection ea with ea;subst ea;have CS:=O (uO P[q] w ee);have CP:=O (λw=>eD P[q] w);have hpl:=pO ee;obtain⟨x,hx⟩:∃x,x=P[q]:=⟨_,rfl⟩
 rw [<-hx] at IP ee d0 d1 d2 d3 CS CP hpl;have HX:=O IP;clear hx IP fa ih ee;have Ga:=O (show Nd4 w (a.add (q*4)) x from⟨d0,d1,d2,d3⟩);unfold ndV at CS CP;have f0:decide (n<=q)=false:=decide_eq_false (by omega);have f1:decide ((q:Int)<0)=false:=decide_eq_false (by omega);by_cases sK:jd x=true
 ·rw [sK] at CS;have HH:=O (uz (f:=f) sK);have Ms:=O (gw sK);clear sK;go_enter Tryz.func32,Tryz.ntmps32;go_wp2_with fail;refine CS.o.mono ?_;rintro e w1 ⟨rfl,b1⟩;have B1:=O b1;have Gn:=O (Ga.o.keep b1);obtain⟨e0,e1,e2,e3⟩:=Gn.o;clear b1 CS Ga d0 d1 d2 d3;have he:(x.op==7)=decide (x.op=7):=rfl;by_cases hh:(decide (x.op=7)==f)=true
  ·have HE:=O (show ju P q f=j6 P (zt x).toNat (zP x) emp (q+1) from kg HX.o (HH.o.trans hh));have f2:(!(x.op==7)==f)=false:=by rw [he];revert hh;cases decide (x.op=7)<;> cases f <;> simp
   obtain⟨M,hM⟩:∃M:Nat,zt x=(M:Int):=⟨(zt x).toNat,by have:=Ms.o;omega⟩
   rw [hM] at CP hpl;rw [hM,Int.toNat_natCast] at HE;have B2:=O (B1.o.trans ((zb w1 (.cells #[.int .i64 x.op,.int .i64 x.n,.string x.s,.string x.t] 28)).mono B1.o.size));have V2:=O (FX w1 x 28);clear hh he hM HH Ms HX;go_wp2_with fail;refine(CP.o _).mono ?_;rintro e w2 ⟨rfl,b2⟩;have B3:=bh B2 b2;have V3:=O (V2.o.keep b2);clear b2 B2 V2 e0 e1 e2 e3 Gn B1 CP;go_wp2_with fail;go_loopw [1,8,43] (λu l i wr=>∃(k p:Nat) (last:ByteArray),u = .int .i64 p/\l = .string last/\i = .int .i64 k/\k<=M/\q<p/\p<=n/\Hid (ju P q f=j6 P (M-k) (zP x) last p)/\Hid (Below w.heap.size w wr)/\Hid (Vn wr w1.heap.size x)) (λ_ _ i _=>M-(intOf i).toNat)
   case atStart=>exact⟨0,q+1,⟨#[]⟩,by go_num,rfl,rfl,Nat.zero_le _,Nat.lt_succ_self _,hq,HE,B3,V3⟩
   case round =>
    clear B3 V3 HE;obtain⟨k,p,last,rfl,rfl,rfl,hk,MX,Gi,hF,hB,hV⟩:=hrel;obtain⟨v0,v1,v2,v3⟩:=hV.o;by_cases hlt:k<M
    ·have HF:=O (show ju P q f=j6 P (M-(k+1)+1) (zP x) last p by rw [hF.o,show M-k=M-(k+1)+1 by omega]);clear hF;by_cases hpn2:p<n
     ·have hpl2:p<P.length:=by rw [<-ow.o];exact hpn2
      have g3:decide (n<=p)=false:=decide_eq_false (by omega);by_cases h6:x.op=6
      ·have hr:zP x=true:=by unfold zP;exact decide_eq_true h6
       have g2:(x.op==6)=true:=beq_iff_eq.2 h6;obtain⟨a',ea,e0,e1,e2,e3⟩:=(vS.o.keep hB.o).at_ p _ (List.getElem?_eq_getElem hpl2);injection ea with ea;subst ea;have HN:=O (HF.o.trans ((congrArg (λb=>j6 P (M-(k+1)+1) b last p) hr).trans (cj (List.getElem?_eq_getElem hpl2))));have Ke:=O hr;have Om:=O (λw' hb=>IH.o p true w' MX hb);generalize P[p]=y at *;clear HF hr h6;rcases uF y.s last with ⟨hc,l1,l2⟩|⟨hc,l1⟩|⟨hc,l1,l2⟩
       ·have Gl:=O (HN.o.trans (if_neg (λq=>q.2 hc)));clear hc HN;go_wp2_with fail;refine(Om.o _ hB.o).mono ?_;rintro e w6 ⟨rfl,b6⟩;have B6:=bh hB b6;have V6:=O (hV.o.keep b6);clear b6 hB hV v0 v1 v2 v3 e0 e1 e2 e3;by_cases hk0:0<=ju P p true
        ·obtain⟨e',he,NP,CU⟩:=iu hk0;have vT:=O (show ju P q f=j6 P (M-(k+1)) (zP x) y.s e' by
          have h1:=Gl.o
          rw [if_pos hk0,he,Int.toNat_natCast] at h1
          rw [h1,Ke.o])
         have hen:e'<=n:=by rw [ow.o];exact CU
         rw [he];clear hk0 he CU;go_wp2_with fail;go_roundw
         case rel=>exact⟨k+1,e',y.s,rfl,rfl,by go_num,hlt,by omega,hen,vT,B6,V6⟩
         case measure=>simp [intOf];omega
        ·have py:=O (show ju P q f = -1 by rw [Gl.o,if_neg hk0]);rw [fH hk0];clear hk0;go_wp2_with fail;go_ret;exact⟨by rw [py.o];rfl,B6.o⟩
       ·have py:=O (show ju P q f = -1 from HN.o.trans (if_pos ⟨rfl,hc⟩));clear hc HN;go_wp2_with fail;go_ret;exact⟨by rw [py.o];rfl,hB.o⟩
       ·have py:=O (show ju P q f = -1 from HN.o.trans (if_pos ⟨rfl,hc⟩));clear hc HN;go_wp2_with fail;go_ret;exact⟨by rw [py.o];rfl,hB.o⟩
      ·have hr:zP x=false:=by unfold zP;exact decide_eq_false h6
       have Ke:=O hr;have g2:(x.op==6)=false:=beq_eq_false_iff_ne.2 h6;have Gl:=O (HF.o.trans ((congrArg (λb=>j6 P (M-(k+1)+1) b last p) hr).trans kT));have Om:=O (λw' hb=>IH.o p false w' MX hb);clear hr HF h6;go_wp2_with fail;refine(Om.o _ hB.o).mono ?_;rintro e w6 ⟨rfl,b6⟩;have B6:=bh hB b6;have V6:=O (hV.o.keep b6);clear b6 hB hV v0 v1 v2 v3;by_cases hk0:0<=ju P p false
       ·obtain⟨e',he,NP,CU⟩:=iu hk0;have vT:=O (show ju P q f=j6 P (M-(k+1)) (zP x) last e' by
         have h1:=Gl.o
         rw [if_pos hk0,he,Int.toNat_natCast] at h1
         rw [h1,Ke.o])
        have hen:e'<=n:=by rw [ow.o];exact CU
        rw [he];clear hk0 he CU;go_wp2_with fail;go_roundw
        case rel=>exact⟨k+1,e',last,rfl,rfl,by go_num,hlt,by omega,hen,vT,B6,V6⟩
        case measure=>simp [intOf];omega
       ·have py:=O (show ju P q f = -1 by rw [Gl.o,if_neg hk0]);rw [fH hk0];clear hk0;go_wp2_with fail;go_ret;exact⟨by rw [py.o];rfl,B6.o⟩
     ·have py:=O (show ju P q f = -1 by rw [HF.o,cX (by rw [<-ow.o];omega)]);have g3:decide (n<=p)=true:=decide_eq_true (by omega);clear HF;go_wp2_with fail;go_ret;exact⟨by rw [py.o];rfl,hB.o⟩
    ·have aC:=O (show ju P q f=(p:Int) by
      rw [hF.o,show M-k=0 by omega]
      exact gu (by rw [<-ow.o];exact Gi))
     clear hF;go_wp2_with fail;go_ret;exact⟨by rw [aC.o];rfl,hB.o⟩
  ·have HE:=O (show ju P q f = -1 from ft HX.o (HH.o.trans (by simpa using hh)));have f2:(!(x.op==7)==f)=true:=by rw [he];revert hh;cases decide (x.op=7)<;> cases f <;> simp
   clear hh he;go_wp2_with fail;go_ret;exact⟨by rw [HE.o];rfl,B1.o⟩
 ·have sK:jd x=false:=by simpa using sK
  rw [sK] at CS;have HE:=O (show ju P q f = -1 from ft HX.o (vx sK));clear sK;go_enter Tryz.func32,Tryz.ntmps32;go_wp2_with fail;refine CS.o.mono ?_;rintro e w1 ⟨rfl,b1⟩;have B1:=O b1;clear b1 CS Ga d0 d1 d2 d3;go_wp2_with fail;go_ret;exact⟨by rw [HE.o];rfl,B1.o⟩
theorem kU(P:List Nd)(A:Option Addr)(n c:Nat):∀m,TbC P A n c m
 | 0=>λp f w h hm=>DR P A n c p f w h (by omega)
 | m+1=>λp f w h hm=>by
  by_cases hp:p<n
  ·rcases A with _|a
   ·have:=h.at_ p _ (List.getElem?_eq_getElem (by rw [<-h.len];exact hp));obtain⟨a,e,-⟩:=this;cases e
   ·exact Hu P m a n c p f w (kU P (some a) n c m) h hp hm
  ·exact DR P A n c p f w h (by omega)
theorem de(A:Option Addr)(n c:Nat)(P:List Nd)(w:World)(h:Ns w A n c P):
 Calls Tryz.prog 15 #[.slice A n c] w λe w'=>e = .returned (jr (jc P))/\Below w.heap.size w w':=by
 have hl:=h.len;by_cases bX:200<n
 ·have HR:=O (show jc P=4 by unfold jc;rw [if_pos (by omega)]);have f0:decide ((200:Int)<(n:Int))=true:=decide_eq_true (by omega);clear h hl;go_enter Tryz.func15,Tryz.ntmps15;go_wp2_with fail;go_ret;exact⟨by rw [HR.o];rfl,Below.refl _ _⟩
 ·have C:=O (kU P A n c n 0 false w h (by omega));have f0:decide ((200:Int)<(n:Int))=false:=decide_eq_false (by omega);have HR:=O (show jc P=if(fi P).isSome then 0 else 1 by unfold jc;rw [if_neg (by omega)]);have HA:=O (tU (t:=P));rw [<-hl] at HA;clear h hl bX;generalize ju P 0 false=r at *;go_enter Tryz.func15,Tryz.ntmps15;go_wp2_with fail;refine C.o.mono ?_;rintro e w1 ⟨rfl,b1⟩;have B1:=O b1;clear b1 C;by_cases hr:r=(n:Int)
  ·have HE:=O (show jc P=0 by rw [HR.o,if_pos (HA.o.1 hr)]);have f1:(r !=(n:Int))=false:=by rw [bne_eq_false_iff_eq];exact hr
   clear hr;go_wp2_with fail;go_ret;exact⟨by rw [HE.o];rfl,B1.o⟩
  ·have HE:=O (show jc P=1 by rw [HR.o,if_neg (λq=>hr (HA.o.2 q))]);have f1:(r !=(n:Int))=true:=by rw [bne_iff_ne];exact hr
   clear hr;go_wp2_with fail;go_ret;exact⟨by rw [HE.o];rfl,B1.o⟩
end Go.Proofs.YtokiogmfgpidmaaGreatDoor
