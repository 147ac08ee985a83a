/-
  errors.As at the target '*api.Errno': the contracts of plain.Told, and of the statements' Error and Told: the number of an error. plain.Told, and the ..
-/
import Derived.LaidEql
import Derived.Stop.Asserts
import Derived.RowKitTokens
import Derived.SevenTiedAt
import Derived.ChangeSame
import Derived.ChangeVars
import Derived.JoinedOf
import Derived.LaidLaws
import Derived.LaidHandle
import Derived.Stop.Joined
import Derived.Test.YtlkfaliomdbaoaaGreatDoorRows
import Derived.Test.YtlkfaliomdbaoaaGreatDoorCards
import Derived.Test.YtlkfaliomdbaoaaGreatDoorTie
import Derived.Test.YtlkfaliomdbaoaaGreatDoorQ15
import Derived.Test.YtlkfaliomdbaoaaGreatDoorQ16
import Derived.Test.YtlkfaliomdbaoaaGreatDoorQ19
import Derived.Test.YtlkfaliomdbaoaaGreatDoorQ36
import Derived.Test.YtlkfaliomdbaoaaGreatDoorQ37
set_option maxRecDepth 100000
set_option maxHeartbeats 8000000
namespace Go.Proofs.YtlkfaliomdbaoaaGreatDoor
open Go.RowKit Go.Extern.Stop Go.Stop Go.Extern
theorem zm1(t:Addr)(w:World):(ReflectliteValue.unpack (.iface 111 (.pointer (some t)))).run Tryz.prog w
 = .ok (.agg #[.pointer (some ⟨2,111,none⟩),.pointer (some ⟨w.heap.size,0,none⟩),.int .u64 150]) (w.alloc (.cells #[.pointer (some t)] 111)):=by kernel_rfl
theorem zp4(a:Addr)(w:World):(ReflectliteValue.methodAny (ReflectliteValue.valueError "reflectlite.Value.Type" 0) (fun t _ _ _=>ReflectliteType.toType t) #[.agg #[.pointer (some ⟨2,111,none⟩),.pointer (some a),.int .u64 150]]).run Tryz.prog w
 = .ok (.iface 194 (.agg #[.pointer (some ⟨2,111,none⟩)])) w:=by kernel_rfl
theorem zlj(h:Value)(w:World):(Go.method 446 194 (.agg #[h]) "Kind").run Tryz.prog w = .ok (204,h) w:=by kernel_rfl
theorem zpV(w:World):((ReflectliteType.abiMethod fun t=>(fun a:Nat=>Value.int IntKind.u8 (a:Int))<$> Rtype.kind t) #[.pointer (some ⟨2,111,none⟩)]).run Tryz.prog w = .ok (.int .u8 22) w:=by kernel_rfl
theorem zp3(w:World):((ReflectliteType.abiMethod fun t=>(fun a:Nat=>Value.int IntKind.u8 (a:Int))<$> Rtype.kind t) #[.pointer (some ⟨2,28,none⟩)]).run Tryz.prog w = .ok (.int .u8 2) w:=by kernel_rfl
theorem rlm(z:Sem Value)(f:TypeId→Addr→Nat→Nat→Sem Value)(v:Value):
 ReflectliteValue.method z f #[v]=(do match ←ReflectliteValue.parts v with|none=>z|some (t,a,fl)=>f t a fl (fl % 32)):=rfl
theorem znb(a:Addr)(w:World):(ReflectliteValue.parts (.agg #[.pointer (some ⟨2,111,none⟩),.pointer (some a),.int .u64 150])).run Tryz.prog w = .ok (some (111,a,150)) w:=by kernel_rfl
theorem zpO(a p:Addr)(W:World)(ha:W.cell? a=some (.pointer (some p))):
 (ReflectliteValue.method (ReflectliteValue.valueError "reflectlite.Value.IsNil" 0) ReflectliteValue.isNil #[.agg #[.pointer (some ⟨2,111,none⟩),.pointer (some a),.int .u64 150]]).run Tryz.prog W = .ok (.bool false) W:=by
 rw [rlm];simp only [Sem.run_bind,znb,Result.andThen];simp [ReflectliteValue.isNil,loadVar,isAgg,underlying,Tryz.underlying111,ha,Result.andThen]
theorem zkF(h:Value)(w:World):(Go.method 446 194 (.agg #[h]) "Elem").run Tryz.prog w = .ok (215,.agg #[h]) w:=by kernel_rfl
theorem zeV(h:Value)(w:World):(Go.method 446 194 (.agg #[h]) "Implements").run Tryz.prog w = .ok (216,.agg #[h]) w:=by kernel_rfl
theorem zdO(h:Value)(w:World):(Go.method 446 194 (.agg #[h]) "AssignableTo").run Tryz.prog w = .ok (213,.agg #[h]) w:=by kernel_rfl
theorem zpU(w:World):(ReflectliteType.method ReflectliteType.elem #[.agg #[.pointer (some ⟨2,111,none⟩)]]).run Tryz.prog w = .ok (.iface 194 (.agg #[.pointer (some ⟨2,28,none⟩)])) w:=by kernel_rfl
theorem zjP(w:World):(ReflectliteType.relation "Implements" ReflectliteType.implements_ #[.agg #[.pointer (some ⟨2,28,none⟩)],.iface 194 (.agg #[.pointer (some ⟨2,33,none⟩)])]).run Tryz.prog w = .ok (.bool true) w:=by kernel_rfl
theorem zoz(v:Value)(w:World):(ReflectliteType.typeOf #[.iface 28 v]).run Tryz.prog w = .ok (.iface 194 (.agg #[.pointer (some ⟨2,28,none⟩)])) w:=by kernel_rfl
theorem zjp(w:World):(ReflectliteType.relation "AssignableTo" ReflectliteType.assignableTo #[.agg #[.pointer (some ⟨2,28,none⟩)],.iface 194 (.agg #[.pointer (some ⟨2,28,none⟩)])]).run Tryz.prog w = .ok (.bool true) w:=by kernel_rfl
theorem zng(n:Int)(w:World):(ReflectliteValue.unpack (.iface 28 (.int .i64 n))).run Tryz.prog w
 = .ok (.agg #[.pointer (some ⟨2,28,none⟩),.pointer (some ⟨w.heap.size,0,none⟩),.int .u64 130]) (w.alloc (.cells #[.int .i64 n] 28)):=by kernel_rfl
theorem zo5(w:World):(Rtype.elem? 111).run Tryz.prog w = .ok (some 28) w:=by kernel_rfl
theorem mkE(p:Addr)(w:World):(ReflectliteValue.mk 28 p ReflectliteValue.flagAddr).run Tryz.prog w = .ok (.agg #[.pointer (some ⟨2,28,none⟩),.pointer (some p),.int .u64 386]) w:=by kernel_rfl
theorem zpP(a p:Addr)(W:World)(ha:W.cell? a=some (.pointer (some p))):
 (ReflectliteValue.method (ReflectliteValue.valueError "reflectlite.Value.Elem" 0) ReflectliteValue.elem #[.agg #[.pointer (some ⟨2,111,none⟩),.pointer (some a),.int .u64 150]]).run Tryz.prog W
  = .ok (.agg #[.pointer (some ⟨2,28,none⟩),.pointer (some p),.int .u64 386]) W:=by
 rw [rlm];simp only [Sem.run_bind,znb,Result.andThen];simp [ReflectliteValue.elem,loadVar,isAgg,underlying,Tryz.underlying111,ha,Result.andThen,zo5,mkE]
theorem rls(v x:Value):ReflectliteValue.set #[v,x]=(do
 let (some (dst,a,fl),some (src,b,_)):=(←ReflectliteValue.parts v,←ReflectliteValue.parts x)
  | unsupported (.noEntry "extern/(internal/reflectlite.Value).Set.zeroValue")
 if fl / ReflectliteValue.flagAddr % 2==0 then unsupported (.noEntry "extern/(internal/reflectlite.Value).Set.unaddressable")
 let val ←loadVar src b
 if ←Rtype.directlyAssignable dst src then storeVar dst a val
 else if ←Rtype.implements dst src then
  if(←Rtype.kind src)==20 then
   match val with
   | .nilIface=>unsupported (.noEntry "extern/reflectlite: a nil value of one interface type handed on as a value of another")
   | _=>storeVar dst a val
  else storeVar dst a (.iface src val)
 else panicString ("reflectlite.Set: value of type " ++(←Rtype.spelt src)++ " is not assignable to type " ++(←Rtype.spelt dst))
 pure (.tuple #[])):=rfl
theorem zoN(a:Addr)(w:World):(ReflectliteValue.parts (.agg #[.pointer (some ⟨2,28,none⟩),.pointer (some a),.int .u64 386])).run Tryz.prog w = .ok (some (28,a,386)) w:=by kernel_rfl
theorem zpJ(a:Addr)(w:World):(ReflectliteValue.parts (.agg #[.pointer (some ⟨2,28,none⟩),.pointer (some a),.int .u64 130])).run Tryz.prog w = .ok (some (28,a,130)) w:=by kernel_rfl
theorem zoC(w:World):(Rtype.directlyAssignable 28 28).run Tryz.prog w = .ok true w:=by kernel_rfl
theorem zpS(ta b:Addr)(n:Int)(old:Value)(W:World)(hb:W.cell? b=some (.int .i64 n))(ht:W.cell? ta=some old)(hf:W.frozen? ta=false):
 (ReflectliteValue.set #[.agg #[.pointer (some ⟨2,28,none⟩),.pointer (some ta),.int .u64 386],.agg #[.pointer (some ⟨2,28,none⟩),.pointer (some b),.int .u64 130]]).run Tryz.prog W
  = .ok (.tuple #[]) (W.setCell ta (.int .i64 n)):=by
 rw [rls];simp only [Sem.run_bind,zoN,zpJ,Result.andThen];simp [ReflectliteValue.flagAddr,loadVar,isAgg,underlying,Tryz.underlying28,hb,Result.andThen,zoC,storeVar,Value.cells,storeCells,Addr.add];rw [run_store Tryz.prog W ta _ _ (by rfl)];simp [ht,hf]
theorem zps(n:Int)(t:Addr)(old:Value)(w:World)(hg:w.cell? ⟨0,0,none⟩=some (.iface 194 (.agg #[.pointer (some ⟨2,33,none⟩)])))(ht0:w.cell? t=some old)(hf0:w.frozen? t=false):
 Calls Tryz.prog 60 #[.iface 28 (.int .i64 n),.iface 111 (.pointer (some t))] w fun ev w'=>ev = .returned (.bool true)∧w'=(((((w.alloc (.cells #[.pointer (some t)] 111)).alloc (.cells #[.pointer (some ⟨2,111,none⟩),.pointer (some ⟨w.heap.size,0,none⟩),.int .u64 150] 152)).alloc (.cells #[.pointer (some ⟨2,111,none⟩),.pointer (some ⟨w.heap.size,0,none⟩),.int .u64 150] 152)).alloc (.cells #[.int .i64 n] 28)).setCell t (.int .i64 n)):=by
 have h6:=@run_callFunc_extern Tryz.prog 92 _ (fun args=>ReflectliteValue.unpack (args.getD 0 (.tuple #[]))) Tryz.func92 (by kernel_rfl) (by kernel_rfl) (by kernel_rfl) (by kernel_rfl);have h7:=@run_callFunc_extern Tryz.prog 93 _ (ReflectliteValue.methodAny (ReflectliteValue.valueError "reflectlite.Value.Type" 0) (fun t _ _ _=>ReflectliteType.toType t)) Tryz.func93 (by kernel_rfl) (by kernel_rfl) (by kernel_rfl) (by kernel_rfl)
 have h8:=@run_callFunc_extern Tryz.prog 94 _ (ReflectliteValue.method (ReflectliteValue.valueError "reflectlite.Value.IsNil" 0) ReflectliteValue.isNil) Tryz.func94 (by kernel_rfl) (by kernel_rfl) (by kernel_rfl) (by kernel_rfl)
 have h27:=@run_callFunc_extern Tryz.prog 204 _ (ReflectliteType.abiMethod fun t=>do pure (.int .u8 (←Rtype.kind t))) Tryz.func204 (by kernel_rfl) (by kernel_rfl) (by kernel_rfl) (by kernel_rfl);have h37:=@run_callFunc_extern Tryz.prog 215 _ (ReflectliteType.method ReflectliteType.elem) Tryz.func215 (by kernel_rfl) (by kernel_rfl) (by kernel_rfl) (by kernel_rfl);have h38:=@run_callFunc_extern Tryz.prog 216 _ (ReflectliteType.relation "Implements" ReflectliteType.implements_) Tryz.func216 (by kernel_rfl) (by kernel_rfl) (by kernel_rfl) (by kernel_rfl)
 have h10:=@run_callFunc_extern Tryz.prog 119 _ (ReflectliteType.typeOf) Tryz.func119 (by kernel_rfl) (by kernel_rfl) (by kernel_rfl) (by kernel_rfl);have h35:=@run_callFunc_extern Tryz.prog 213 _ (ReflectliteType.relation "AssignableTo" ReflectliteType.assignableTo) Tryz.func213 (by kernel_rfl) (by kernel_rfl) (by kernel_rfl) (by kernel_rfl)
 have h11:=@run_callFunc_extern Tryz.prog 120 _ (ReflectliteValue.method (ReflectliteValue.valueError "reflectlite.Value.Elem" 0) ReflectliteValue.elem) Tryz.func120 (by kernel_rfl) (by kernel_rfl) (by kernel_rfl) (by kernel_rfl)
 have h12:=@run_callFunc_extern Tryz.prog 121 _ (ReflectliteValue.set) Tryz.func121 (by kernel_rfl) (by kernel_rfl) (by kernel_rfl) (by kernel_rfl);have tO:=zoz;have mA:=zdO;have a25:=zjp;have v25:=zng;have f6:=zm1;have f7:=zp4;have mK:=zlj;have mE:=zkF;have mI:=zeV;have k27:=zpV;have k25:=zp3;have e27:=zpU;have i25:=zjP;have n8:=zpO ⟨w.heap.size,0,none⟩ t ((w.alloc (.cells #[.pointer (some t)] 111)).alloc (.cells #[.pointer (some ⟨2,111,none⟩),.pointer (some ⟨w.heap.size,0,none⟩),.int .u64 150] 152)) (by simp);have hlt:0<w.heap.size:=by
  rcases Nat.eq_zero_or_pos w.heap.size with h0|h
  ·simp [World.cell?,h0] at hg
  ·exact h
 have hg2:((w.alloc (.cells #[.pointer (some t)] 111)).alloc (.cells #[.pointer (some ⟨2,111,none⟩),.pointer (some ⟨w.heap.size,0,none⟩),.int .u64 150] 152)).cell? ⟨0,0,none⟩=some (.iface 194 (.agg #[.pointer (some ⟨2,33,none⟩)])):=by
  rw [World.cell?_alloc_lt _ _ ⟨0,0,none⟩ (by simp),World.cell?_alloc_lt _ _ ⟨0,0,none⟩ hlt];exact hg
 have htl:t.block<w.heap.size:=by
  rcases Nat.lt_or_ge t.block w.heap.size with h|h
  ·exact h
  ·simp [World.cell?,Array.getElem?_eq_none h] at ht0
 have el:=zpP ⟨w.heap.size,0,none⟩ t (((w.alloc (.cells #[.pointer (some t)] 111)).alloc (.cells #[.pointer (some ⟨2,111,none⟩),.pointer (some ⟨w.heap.size,0,none⟩),.int .u64 150] 152)).alloc (.cells #[.pointer (some ⟨2,111,none⟩),.pointer (some ⟨w.heap.size,0,none⟩),.int .u64 150] 152)) (by rw [World.cell?_alloc_lt _ _ ⟨w.heap.size,0,none⟩ (by simp;omega)];simp);have st:=zpS t ⟨w.heap.size+1+1+1,0,none⟩ n old ((((w.alloc (.cells #[.pointer (some t)] 111)).alloc (.cells #[.pointer (some ⟨2,111,none⟩),.pointer (some ⟨w.heap.size,0,none⟩),.int .u64 150] 152)).alloc (.cells #[.pointer (some ⟨2,111,none⟩),.pointer (some ⟨w.heap.size,0,none⟩),.int .u64 150] 152)).alloc (.cells #[.int .i64 n] 28))
  (by rw [World.cell?_alloc_at _ _ _ _ (by simp)];rfl)
  (by rw [World.cell?_alloc_lt _ _ t (by simp;omega),World.cell?_alloc_lt _ _ t (by simp;omega),World.cell?_alloc_lt _ _ t (by simp;omega),World.cell?_alloc_lt _ _ t htl];exact ht0)
  (by rw [World.frozen?_alloc_old _ _ t (by simp;omega),World.frozen?_alloc_old _ _ t (by simp;omega),World.frozen?_alloc_old _ _ t (by simp;omega),World.frozen?_alloc_old _ _ t (Nat.ne_of_lt htl)];exact hf0)
 go_enter Tryz.func60,Tryz.ntmps60;go_wp2;refine wp_loop_rounds 1 ?_;rw [rounds_succ];go_wp2;go_ret;exact⟨rfl,rfl⟩
end Go.Proofs.YtlkfaliomdbaoaaGreatDoor
namespace Go.Proofs.YtlkfaliomdbaoaaGreatDoor
open Go.RowKit
def zcB(w:World):Prop:=w.cell? ⟨0,0,none⟩=some (.iface 194 (.agg #[.pointer (some ⟨2,33,none⟩)]))
theorem zcB.keep{w w':World}(h:zcB w)(hb:Below w.heap.size w w'):zcB w':=zb hb h
theorem zcB.pos{w:World}(h:zcB w):0<w.heap.size:=block_lt_of_cell h
theorem zcB.alloc{w:World}(h:zcB w)(o:Obj):zcB (w.alloc o):=h.keep ((Below.refl _ _).alloc (Nat.le_refl _) _)
theorem zcB.drewN{w:World}(h:zcB w)(n:Nat):zcB (w.drewN n):=h
theorem zcB.drew{w:World}(h:zcB w):zcB w.drew:=h
theorem znA(w:World):Calls Tryz.prog 25 #[.nilIface] w fun e w'=>e = .returned (.int .i64 0)∧Below w.heap.size w w':=by
 go_enter Tryz.func25,Tryz.ntmps25;go_wp2;go_ret;exact⟨rfl,Below.refl _ _⟩
theorem zn3(n:Int)(w:World)(hg:zcB w):Calls Tryz.prog 25 #[.iface 28 (.int .i64 n)] w fun e w'=>e = .returned (.int .i64 n)∧Below w.heap.size w w':=by
 have h1:=hg.alloc (.cells #[.int .i64 0] 28);have c1:=zps n ⟨w.heap.size,0,none⟩ (.int .i64 0) (w.alloc (.cells #[.int .i64 0] 28)) h1 (by simp) (by simp);have C1:=hi9 c1;clear c1 h1;go_enter Tryz.func25,Tryz.ntmps25;go_wp2_with (go_at_call 60;refine C1.out.mono ?_;rintro e w' ⟨rfl,rfl⟩);go_ret;refine⟨rfl,?_⟩;exact(by(repeat' (first|exact Below.refl _ _|refine Below.alloc ?_ ?_ _|refine Below.setCell ?_ ?_ _|refine Below.drew ?_|refine Below.drewN ?_ _))<;>(try simp)<;> omega)
theorem zkN(n:Int)(w:World)(hg:zcB w):Calls Tryz.prog 25 #[jE n] w fun e w'=>e = .returned (.int .i64 n)∧Below w.heap.size w w':=by
 by_cases h:n=0
 ·subst h;exact znA w
 ·rw [zA h];exact zn3 n w hg
theorem zkB(n k:Int)(w:World)(hg:zcB w):Calls Tryz.prog 8 #[jE n,.int .i64 k] w fun e w'=>e = .returned (.bool (n==k))∧Below w.heap.size w w':=by
 have C1:=hi9 (zkN n w hg);go_enter Tryz.func8,Tryz.ntmps8;go_wp2_with (go_at_call 25;refine C1.out.mono ?_;rintro e w' ⟨rfl,hb⟩);go_ret;exact⟨rfl,hb⟩
end Go.Proofs.YtlkfaliomdbaoaaGreatDoor
namespace Go.Wk
theorem zn7{K:List KD}{L:List AD}{who act what:ByteArray}{V:List Nd}{j:Kd}(h:za6 K L who act what [⟨1,0,emp,emp⟩] = .ok j)(ho:zeE V=0):
 za6 K L who act what V = .error 4∨za6 K L who act what V = .ok (zK V):=by
 have hV:zD V=0:=by
  unfold zeE at ho;split at ho
  ·assumption
  ·exact ho
 obtain⟨hl,hI⟩:=zbf.1 hV;by_cases hs:or2 (jW K L) (zZ [⟨1,0,emp,emp⟩])=0
 case neg=>rw [zeR hs] at h;cases h
 rcases ha:zbI L act with _|a
 ·rw [zgS hs ha] at h;cases h
 by_cases hb:(jV a.who who && jV a.what what)=true
 case neg=>rw [zhQ hs ha hb] at h;cases h
 obtain⟨x,hx,hf,hk⟩:=zou hI ⟨K,a,who,what⟩ [];have hs2:or2 (jW K L) (zZ V)=0:=jd.2 ⟨(jd.1 hs).1,zcg.2 ⟨hl,x,hx,hf.symm⟩⟩;rw [zgh hs2 ha hb hx hf.symm];rw [hf] at hk;rcases q:tyX ⟨K,a,who,what⟩ x [] with e|k
 ·rw [q] at hk;exact .inl (by rw [show e=4 from hk])
 ·rw [q] at hk;exact .inr (by rw [show k=zK V from hk])
end Go.Wk
namespace Go.Proofs.YtlkfaliomdbaoaaGreatDoor
open Go.RowKit Go.Wk Go.Sort
theorem zeL(s:Sc)(who act what:ByteArray)(A:Option Addr)(n c:Nat)(V:List Nd)(w:World)(hs:zdB w s)(h1:who.size≤maxLen)(_:act.size≤maxLen)(h3:what.size≤maxLen)(hV:Ns w A n c V)(hg:zcB w):
 Calls Tryz.prog 4 #[s.v,.string who,.string act,.string what,.slice A n c] w fun e w'=>e = .returned (.bool true)∧Below w.heap.size w w':=by
 have V0:=hi9 (zeZ w s 25);have B0:=hi9 (za w (.cells #[.slice s.KA s.kn s.kc,.slice s.AA s.an s.ac] 25));have TT:=hi9 (fun w' (hb:Below w.heap.size w w') (A':Option Addr) (n' c':Nat) (P:List Nd) (hP:Ns w' A' n' c' P)=>zgw s who act what A' n' c' P w' (hs.keep hb) h1 h3 hP);have HV:=hi9 hV;have HG:=hi9 hg;have HPL:=hi9 (fun(j:Kd) (h:za6 s.k s.a who act what [⟨1,0,emp,emp⟩] = .ok j) (ho:zeE V=0)=>zn7 h ho);generalize za6 s.k s.a who act what=TX at *;unfold Sc.v at TT ⊢;clear hs h1 h3 hV hg;go_enter Tryz.func4,Tryz.ntmps4;go_wp2_with fail;refine(zmL _).mono ?_;rintro e w1 ⟨rfl,b1⟩;have B1:=bh B0 b1;have V1:=hi9 (V0.out.keep b1);clear b1 B0 V0;obtain⟨c0,c1⟩:=V1.out;go_wp2_with fail;have bN:=za w1 (.cells #[.int .i64 1,.int .i64 0,.string ⟨#[]⟩,.string ⟨#[]⟩] 40);have B2:=bh B1 bN;have V2:=hi9 (V1.out.keep bN);have K1:=hi9 (TT.out _ B2.out _ _ _ _ (zeO w1 ⟨1,0,emp,emp⟩ ⟨by decide,by decide,by decide,by decide⟩));clear bN B1 V1 c0 c1;refine K1.out.mono ?_;rintro e w3 ⟨A3,n3,c3,rfl,-,b3⟩;have B3:=bh B2 b3;have V3:=hi9 (V2.out.keep b3);have KO:=hi9 ((HV.out.keep B3.out).kinds_Own);obtain⟨r1,hr1⟩:∃r1,r1=TX [⟨1,0,emp,emp⟩]:=⟨_,rfl⟩
 rw [←hr1];clear b3 B2 V2 K1;rcases r1 with u|j
 ·unfold znz;clear HPL TT hr1 V3;dsimp only;go_wp2_with fail;refine KO.out.mono ?_;rintro e w4 ⟨A4,n4,c4,rfl,-,b4⟩;have B4:=bh B3 b4;clear b4 B3 KO;go_wp2_with fail;go_ret;exact⟨rfl,B4.out⟩
 have HPJ:=hi9 (fun ho=>HPL.out j hr1.symm ho);clear HPL hr1;unfold znz;dsimp only;go_wp2_with fail;refine KO.out.mono ?_;rintro e w4 ⟨A4,n4,c4,rfl,hN4,b4⟩;have B4:=bh B3 b4;have V4:=hi9 (V3.out.keep b4);have HN4:=hi9 hN4;clear b4 B3 KO V3 hN4;by_cases ho:zeE V=0
 case neg =>
  rw [zA ho];clear HPJ TT V4;go_wp2_with fail;go_ret;exact⟨rfl,B4.out⟩
 rw [ho,zr];have HN5:=hi9 (show Ns w4 A4 n4 c4 (zK V).flat by have:=HN4.out;unfold zkM at this;rwa [if_pos ho] at this);have HPK:=hi9 (HPJ.out ho);have K2:=hi9 (TT.out _ B4.out _ _ _ _ (HV.out.keep B4.out));obtain⟨c0,c1⟩:=V4.out;clear HN4 HPJ TT ho V4;go_wp2_with fail;refine K2.out.mono ?_;rintro e w6 ⟨A6,n6,c6,rfl,hN6,b6⟩;have B6:=bh B4 b6;rcases HPK.out with hr|hr
 ·rw [hr];have KE:=hi9 (zkB 4 4 w6 (HG.out.keep B6.out));rw [zA (show(4:Int)≠0 by decide),show((4:Int)==4)=true from rfl] at KE;clear hN6 b6 B4 K2 c0 c1 hr HPK;unfold znz;dsimp only;go_wp2_with fail;refine KE.out.mono ?_;rintro e w7 ⟨rfl,b7⟩;have B7:=bh B6 b7;go_wp2_with fail;go_ret;exact⟨rfl,B7.out⟩
 ·rw [hr];have KS:=hi9 ((show Ns w6 A6 n6 c6 (zK V).flat by rw [hr] at hN6;exact hN6).same (HN5.out.keep b6));rw [decide_eq_true (show z8 (zK V).flat (zK V).flat=0 from zcy.self _)] at KS;clear hN6 b6 B4 K2 c0 c1 hr HPK;unfold znz;dsimp only;go_wp2_with fail;refine KS.out.mono ?_;rintro e w7 ⟨rfl,b7⟩;have B7:=bh B6 b7;go_wp2_with fail;go_ret;exact⟨rfl,B7.out⟩
end Go.Proofs.YtlkfaliomdbaoaaGreatDoor
namespace Go.Proofs.YtlkfaliomdbaoaaGreatDoor
open Go Go.ChangeShapes Go.WideShapes
theorem zbF:Tryz.prog.funcNamed Rows.checkValuesRow.func=some 4:=by kernel_rfl
theorem zgM:Rows.checkValuesRow.wfByText (OpenSpec.ofChange Rows.checkValuesSpec)=true:=by kernel_rfl
theorem zeN:Tryz.prog.mainIs=some (Rows.checkValuesCard.stood.harness.1,Rows.checkValuesCard.stood.harness.2.toList):=by kernel_rfl
theorem zeh:true=Tryz.prog.looks []:=by kernel_rfl
theorem zeI:false=Rows.checkValuesRow.goesBy Tryz.prog:=by kernel_rfl
theorem zeM:Tryz.f4.isInstance Tryz.prog Rows.checkValuesRow.origin Rows.checkValuesRow.targs:=of_decide_eq_true (by kernel_rfl)
theorem zeW:Tryz.f4.isWrapper Tryz.prog Rows.checkValuesRow.wrapper Rows.checkValuesRow.mainSum:=by unfold Func.isWrapper;rw [if_neg (by decide +kernel)];exact⟨rfl,rfl⟩
theorem zgr:(Rows.checkValuesRow.wf (OpenSpec.ofChange Rows.checkValuesSpec))=true:=by kernel_rfl
theorem zgF:(laidOutB Tryz.prog)=true:=by kernel_rfl
theorem zhc:(mapsRowed Tryz.prog)=true:=by kernel_rfl
theorem zgG:(Tryz.f4.params.all (Tryz.prog.readableRec ·))=true:=by kernel_rfl
theorem zgR:(namedTie Tryz.prog Rows.checkValuesRow.named Rows.checkValuesSpec.vars)=true:=by kernel_rfl
theorem zgW:((Rows.checkValuesRow.stops == []))=true:=by kernel_rfl
theorem zgc:((Tryz.prog.stops == []))=true:=by kernel_rfl
theorem zf9:((Rows.checkValuesRow.knobs == []))=true:=by kernel_rfl
theorem zgn:((Tryz.prog.stopKnobs == []))=true:=by kernel_rfl
theorem zfP:((Rows.checkValuesRow.inPlace==Tryz.prog.inPlace 4))=true:=by kernel_rfl
theorem zfL:((Rows.checkValuesRow.unfollowed==Tryz.prog.unfollowed 4))=true:=by kernel_rfl
theorem zfj:((Rows.checkValuesRow.recurses==Tryz.prog.recurses 4))=true:=by kernel_rfl
theorem zfv:((Rows.checkValuesRow.named==Tryz.prog.varsNamed 4))=true:=by kernel_rfl
theorem zfq:((Rows.checkValuesRow.maps==(Tryz.f4.params.toList ++ Rows.checkValuesSpec.plain.varTypes Tryz.prog).any (Tryz.prog.mapsRec ·)))=true:=by kernel_rfl
theorem zfy:((Rows.checkValuesRow.ifaces==(Tryz.f4.params.toList ++ Rows.checkValuesSpec.plain.varTypes Tryz.prog).any (Tryz.prog.ifacesRec ·)))=true:=by kernel_rfl
theorem zfD:((Rows.checkValuesRow.mapsOut==Tryz.prog.mapsAmong Tryz.f4.resultTypes.toList))=true:=by kernel_rfl
theorem zfF:((Rows.checkValuesRow.loops==(Tryz.f4.params.toList ++ Rows.checkValuesSpec.plain.varTypes Tryz.prog).any (Tryz.prog.loopsFrom ·)))=true:=by kernel_rfl
theorem zfJ:((Rows.checkValuesRow.wideKeys==(Tryz.f4.params.toList ++ Rows.checkValuesSpec.plain.varTypes Tryz.prog ++ Tryz.f4.resultTypes.toList).any (Tryz.prog.wideKeysFrom ·)))=true:=by kernel_rfl
theorem zfn:(Rows.checkValuesSpec.vars.all (Tryz.prog.varReadable ·))=true:=by kernel_rfl
theorem zfH:(Tryz.f4.resultTypes.all (fun t=>Tryz.prog.readableRec t && decide (t<Tryz.prog.types.size)))=true:=by kernel_rfl
theorem zfz:((Rows.checkValuesRow.ifacesOut==Tryz.f4.resultTypes.toList.any (Tryz.prog.ifacesRec ·)))=true:=by kernel_rfl
theorem zfl:((Rows.checkValuesRow.loopsOut==Tryz.f4.resultTypes.toList.any (Tryz.prog.loopsFrom ·)))=true:=by kernel_rfl
theorem zfE:((Rows.checkValuesRow.plainKeys==Tryz.prog.plainKeys))=true:=by kernel_rfl
theorem zfu:(Rows.checkValuesRow.shortTexts.isNone)=true:=by kernel_rfl
theorem zfx:(Tryz.prog.stopsHeard)=true:=by kernel_rfl
theorem zfo:(Tryz.prog.mayEnter)=true:=by kernel_rfl
theorem zfA:((Rows.checkValuesRow.lifted==Tryz.prog.liftsFinal))=true:=by kernel_rfl
theorem zfB:((Tryz.prog.make==some Rows.checkValuesRow.make))=true:=by kernel_rfl
theorem zfK:((Rows.checkValuesRow.kinds==(if Rows.checkValuesRow.domain.isEmpty then [] else Tryz.f4.params.toList.map fun t=>match Tryz.prog.underlying t with|some (.int k)=>some k|_=>none)))=true:=by kernel_rfl
theorem zfp:((Rows.checkValuesRow.pinned==Rows.checkValuesRow.pinnedBy))=true:=by kernel_rfl
theorem zfw:((Rows.checkValuesRow.veiled==(Tryz.f4.params.toList ++ Rows.checkValuesSpec.plain.varTypes Tryz.prog ++ Tryz.f4.resultTypes.toList).any (Tryz.prog.veiledRec ·)))=true:=by kernel_rfl
theorem zfs:(Rows.checkValuesRow.veiledFits Tryz.prog Tryz.f4.params.toList (Tryz.f4.params.toList ++ Rows.checkValuesSpec.plain.varTypes Tryz.prog ++ Tryz.f4.resultTypes.toList))=true:=by kernel_rfl
theorem zN{a b:Bool}(h:a=true)(k:b=true):(a && b)=true:=by rw [h,k];rfl
theorem zdz:joinedFacts Tryz.prog 4 Tryz.f4 Rows.checkValuesSpec Rows.checkValuesRow=true:=by
 unfold joinedFacts;exact(zN (zN (zN (zN (zN (zN (zN (zN (zN (zN (zN (zN (zN (zN (zN (zN (zN (zN (zN (zN (zN (zN (zN (zN (zN (zN (zN (zN (zN (zN (zN zgr zgF) zhc) zgG) zgR) zgW) zgc) zf9) zgn) zfP) zfL) zfj) zfv) zfq) zfy) zfD) zfF) zfJ) zfn) zfH) zfz) zfl) zfE) zfu) zfx) zfo) zfA) zfB) zfK) zfp) zfw) zfs)
end Go.Proofs.YtlkfaliomdbaoaaGreatDoor
namespace Go.Proofs.YtlkfaliomdbaoaaGreatDoor
open Go.ChangeShapes Go.WideShapes Go.RowKit
def zlE:DataW Unit:=Rows.laid_errors_errorType
def zpu:String:=match zlE with | .iface n _=>n|_ => ""
theorem zny:(Tryz.prog.cutTypes.find? (·.1==zpu)).map (·.2)=some 194:=by kernel_rfl
theorem zm5:Tryz.prog.globalNamed "errors.errorType"=some 0:=by kernel_rfl
theorem zpM:((List.range 346).filter fun t=>Tryz.prog.rowNamed t [101,114,114,111,114])= [33]:=by kernel_rfl
theorem zmF:Tryz.prog.types.size=346:=by kernel_rfl
def zbT:List (String × DataW Unit):= [("errors.errorType",zlE)]
theorem zg1{W:World}(h:laidMetH Tryz.prog zbT W):zcB W:=by
 have h':laidMet Tryz.prog [] W∧handlesMet Tryz.prog zbT W:=h;obtain⟨name,u,ty,e1,e2,e3,e4,e5⟩:=h'.2 _ (List.mem_singleton.2 rfl);have en:name = [101,114,114,111,114]:=(Option.some.inj e1).symm;subst en;obtain rfl:=Option.some.inj (zny.symm.trans e2);have hm:ty∈(List.range 346).filter fun t=>Tryz.prog.rowNamed t [101,114,114,111,114]:=List.mem_filter.2 ⟨List.mem_range.2 (by rw [←zmF];exact e3),e4⟩;rw [zpM] at hm;obtain rfl:=List.mem_singleton.1 hm;have hh:typeHandle Tryz.prog 33 = .pointer (some ⟨2,33,none⟩):=by kernel_rfl
 rw [hh] at e5;have:=World.var?_cell zm5 e5 0;exact this
noncomputable def zhM(os:Os):World :=
 let w0:=World.holding Tryz.prog os ⟨#[],#[],[]⟩
 {w0 with heap:=w0.heap.modify 0 fun
   | .cells _ t frozen => .cells #[.iface 194 (.agg #[.pointer (some ⟨2,33,none⟩)])] t frozen
   | o=>o }
theorem zhr(os:Os)(args:Array Value):laidMetH Tryz.prog zbT ((zhM os).forCall (fun _ _=>0) ⟨#[],args,[]⟩).memory :=
 laidMetH_of_parts (laidMet_nil _ _) (by kernel_rfl)
end Go.Proofs.YtlkfaliomdbaoaaGreatDoor
namespace Go.Proofs.YtlkfaliomdbaoaaGreatDoor
open Go Go.ChangeShapes Go.WideShapes Go.ChangeAt Go.RowKit Go.Wk
open Go.ChangeMaps (open_string)
theorem zdR(os:Os)(started:os.Started)(H:Type)(enc:TypeId × Value→H):
 ReturnsInHanded {} Tryz.checked os 4 .any (fun w args=>(Rows.checkValuesSpec.pre enc Tryz.prog Tryz.f4 [] false w args∧laidMetH Tryz.prog zbT w)∧sizedMet enc Tryz.prog Tryz.f4 (OpenSpec.ofChange Rows.checkValuesSpec) false w args) (Rows.checkValuesSpec.post enc Tryz.prog Tryz.f4 false true false false):=by
 refine returnsInHanded_of_change_and (C:=Tryz.checked) (X:=fun w _=>laidMetH Tryz.prog zbT w) (fun _ _ _ hh h=>h.of_heap hh) own started (by kernel_rfl) Tryz.func4
  (ChangeSpec.witness_at (enc:=enc) (C:=Tryz.checked) (os:=os) (X:=fun w _=>laidMetH Tryz.prog zbT w) false (zhM os) #[.agg #[.slice none 0 0,.slice none 0 0],.string ⟨#[]⟩,.string ⟨#[]⟩,.string ⟨#[]⟩,.slice none 0 0] 8 rfl (by kernel_rfl) (by kernel_rfl) (by kernel_rfl) (by kernel_rfl) (by kernel_rfl) (zhr os _)) ?_
 intro W base args ds gs before hval0 hW _ _ hL _;have hg:=zg1 hL;have hval:∀(j:Nat) t v,Tryz.f4.params[j]?=some t→args[j]?=some v→Value.okWide Tryz.prog W .any base t v:=hval0;have hW0:=hW;obtain⟨p,q,hA0,_,_,_,_⟩:=hW;have hA:DataW.TrodAll enc Tryz.prog W 0 (fun _=>true) true Tryz.f4.params.toList args.toList ds p:=hA0;rw [Tryz.params4] at hA hval;clear hA0 hval0;obtain⟨v0,vs0,d0,ds0,p0,q0,hargs,rfl,rfl,h0,r0⟩:=trodAll_cons hA;obtain⟨v1,vs1,d1,ds1,p1,q1,rfl,rfl,rfl,h1,r1⟩:=trodAll_cons r0;obtain⟨v2,vs2,d2,ds2,p2,q2,rfl,rfl,rfl,h2,r2⟩:=trodAll_cons r1;obtain⟨v3,vs3,d3,ds3,p3,q3,rfl,rfl,rfl,h3,r3⟩:=trodAll_cons r2;obtain⟨v4,vs4,d4,ds4,p4,q4,rfl,rfl,rfl,h4,r4⟩:=trodAll_cons r3;obtain⟨rfl,rfl,rfl⟩:=trodAll_nil r4;obtain⟨args⟩:=args;simp only at hargs;subst hargs;obtain⟨x0,rfl,sx0⟩:=ziU (hval 0 25 v0 rfl rfl) h0;obtain⟨x1,rfl,_,_,sx1⟩:=open_string Tryz.underlying9 (hval 1 9 v1 rfl rfl) h1;obtain⟨x2,rfl,_,_,sx2⟩:=open_string Tryz.underlying9 (hval 2 9 v2 rfl rfl) h2;obtain⟨x3,rfl,_,_,sx3⟩:=open_string Tryz.underlying9 (hval 3 9 v3 rfl rfl) h3;obtain⟨A4,n4,c4,P4,rfl,sx4⟩:=zkt (hval 4 26 v4 rfl rfl) h4;refine(zeL x0 x1 x2 x3 A4 n4 c4 P4 W sx0 sx1 sx2 sx3 sx4 hg).mono fun e W' ⟨he,hb'⟩=>?_;subst he;refine⟨_,rfl,zok zo7 (by kernel_rfl) (by rfl) Tryz.underlying4 rfl ?_ hW0 hb'⟩;intro ds hlen;rw [Tryz.params4] at hlen
 match ds,hlen with
 | [e0,e1,e2,e3,e4],_=>rfl
theorem zeQ:Rows.checkValuesRow.holds Tryz.pinned (OpenSpec.ofChange Rows.checkValuesSpec):=
 OpenClaim.holds_of_wide 4 Tryz.f4 rfl rfl rfl rfl rfl rfl rfl ⟨rfl,rfl,rfl,rfl,rfl⟩ rfl rfl rfl rfl rfl zbF Tryz.func4 zdz
  zeM zeW
  (fun os started H enc _=>zdR os started H enc)
theorem CheckValues_holds:Rows.CheckValuesCardSaid :=
 Claim7.holds_tied_plain_at .later [] [.handle] true Rows.checkValuesCard.stood.harness true
  zeQ (fun _ h=>by cases h) zgM (fun _ h=>by cases h) checkValues_row_tie rfl ⟨rfl,rfl⟩ zeN rfl
  (fun f fn hf hfn=>by
   obtain rfl:f=4:=Option.some.inj (zbF.symm.trans hf)|>.symm
   obtain rfl:fn=Tryz.f4:=(Option.some.inj (Tryz.func4.symm.trans hfn)).symm
   exact⟨zeh,fun j t ht=>by
    rw [Tryz.params4] at ht
    have hm:=Array.mem_of_getElem? ht
    simp only [List.mem_toArray,List.mem_cons,List.not_mem_nil,or_false] at hm
    rcases hm with rfl|rfl|rfl|rfl|rfl
    all_goals exact(show Tryz.prog.wantsStandIn _=false by kernel_rfl)⟩)
  zeI
#print axioms CheckValues_holds
end Go.Proofs.YtlkfaliomdbaoaaGreatDoor
