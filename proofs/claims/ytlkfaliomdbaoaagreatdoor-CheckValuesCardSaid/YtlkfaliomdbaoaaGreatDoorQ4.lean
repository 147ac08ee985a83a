/-
  Plain: types and values as nodes that are handed in: below, joined, had, own. No program in sight. Plain: the set of values: each of them once, in order; the ..
-/
import Derived.Test.YtlkfaliomdbaoaaGreatDoorQ1
import Derived.Test.YtlkfaliomdbaoaaGreatDoorQ2
import Derived.Test.YtlkfaliomdbaoaaGreatDoorQ3
set_option maxRecDepth 100000
namespace Go.Wk
def zdt(P Q:List Nd):Int:=if zn P=0 then zn Q else zn P
def zjb(P Q:List Nd):List Nd:=match zcG P,zcG Q with
 | some a,some b=>(zl a b).flat
 | _,_ => []
def joinE(P Q:List Nd):Int:=if zdt P Q=0 then(if 200<(zjb P Q).length then 4 else 0) else zdt P Q
def zdw(P Q:List Nd):List Nd:=if joinE P Q=0 then zjb P Q else []
def zn0(T V:List Nd):Int:=if zn T=0 then zD V else zn T
def zpo(T V:List Nd):Bool:=decide (zn0 T V=0)&&(match zcG T with
 | some k=>zG (zK V) k
 | none=>false)
def zeE(V:List Nd):Int:=if zD V=0 then(if 200<(zK V).flat.length then 4 else 0) else zD V
def zkM(V:List Nd):List Nd:=if zeE V=0 then(zK V).flat else []
theorem zh0{P Q:List Nd}:zdt P Q=0↔zn P=0∧zn Q=0:=by
 unfold zdt;split
 ·rename_i h;simp [h]
 ·rename_i h;simp [h]
structure Kin(P:List Nd)(k:Kd):Prop where
 v:k.valid
 e:P=k.flat
 l:P.length≤200
theorem zow{P:List Nd}(h:zn P=0):∃k,Kin P k:=by
 obtain⟨h1,k,h2,h3⟩:=zaE.1 h;exact⟨k,h2,h3,h1⟩
theorem Kin.zero{P:List Nd}{k:Kd}(h:Kin P k):zn P=0:=zaE.2 ⟨h.l,k,h.v,h.e⟩
theorem Kin.read{P:List Nd}{k:Kd}(h:Kin P k):zcG P=some k:=zbX.2 ⟨h.v,h.e⟩
theorem Kin.join{P Q:List Nd}{a b:Kd}(h:Kin P a)(k:Kin Q b):zjb P Q=(zl a b).flat:=by
 unfold zjb;rw [h.read,k.read]
theorem Kin.joinE{P Q:List Nd}{a b:Kd}(h:Kin P a)(k:Kin Q b):joinE P Q=if 200<(zl a b).flat.length then 4 else 0:=by
 unfold Go.Wk.joinE;rw [if_pos (zh0.2 ⟨h.zero,k.zero⟩),h.join k]
theorem zmz{P Q:List Nd}(h:joinE P Q=0):zn P=0∧zn Q=0∧(zjb P Q).length≤200:=by
 unfold joinE at h;split at h
 ·rename_i h1;obtain⟨h2,h3⟩:=zh0.1 h1;split at h
  ·cases h
  ·exact⟨h2,h3,by omega⟩
 ·rename_i h1;exact absurd h h1
theorem Kin.joined{P Q:List Nd}{a b:Kd}(h:Kin P a)(k:Kin Q b)(hj:Go.Wk.joinE P Q=0):Kin (zdw P Q) (zl a b):=by
 obtain⟨-,-,hl⟩:=zmz hj;unfold zdw;rw [if_pos hj];rw [h.join k] at hl ⊢;exact⟨zab _ a b (Nat.le_refl _) h.v k.v,rfl,hl⟩
theorem Kin.eq{P Q:List Nd}{a b:Kd}(h:Kin P a)(k:Kin Q b):P=Q↔a=b:=by
 constructor
 ·intro e;refine znO h.v k.v ?_;rw [←h.e,←k.e,e]
 ·intro e;rw [h.e,k.e,e]
theorem zoq{T V:List Nd}:zn0 T V=0↔zn T=0∧zD V=0:=by
 unfold zn0;split
 ·rename_i h;simp [h]
 ·rename_i h;simp [h]
theorem Kin.has{T V:List Nd}{k:Kd}(h:Kin T k)(hv:zD V=0):zpo T V=zG (zK V) k:=by
 unfold zpo;rw [zoq.2 ⟨h.zero,hv⟩,h.read];rfl
def zp6(lo:Option (List Nd))(p:List Nd):Bool:=match lo with|none=>true|some l=>decide (z8 p l > 0)
def zpZ(cur:Option (List Nd))(p:List Nd):Bool:=match cur with|none=>true|some c=>decide (z8 p c<0)
def least(lo cur:Option (List Nd))(p:List Nd):Option (List Nd):=if zp6 lo p && zpZ cur p then some p else cur
def jV(N:List ByteArray)(s:ByteArray):Bool:=N.any fun y=>decide (je y s=0)
theorem zgs{N:List ByteArray}{s:ByteArray}:jV N s=true↔s∈N:=by
 unfold jV;rw [List.any_eq_true];constructor
 ·rintro ⟨y,h1,h2⟩;have e:=(zo.zero y s).1 (by simpa using h2);subst e;exact h1
 ·intro h;exact⟨s,h,by simp [zo.self]⟩
abbrev Ud:=ByteArray × ByteArray
def less(G:List (Ud × List Ud))(u:Ud):List (Ud × List Ud):=G.filter fun e=>decide (e.1≠u)
structure KD where
 nm:ByteArray
 up:List ByteArray
 P:List Nd
structure AD where
 id:ByteArray
 who:List ByteArray
 what:List ByteArray
 P:List Nd
def jq:List ByteArray→Int
 | []=>0
 | s :: r=>or2 (zf s) (jq r)
def zdM(P:List Nd):Int:=or2 (zn P) (if zk P=46 then 0 else 2)
def kdF(N:List ByteArray)(k:KD):Int:=or2 (zf k.nm) (or2 (if jV N k.nm then 6 else 0) (or2 (if 6<k.up.length then 4 else 0) (or2 (jq k.up) (zdM k.P))))
def zfm:List ByteArray→List KD→Int
 | _,[]=>0
 | N,k :: r=>or2 (kdF N k) (zfm (N ++ [k.nm]) r)
def adF(N:List ByteArray)(a:AD):Int:=or2 (zy a.id) (or2 (if jV N a.id then 6 else 0) (or2 (if 6<a.who.length∨6<a.what.length then 4 else 0) (or2 (jq a.who) (or2 (jq a.what) (zdM a.P)))))
def zdN:List ByteArray→List AD→Int
 | _,[]=>0
 | N,a :: r=>or2 (adF N a) (zdN (N ++ [a.id]) r)
def jW(K:List KD)(L:List AD):Int:=if 8<K.length∨8<L.length then 4 else or2 (zfm [] K) (zdN [] L)
theorem jd{x y:Int}:or2 x y=0↔x=0∧y=0:=by
 unfold or2;split
 ·rename_i h;simp [h]
 ·rename_i h;simp [h]
theorem zmc{K:List KD}{i:Nat}(h:i<K.length):zfm ((K.take i).map KD.nm) (K.drop i)=or2 (kdF ((K.take i).map KD.nm) K[i]) (zfm ((K.take (i+1)).map KD.nm) (K.drop (i+1))):=by
 rw [List.drop_eq_getElem_cons h,List.take_succ_eq_append_getElem h,List.map_append];rfl
theorem zmP{K:List AD}{i:Nat}(h:i<K.length):zdN ((K.take i).map AD.id) (K.drop i)=or2 (adF ((K.take i).map AD.id) K[i]) (zdN ((K.take (i+1)).map AD.id) (K.drop (i+1))):=by
 rw [List.drop_eq_getElem_cons h,List.take_succ_eq_append_getElem h,List.map_append];rfl
theorem zjo{N:List ByteArray}{i:Nat}(h:i<N.length):jq (N.drop i)=or2 (zf N[i]) (jq (N.drop (i+1))):=by
 rw [List.drop_eq_getElem_cons h];rfl
theorem ziX:∀(K:List KD) (N:List ByteArray),zfm N K=0→∀k∈K,zdM k.P=0∧jq k.up=0
 | [],_,_,k,hk=>by cases hk
 | x :: r,N,h,k,hk=>by
  simp only [zfm,jd,kdF] at h;rcases List.mem_cons.1 hk with rfl|hk
  ·exact⟨h.1.2.2.2.2,h.1.2.2.2.1⟩
  ·exact ziX r _ h.2 k hk
theorem zjG:∀(K:List AD) (N:List ByteArray),zdN N K=0→∀k∈K,zdM k.P=0
 | [],_,_,k,hk=>by cases hk
 | x :: r,N,h,k,hk=>by
  simp only [zdN,jd,adF] at h;rcases List.mem_cons.1 hk with rfl|hk
  ·exact h.1.2.2.2.2.2
  ·exact zjG r _ h.2 k hk
theorem zmo{K:List KD}{L:List AD}:jW K L=0↔K.length≤8∧L.length≤8∧zfm [] K=0∧zdN [] L=0:=by
 unfold jW;split
 ·rename_i h;constructor
  ·intro e;cases e
  ·intro e;omega
 ·rename_i h;rw [jd];omega
theorem zhN{P:List Nd}(h:zdM P=0):∃f,Kin P (.fs f):=by
 unfold zdM at h;rw [jd] at h;obtain⟨h1,h2⟩:=h;obtain⟨k,hk⟩:=zow h1;by_cases h46:zk P=46
 ·rw [hk.e] at h46
  cases k with
  | base x =>
   have hv:jm x:=hk.v
   have:zk (Kd.base x).flat=x:=rfl
   unfold jm at hv;omega
  | ent s=>have:zk (Kd.ent s).flat=44:=rfl;omega
  | set q=>have:zk (Kd.set q).flat=45:=rfl;omega
  | fs f=>exact⟨f,hk⟩
 ·rw [if_neg h46] at h2;cases h2
def za5(K:List KD)(s:ByteArray):Option KD:=K.find? fun k=>decide (k.nm=s)
def zbI(L:List AD)(s:ByteArray):Option AD:=L.find? fun a=>decide (a.id=s)
end Go.Wk
