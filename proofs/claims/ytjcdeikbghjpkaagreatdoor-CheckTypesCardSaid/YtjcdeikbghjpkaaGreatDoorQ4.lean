/-
  Plain: types and values as nodes that are handed in: below, joined, had, own. No program in sight. Plain: the set of values: each of them once, in order; the ..
-/
import Derived.Test.YtjcdeikbghjpkaaGreatDoorQ1
import Derived.Test.YtjcdeikbghjpkaaGreatDoorQ2
import Derived.Test.YtjcdeikbghjpkaaGreatDoorQ3
set_option maxRecDepth 100000
namespace Go.Wk
def zeQ(P Q:List Nd):Int:=if zo P=0 then zo Q else zo P
def zll(P Q:List Nd):List Nd:=match zcY P,zcY Q with
 | some a,some b=>(zm a b).flat
 | _,_ => []
def joinE(P Q:List Nd):Int:=if zeQ P Q=0 then(if 200<(zll P Q).length then 4 else 0) else zeQ P Q
def zeT(P Q:List Nd):List Nd:=if joinE P Q=0 then zll P Q else []
def zpx(T V:List Nd):Int:=if zo T=0 then jT V else zo T
def zsg(T V:List Nd):Bool:=decide (zpx T V=0)&&(match zcY T with
 | some k=>belowK (ztn V) k
 | none=>false)
theorem zjY{P Q:List Nd}:zeQ P Q=0↔zo P=0∧zo Q=0:=by
 unfold zeQ;split
 ·rename_i h;simp [h]
 ·rename_i h;simp [h]
structure Kin(P:List Nd)(k:Kd):Prop where
 v:k.valid
 e:P=k.flat
 l:P.length≤200
theorem znD{P:List Nd}(h:zo P=0):∃k,Kin P k:=by
 obtain⟨h1,k,h2,h3⟩:=zbB.1 h;exact⟨k,h2,h3,h1⟩
theorem Kin.zero{P:List Nd}{k:Kd}(h:Kin P k):zo P=0:=zbB.2 ⟨h.l,k,h.v,h.e⟩
theorem Kin.read{P:List Nd}{k:Kd}(h:Kin P k):zcY P=some k:=zdu.2 ⟨h.v,h.e⟩
theorem Kin.join{P Q:List Nd}{a b:Kd}(h:Kin P a)(k:Kin Q b):zll P Q=(zm a b).flat:=by
 unfold zll;rw [h.read,k.read]
theorem Kin.joinE{P Q:List Nd}{a b:Kd}(h:Kin P a)(k:Kin Q b):joinE P Q=if 200<(zm a b).flat.length then 4 else 0:=by
 unfold Go.Wk.joinE;rw [if_pos (zjY.2 ⟨h.zero,k.zero⟩),h.join k]
theorem zoO{P Q:List Nd}(h:joinE P Q=0):zo P=0∧zo Q=0∧(zll P Q).length≤200:=by
 unfold joinE at h;split at h
 ·rename_i h1;obtain⟨h2,h3⟩:=zjY.1 h1;split at h
  ·cases h
  ·exact⟨h2,h3,by omega⟩
 ·rename_i h1;exact absurd h h1
theorem Kin.joined{P Q:List Nd}{a b:Kd}(h:Kin P a)(k:Kin Q b)(hj:Go.Wk.joinE P Q=0):Kin (zeT P Q) (zm a b):=by
 obtain⟨-,-,hl⟩:=zoO hj;unfold zeT;rw [if_pos hj];rw [h.join k] at hl ⊢;exact⟨zay _ a b (Nat.le_refl _) h.v k.v,rfl,hl⟩
theorem Kin.eq{P Q:List Nd}{a b:Kd}(h:Kin P a)(k:Kin Q b):P=Q↔a=b:=by
 constructor
 ·intro e;refine zqU h.v k.v ?_;rw [←h.e,←k.e,e]
 ·intro e;rw [h.e,k.e,e]
theorem zra{T V:List Nd}:zpx T V=0↔zo T=0∧jT V=0:=by
 unfold zpx;split
 ·rename_i h;simp [h]
 ·rename_i h;simp [h]
theorem Kin.has{T V:List Nd}{k:Kd}(h:Kin T k)(hv:jT V=0):zsg T V=belowK (ztn V) k:=by
 unfold zsg;rw [zra.2 ⟨h.zero,hv⟩,h.read];rfl
def ztc(lo:Option (List Nd))(p:List Nd):Bool:=match lo with|none=>true|some l=>decide (zW p l > 0)
def ztd(cur:Option (List Nd))(p:List Nd):Bool:=match cur with|none=>true|some c=>decide (zW p c<0)
def least(lo cur:Option (List Nd))(p:List Nd):Option (List Nd):=if ztc lo p && ztd cur p then some p else cur
def jS(N:List ByteArray)(s:ByteArray):Bool:=N.any fun y=>decide (zO y s=0)
theorem zde{N:List ByteArray}{s:ByteArray}:jS N s=true↔s∈N:=by
 unfold jS;rw [List.any_eq_true];constructor
 ·rintro ⟨y,h1,h2⟩;have e:=(zt.zero y s).1 (by simpa using h2);subst e;exact h1
 ·intro h;exact⟨s,h,by simp [zt.self]⟩
abbrev Ud:=ByteArray × ByteArray
def less(G:List (Ud × List Ud))(u:Ud):List (Ud × List Ud):=G.filter fun e=>decide (e.1≠u)
structure KD where
 nm:ByteArray
 up:List ByteArray
 P:List Nd
structure AD where
 id:ByteArray
 who:List ByteArray
 what:List ByteArray
 P:List Nd
def zX:List ByteArray→Int
 | []=>0
 | s :: r=>or2 (zd s) (zX r)
def zb4(P:List Nd):Int:=or2 (zo P) (if zan P=46 then 0 else 2)
def kdF(N:List ByteArray)(k:KD):Int:=or2 (zd k.nm) (or2 (if jS N k.nm then 6 else 0) (or2 (if 6<k.up.length then 4 else 0) (or2 (zX k.up) (zb4 k.P))))
def zeN:List ByteArray→List KD→Int
 | _,[]=>0
 | N,k :: r=>or2 (kdF N k) (zeN (N ++ [k.nm]) r)
def adF(N:List ByteArray)(a:AD):Int:=or2 (zk a.id) (or2 (if jS N a.id then 6 else 0) (or2 (if 6<a.who.length∨6<a.what.length then 4 else 0) (or2 (zX a.who) (or2 (zX a.what) (zb4 a.P)))))
def zdS:List ByteArray→List AD→Int
 | _,[]=>0
 | N,a :: r=>or2 (adF N a) (zdS (N ++ [a.id]) r)
def zaa(K:List KD)(L:List AD):Int:=if 8<K.length∨8<L.length then 4 else or2 (zeN [] K) (zdS [] L)
theorem jk{x y:Int}:or2 x y=0↔x=0∧y=0:=by
 unfold or2;split
 ·rename_i h;simp [h]
 ·rename_i h;simp [h]
theorem zjU{K:List KD}{i:Nat}(h:i<K.length):zeN ((K.take i).map KD.nm) (K.drop i)=or2 (kdF ((K.take i).map KD.nm) K[i]) (zeN ((K.take (i+1)).map KD.nm) (K.drop (i+1))):=by
 rw [List.drop_eq_getElem_cons h,List.take_succ_eq_append_getElem h,List.map_append];rfl
theorem zjI{K:List AD}{i:Nat}(h:i<K.length):zdS ((K.take i).map AD.id) (K.drop i)=or2 (adF ((K.take i).map AD.id) K[i]) (zdS ((K.take (i+1)).map AD.id) (K.drop (i+1))):=by
 rw [List.drop_eq_getElem_cons h,List.take_succ_eq_append_getElem h,List.map_append];rfl
theorem zgN{N:List ByteArray}{i:Nat}(h:i<N.length):zX (N.drop i)=or2 (zd N[i]) (zX (N.drop (i+1))):=by
 rw [List.drop_eq_getElem_cons h];rfl
theorem zir:∀(K:List KD) (N:List ByteArray),zeN N K=0→∀k∈K,zb4 k.P=0∧zX k.up=0
 | [],_,_,k,hk=>by cases hk
 | x :: r,N,h,k,hk=>by
  simp only [zeN,jk,kdF] at h;rcases List.mem_cons.1 hk with rfl|hk
  ·exact⟨h.1.2.2.2.2,h.1.2.2.2.1⟩
  ·exact zir r _ h.2 k hk
theorem ziI:∀(K:List AD) (N:List ByteArray),zdS N K=0→∀k∈K,zb4 k.P=0
 | [],_,_,k,hk=>by cases hk
 | x :: r,N,h,k,hk=>by
  simp only [zdS,jk,adF] at h;rcases List.mem_cons.1 hk with rfl|hk
  ·exact h.1.2.2.2.2.2
  ·exact ziI r _ h.2 k hk
theorem zjW{K:List KD}{L:List AD}:zaa K L=0↔K.length≤8∧L.length≤8∧zeN [] K=0∧zdS [] L=0:=by
 unfold zaa;split
 ·rename_i h;constructor
  ·intro e;cases e
  ·intro e;omega
 ·rename_i h;rw [jk];omega
theorem zew{P:List Nd}(h:zb4 P=0):∃f,Kin P (.fs f):=by
 unfold zb4 at h;rw [jk] at h;obtain⟨h1,h2⟩:=h;obtain⟨k,hk⟩:=znD h1;by_cases h46:zan P=46
 ·rw [hk.e] at h46
  cases k with
  | base x =>
   have hv:jq x:=hk.v
   have:zan (Kd.base x).flat=x:=rfl
   unfold jq at hv;omega
  | ent s=>have:zan (Kd.ent s).flat=44:=rfl;omega
  | set q=>have:zan (Kd.set q).flat=45:=rfl;omega
  | fs f=>exact⟨f,hk⟩
 ·rw [if_neg h46] at h2;cases h2
def zaE(K:List KD)(s:ByteArray):Option KD:=K.find? fun k=>decide (k.nm=s)
def zbx(L:List AD)(s:ByteArray):Option AD:=L.find? fun a=>decide (a.id=s)
end Go.Wk
