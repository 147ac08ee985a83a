/-
  Plain: where the fields of a type stand; below, and the least above two, as the reference has them. No program in sight. Plain: those above one, found step by ..
-/
import Derived.Test.YtkfgabdnppmglaaGreatDoorQ4
import Derived.Test.YtkfgabdnppmglaaGreatDoorQ6
import Derived.Test.YtkfgabdnppmglaaGreatDoorQ7
set_option maxRecDepth 100000
namespace Go.Wk
theorem zlA:∀(L M:List Ud),L.Nodup→(∀x∈L,x∈M)→L.length≤M.length
 | [],_,_,_=>Nat.zero_le _
 | x :: L,M,hn,hs=>by
  obtain⟨h1,h2⟩:=List.nodup_cons.1 hn;have h3:x∈M:=hs x (by simp);have h4:=zlA L (M.filter fun y=>decide (y≠x)) h2 (fun y hy=>List.mem_filter.2 ⟨hs y (by simp [hy]),decide_eq_true fun e=>h1 (e ▸ hy)⟩);have h5:(M.filter fun y=>decide (y≠x)).length<M.length:=Nat.lt_of_le_of_ne (List.length_filter_le _ _) fun hl=>by
   have:=List.length_filter_eq_length_iff.1 hl x h3;simp at this
  rw [List.length_cons];omega
def zjq(L:List Ud)(p:Ud):List Ud:=if zaV L p=true then L else L ++ [p]
structure Grw(G:List (Ud × List Ud))(u:Ud)(L L':List Ud):Prop where
 nd:L'.Nodup
 sound:∀y∈L',Abv G u y
 pre:∃R,L'=L ++ R
theorem Grw.nil(G:List (Ud × List Ud))(u:Ud):Grw G u [] []:=⟨List.nodup_nil,(fun _ hy=>nomatch hy),[],rfl⟩
theorem Grw.self{G:List (Ud × List Ud)}{u:Ud}{L L':List Ud}(h:Grw G u L L'):Grw G u L' L':=⟨h.nd,h.sound,[],by simp⟩
theorem Grw.trans{G:List (Ud × List Ud)}{u:Ud}{L L' L'':List Ud}(h:Grw G u L L')(k:Grw G u L' L''):Grw G u L L'' :=
 ⟨k.nd,k.sound,by obtain⟨R,e⟩:=h.pre;obtain⟨R',e'⟩:=k.pre;exact⟨R ++ R',by rw [e',e,List.append_assoc]⟩⟩
theorem Grw.sub{G:List (Ud × List Ud)}{u:Ud}{L L':List Ud}(h:Grw G u L L'):∀y∈L,y∈L':=fun y hy=>by
 obtain⟨R,e⟩:=h.pre;rw [e];exact List.mem_append_left _ hy
theorem Grw.get{G:List (Ud × List Ud)}{u:Ud}{L L':List Ud}(h:Grw G u L L'){i:Nat}(hi:i<(u :: L).length):(u :: L')[i]?=some (u :: L)[i]:=by
 obtain⟨R,e⟩:=h.pre;rw [e,←List.cons_append,List.getElem?_append_left hi,List.getElem?_eq_getElem hi]
theorem Grw.len{G:List (Ud × List Ud)}{u:Ud}{L L':List Ud}(h:Grw G u L L'):L'.length≤(G.flatMap (·.2)).length:=zlA _ _ h.nd fun x hx=>by
 have h1:=h.sound x hx;clear hx h
 induction h1 with
 | one s=>obtain⟨e,he,_,h2⟩:=s;exact List.mem_flatMap.2 ⟨e,he,h2⟩
 | more _ _ ih=>exact ih
theorem zsy(L:List Ud)(p:Ud):p∈zjq L p:=by
 unfold zjq;split
 ·rename_i h;exact jZ.1 h
 ·simp
theorem Grw.add{G:List (Ud × List Ud)}{u:Ud}{L L':List Ud}(h:Grw G u L L'){z p:Ud}(hz:z=u∨z∈L')(hs:Stp G z p):Grw G u L (zjq L' p):=by
 unfold zjq;split
 ·exact h
 ·rename_i hh;have hp:p ∉ L':=fun e=>hh (jZ.2 e);obtain⟨R,e⟩:=h.pre;refine⟨?_,fun y hy=>?_,R ++ [p],by rw [e,List.append_assoc]⟩
  ·rw [List.nodup_append];refine⟨h.nd,by simp,fun a ha b hb e=>?_⟩;simp only [List.mem_cons,List.not_mem_nil,or_false] at hb;subst hb;subst e;exact hp ha
  ·rcases List.mem_append.1 hy with hy|hy
   ·exact h.sound y hy
   ·simp only [List.mem_cons,List.not_mem_nil,or_false] at hy;subst hy;rcases hz with rfl|hz
    ·exact .one hs
    ·exact(h.sound z hz).snoc hs
structure Bfs(G:List (Ud × List Ud))(u:Ud)(s f:Nat)(L:List Ud):Prop where
 fnd:Grw G u [] L
 near:∀y,Ste G s u y→y∈L
 shut:∀z∈(u :: L).take f,∀y,Stp G z y→y∈L
theorem Bfs.start(G:List (Ud × List Ud))(u:Ud):Bfs G u 0 0 []:=⟨Grw.nil G u,(fun _ hy=>nomatch hy),fun z hz=>by simp at hz⟩
theorem Bfs.next{G:List (Ud × List Ud)}{u:Ud}{s f:Nat}{L L':List Ud}(h:Bfs G u s f L)(k:Grw G u L L')(hs:∀z∈u :: L,∀y,Stp G z y→y∈L'):Bfs G u (s+1) (L.length+1) L':=by
 refine⟨h.fnd.trans k,fun y hy=>?_,fun z hz y hy=>?_⟩
 ·rcases hy.last with h1|⟨p,h1,h2⟩
  ·exact hs u (by simp) y h1
  ·exact hs p (by simp [h.near p h1]) y h2
 ·obtain⟨R,e⟩:=k.pre;rw [e,←List.cons_append,List.take_append_of_le_length (by simp),List.take_of_length_le (by simp)] at hz;exact hs z hz y hy
theorem Bfs.all{G:List (Ud × List Ud)}{u:Ud}{s f:Nat}{L:List Ud}(h:Bfs G u s f L)(hs:s=G.length)(y:Ud):y∈L↔Abv G u y :=
 ⟨fun hy=>h.fnd.sound y hy,fun hy=>h.near y (hs ▸ ztp (Nat.le_refl _) hy)⟩
structure zjn(G:List (Ud × List Ud))(u:Ud)(L:List Ud)(i:Nat)(L':List Ud):Prop where
 grw:Grw G u L L'
 shut:∀z∈(u :: L).take i,∀y,Stp G z y→y∈L'
theorem zjn.start{G:List (Ud × List Ud)}{u:Ud}{s f:Nat}{L:List Ud}(h:Bfs G u s f L):zjn G u L f L:=⟨h.fnd.self,h.shut⟩
theorem zjn.next{G:List (Ud × List Ud)}{u:Ud}{L L' L'':List Ud}{i:Nat}(h:zjn G u L i L')(k:Grw G u L' L'')(hi:i<(u :: L).length)(hs:∀y,Stp G (u :: L)[i] y→y∈L''):zjn G u L (i+1) L'':=by
 refine⟨h.grw.trans k,fun z hz y hy=>?_⟩;rw [List.take_succ_eq_append_getElem hi] at hz;rcases List.mem_append.1 hz with hz|hz
 ·exact k.sub y (h.shut z hz y hy)
 ·simp only [List.mem_cons,List.not_mem_nil,or_false] at hz;subst hz;exact hs y hy
theorem zjn.done{G:List (Ud × List Ud)}{u:Ud}{s f i:Nat}{L L':List Ud}(h:Bfs G u s f L)(k:zjn G u L i L')(hi:(u :: L).length≤i):Bfs G u (s+1) (L.length+1) L' :=
 h.next k.grw fun z hz y hy=>k.shut z (by rw [List.take_of_length_le hi];exact hz) y hy
structure zld(G:List (Ud × List Ud))(u z:Ud)(L:List Ud)(k:Nat)(L':List Ud):Prop where
 grw:Grw G u L L'
 here:∀e∈G.take k,e.1=z→∀y∈e.2,y∈L'
theorem zld.start{G:List (Ud × List Ud)}{u z:Ud}{L0 L:List Ud}(h:Grw G u L0 L):zld G u z L 0 L:=⟨h.self,fun e he=>by simp at he⟩
theorem zld.next{G:List (Ud × List Ud)}{u z:Ud}{L L' L'':List Ud}{k:Nat}(h:zld G u z L k L')(g:Grw G u L' L'')(hk:k<G.length)(hs:G[k].1=z→∀y∈G[k].2,y∈L''):zld G u z L (k+1) L'':=by
 refine⟨h.grw.trans g,fun e he h1 y hy=>?_⟩;rw [List.take_succ_eq_append_getElem hk] at he;rcases List.mem_append.1 he with he|he
 ·exact g.sub y (h.here e he h1 y hy)
 ·simp only [List.mem_cons,List.not_mem_nil,or_false] at he;subst he;exact hs h1 y hy
theorem zld.done{G:List (Ud × List Ud)}{u z:Ud}{L L':List Ud}{k:Nat}(h:zld G u z L k L')(hk:G.length≤k):∀y,Stp G z y→y∈L':=fun y ⟨e,he,h1,h2⟩=>h.here e (by rw [List.take_of_length_le hk];exact he) h1 y h2
structure zkc(G:List (Ud × List Ud))(u:Ud)(ups L:List Ud)(p:Nat)(L':List Ud):Prop where
 grw:Grw G u L L'
 here:∀y∈ups.take p,y∈L'
theorem zkc.start{G:List (Ud × List Ud)}{u:Ud}{ups L0 L:List Ud}(h:Grw G u L0 L):zkc G u ups L 0 L:=⟨h.self,fun e he=>by simp at he⟩
theorem zkc.next{G:List (Ud × List Ud)}{u z:Ud}{ups L L':List Ud}{p:Nat}(h:zkc G u ups L p L')(hp:p<ups.length)(hz:z=u∨z∈L)(hs:Stp G z ups[p]):zkc G u ups L (p+1) (zjq L' ups[p]):=by
 have g:=h.grw.self.add (hz.imp id (h.grw.sub z)) hs;refine⟨h.grw.trans g,fun y hy=>?_⟩;rw [List.take_succ_eq_append_getElem hp] at hy;rcases List.mem_append.1 hy with hy|hy
 ·exact g.sub y (h.here y hy)
 ·simp only [List.mem_cons,List.not_mem_nil,or_false] at hy;subst hy;exact zsy _ _
theorem zkc.done{G:List (Ud × List Ud)}{u:Ud}{ups L L':List Ud}{p:Nat}(h:zkc G u ups L p L')(hp:ups.length≤p):∀y∈ups,y∈L':=fun y hy=>h.here y (by rw [List.take_of_length_le hp];exact hy)
end Go.Wk
