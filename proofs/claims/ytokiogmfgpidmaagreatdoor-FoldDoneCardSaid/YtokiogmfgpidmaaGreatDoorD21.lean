/-
  fold: what And, Or, If and Not may be instead. fold: what If and Not may be ..
-/
import Derived.Test.YtokiogmfgpidmaaGreatDoorD20
set_option maxRecDepth 100000
set_option maxHeartbeats 4000000
namespace Go.Proofs.YtokiogmfgpidmaaGreatDoor
open Go.RowKit Go.Wk Go.Sort
theorem PAt.hd{w:World}{B:Nat->Prop}{x:Ex}{o n:Int}{s t:ByteArray}{A:Option Addr}{m c:Nat}(h:PAt w B x [.int .i64 o,.int .i64 n,.string s,.string t,.slice A m c]):x.head.op=o/\x.head.n=n:=by
 cases x with
 | node nd ps =>
  rw [PAt] at h
  obtain⟨-,A',c',e,-⟩:=h
  injection e with e1 e
  injection e with e2 e
  injection e1 with _ e1
  injection e2 with _ e2
  exact⟨e1.symm,e2.symm⟩
theorem Qy{w:World}{a:Addr}{o n:Int}{s t:ByteArray}{A:Option Addr}{m c:Nat}(h:Nm w (a.add 0) [.int .i64 o,.int .i64 n,.string s,.string t,.slice A m c]):
 w.cell? a=some (.int .i64 o)/\w.cell? ⟨a.block,a.off+1,none⟩=some (.int .i64 n)/\w.cell? ⟨a.block,a.off+2,none⟩=some (.string s)/\w.cell? ⟨a.block,a.off+3,none⟩=some (.string t)/\w.cell? ⟨a.block,a.off+4,none⟩=some (.slice A m c):=by
 have h':Nm w a [.int .i64 o,.int .i64 n,.string s,.string t,.slice A m c]:=h;refine⟨h' 0 _ rfl,?_,?_,?_,?_⟩
 ·exact h' 1 _ rfl
 ·exact h' 2 _ rfl
 ·exact h' 3 _ rfl
 ·exact h' 4 _ rfl
theorem Yo{w:World}{a:Addr}{k:Nat}{o n:Int}{s t:ByteArray}{A:Option Addr}{m c:Nat}(h:Nm w (a.add k) [.int .i64 o,.int .i64 n,.string s,.string t,.slice A m c])(hk:k≠0):
 w.cell? ⟨a.block,a.off+k,none⟩=some (.int .i64 o)/\w.cell? ⟨a.block,a.off+(k+1),none⟩=some (.int .i64 n)/\w.cell? ⟨a.block,a.off+(k+2),none⟩=some (.string s)/\w.cell? ⟨a.block,a.off+(k+3),none⟩=some (.string t)/\w.cell? ⟨a.block,a.off+(k+4),none⟩=some (.slice A m c):=by
 have e:∀j,(a.add k).add j=⟨a.block,a.off+(k+j),none⟩:=λj=>by
  rw [zjz];unfold Addr.add;rw [if_neg (by omega)]
 refine⟨?_,?_,?_,?_,?_⟩
 ·have:=h 0 _ rfl;rwa [e] at this
 all_goals rw [<-e];exact h _ _ rfl
def Ou(w:World)(B:Nat->Prop)(x:Ex)(e:Ending)(w':World):Prop :=
 ∃(o n:Int) (s t:ByteArray) (A:Option Addr) (m c:Nat) (b:Bool),e = .returned (.tuple #[.agg #[.int .i64 o,.int .i64 n,.string s,.string t,.slice A m c],.bool b])/\
  (b=true->∃y,ju x=some y/\PAt w' B y [.int .i64 o,.int .i64 n,.string s,.string t,.slice A m c])/\(b=false->ju x=none)/\Below w.heap.size w w'
theorem QX{w w3:World}{B:Nat->Prop}{y:Ex}{u:List Value}(hB:∀b,B b->b<w.heap.size)(hy:PAt w B y u)(hb:Below w.heap.size w w3)(y0 y1 y2 y3 y4:Value):
 PAt (((((w3.setCell ⟨w.heap.size+1,0,none⟩ y0).setCell ⟨w.heap.size+1,1,none⟩ y1).setCell ⟨w.heap.size+1,2,none⟩ y2).setCell ⟨w.heap.size+1,3,none⟩ y3).setCell ⟨w.heap.size+1,4,none⟩ y4) B y u/\
 Below w.heap.size w (((((w3.setCell ⟨w.heap.size+1,0,none⟩ y0).setCell ⟨w.heap.size+1,1,none⟩ y1).setCell ⟨w.heap.size+1,2,none⟩ y2).setCell ⟨w.heap.size+1,3,none⟩ y3).setCell ⟨w.heap.size+1,4,none⟩ y4):=
 have h5:=ed hb (Nat.le_succ w.heap.size) y0 y1 y2 y3 y4
 ⟨PAt.cong (λb hb=>h5.block b (hB b hb)) _ _ hy,h5⟩
theorem znN(o nn:Int)(s t:ByteArray)(a:Addr)(c:Nat)(xa xb:Ex)(ua ub:List Value)(w:World)(B:Nat->Prop)(ho:o=11\/o=12)(hB:∀b,B b->b<w.heap.size)(hal:a.block<w.heap.size)(ra:Nm w (a.add 0) ua)(pa:PAt w B xa ua)(rb:Nm w (a.add 5) ub)(pb:PAt w B xb ub):
 Calls Tryz.prog 34 #[.agg #[.int .i64 o,.int .i64 nn,.string s,.string t,.slice (some a) 2 c]] w (Ou w B (.node ⟨o,nn,s,t⟩ (.cons xa (.cons xb .nil)))):=by
 obtain⟨oa,na,sa,ta,A1,m1,c1,rfl⟩:=pa.five;obtain⟨ob,nb,sb,tb,A2,m2,c2,rfl⟩:=pb.five;obtain⟨hoa,hna⟩:=pa.hd;obtain⟨hob,hnb⟩:=pb.hd;have HLG:=O (show ju (.node ⟨o,nn,s,t⟩ (.cons xa (.cons xb .nil)))=_ from by
  simp only [ju]
  rw [if_pos ho,hoa,hna,hob,hnb])
 have hb0:=zb w (.cells #[.int .i64 o,.int .i64 nn,.string s,.string t,.slice (some a) 2 c] 49);have hb1:=zb (w.alloc (.cells #[.int .i64 o,.int .i64 nn,.string s,.string t,.slice (some a) 2 c] 49)) (.cells #[.int .i64 0,.int .i64 0,.string ⟨#[]⟩,.string ⟨#[]⟩,.slice none 0 0] 49);have B2:=O (hb0.trans (hb1.mono hb0.size));have X0:=O ((jR w (.int .i64 o) (.int .i64 nn) (.string s) (.string t) (.slice (some a) 2 c) 49).keep hb1);have x1:=jR (w.alloc (.cells #[.int .i64 o,.int .i64 nn,.string s,.string t,.slice (some a) 2 c] 49)) (.int .i64 0) (.int .i64 0) (.string ⟨#[]⟩) (.string ⟨#[]⟩) (.slice none 0 0) 49;rw [show(w.alloc (.cells #[.int .i64 o,.int .i64 nn,.string s,.string t,.slice (some a) 2 c] 49)).heap.size=w.heap.size+1 by simp] at x1;have X1:=O x1;have HA:=O (Qy ra);have HB:=O (Yo rb (by decide));have PA:=O pa;have PB:=O pb;have QK:=O hB;have RE:=O hal;have KN:=O (λo n s t A m c (w':World)=>Uk o n s t A m c w');clear hb0 hb1 x1 ra rb pa pb hB hoa hna hob hnb;obtain⟨oo,hoo⟩:∃oo,oo=o:=⟨_,rfl⟩
 have HOO:=O hoo;clear hoo;rcases ho with rfl|rfl
 all_goals
  have q0:=za B2.o HA.o.1;have q1:=za B2.o HA.o.2.1;have q2:=za B2.o HA.o.2.2.1;have q3:=za B2.o HA.o.2.2.2.1;have q4:=za B2.o HA.o.2.2.2.2;obtain⟨ia,hia⟩:∃ia,(oa==1)=ia:=⟨_,rfl⟩
  obtain⟨ba,hba⟩:∃ba,(na==1)=ba:=⟨_,rfl⟩
  obtain⟨ib,hib⟩:∃ib,(ob==1)=ib:=⟨_,rfl⟩
  obtain⟨bb,hbb⟩:∃bb,(nb==1)=bb:=⟨_,rfl⟩
  have K0:=O (KN.o oa na sa ta A1 m1 c1);have K1:=O (KN.o ob nb sb tb A2 m2 c2);rw [hia,hba] at K0;rw [hib,hbb] at K1;have HIA:=O hia;have HBA:=O hba;have HIB:=O hib;have HBO:=O hbb;clear hia hba hib hbb;go_enter Tryz.func34,Tryz.ntmps34;go_wp2_with fail;refine(K0.o _).mono ?_;rintro e w4 ⟨rfl,b4⟩;have B4:=O (B2.o.trans (b4.mono B2.o.size));have Y0:=O (X0.o.keep b4);have Y1:=O (X1.o.keep b4);obtain⟨x0,x1,x2,x3,x4,-,-,-,-,-⟩:=Y0.o;clear q0 q1 q2 q3 q4 b4 X0 X1 B2 K0;cases ia
  ·have p0:=za B4.o HB.o.1;have p1:=za B4.o HB.o.2.1;have p2:=za B4.o HB.o.2.2.1;have p3:=za B4.o HB.o.2.2.2.1;have p4:=za B4.o HB.o.2.2.2.2;go_wp2_with fail;refine(K1.o _).mono ?_;rintro e w5 ⟨rfl,b5⟩;have B5:=O (B4.o.trans (b5.mono B4.o.size));have Z0:=O (Y0.o.keep b5);have Z1:=O (Y1.o.keep b5);clear p0 p1 p2 p3 p4 x0 x1 x2 x3 x4 b5 Y0 Y1 B4 K1;obtain⟨x0,x1,x2,x3,x4,-,-,-,-,-⟩:=Z0.o;cases ib
   ·obtain⟨y0,y1,y2,y3,y4,z0,z1,z2,z3,z4⟩:=Z1.o;have r5:=Z1.o.set (.int .i64 oo) (.int .i64 nn) (.string s) (.string t) (.slice (some a) 2 c);have f5:=ed B5.o (Nat.le_succ w.heap.size) (.int .i64 oo) (.int .i64 nn) (.string s) (.string t) (.slice (some a) 2 c);rw [HOO.o] at r5 f5;have R5:=O r5;have F5:=O f5;clear r5 f5;have HR:=O (show ju _=none from by
     rw [HLG.o]
     have h0:=HIA.o
     have h1:=HIB.o
     simp only [beq_eq_false_iff_ne,ne_eq] at h0 h1
     simp [h0,h1])
    go_wp2_with fail;obtain⟨s0,s1,s2,s3,s4,-,-,-,-,-⟩:=R5.o;exact bodyPost_ret (v := .tuple #[.agg #[.int .i64 oo,.int .i64 nn,.string s,.string t,.slice (some a) 2 c],.bool false]) (by simp [results,Tryz.results34,go_sem,s0,s1,s2,s3,s4,HOO.o]) rfl ⟨_,_,_,_,_,_,_,false,rfl,λhb=>(nomatch hb),λ_=>HR.o,F5.o⟩
   ·cases bb
    all_goals
     first
      |(
       have p0:=za B5.o HA.o.1
       have p1:=za B5.o HA.o.2.1
       have p2:=za B5.o HA.o.2.2.1
       have p3:=za B5.o HA.o.2.2.2.1
       have p4:=za B5.o HA.o.2.2.2.2
       have d4:=za (Gt w5) x4
       have e0:=za (Gt w5) p0
       have e1:=za (Gt w5) p1
       have e2:=za (Gt w5) p2
       have e3:=za (Gt w5) p3
       have e4:=za (Gt w5) p4
       have BD:=O (Gt w5)
       have D1:=O (Z1.o.keep BD.o)
       clear p0 p1 p2 p3 p4 x4
       go_wp2_with fail
       refine wp_region_noPanic ?_
       refine Gw (λ(w':World)=>w'.cell? ⟨w.heap.size,4,none⟩=some (.slice (some a) 2 c)/\w'.cell? a=some (.int .i64 oa)/\w'.cell? ⟨a.block,a.off+1,none⟩=some (.int .i64 na)/\w'.cell? ⟨a.block,a.off+2,none⟩=some (.string sa)/\w'.cell? ⟨a.block,a.off+3,none⟩=some (.string ta)/\w'.cell? ⟨a.block,a.off+4,none⟩=some (Value.slice A1 m1 c1)) 10 (by kernel_rfl) ⟨d4,e0,e1,e2,e3,e4⟩ (λhHeld=>?_)
       obtain⟨wd,hwd⟩:∃wd,w5.drew=wd:=⟨_,rfl⟩
       rw [hwd] at BD D1 hHeld ⊢
       clear hwd d4 e0 e1 e2 e3 e4
       refine ja 0 61 (.pointer (some ⟨w.heap.size,4,none⟩)) rfl (λw' hSw=>?_) hHeld ?_
       ·obtain⟨a5,a0,a1,a2,a3,a4⟩:=hSw
        go_simp
       simp only [Act.put,zS]
       refine ja 1 62 (.slice (some a) 2 c) rfl (λw' hSw=>?_) hHeld ?_
       ·obtain⟨a5,a0,a1,a2,a3,a4⟩:=hSw
        go_simp
       simp only [Act.put,zS]
       refine ja 2 63 (.pointer (some a)) rfl (λw' hSw=>?_) hHeld ?_
       ·obtain⟨a5,a0,a1,a2,a3,a4⟩:=hSw
        go_simp
       simp only [Act.put,zS]
       refine ja 3 64 (.agg #[.int .i64 oa,.int .i64 na,.string sa,.string ta,.slice A1 m1 c1]) rfl (λw' hSw=>?_) hHeld ?_
       ·obtain⟨a5,a0,a1,a2,a3,a4⟩:=hSw
        go_simp
       simp only [Act.put,zS]
       refine ja 4 65 (.pointer (some ⟨w.heap.size,4,none⟩)) rfl (λw' hSw=>?_) hHeld ?_
       ·obtain⟨a5,a0,a1,a2,a3,a4⟩:=hSw
        go_simp
       simp only [Act.put,zS]
       refine ja 5 66 (.slice (some a) 2 c) rfl (λw' hSw=>?_) hHeld ?_
       ·obtain⟨a5,a0,a1,a2,a3,a4⟩:=hSw
        go_simp
       simp only [Act.put,zS]
       refine ja 6 67 (.pointer (some a)) rfl (λw' hSw=>?_) hHeld ?_
       ·obtain⟨a5,a0,a1,a2,a3,a4⟩:=hSw
        go_simp
       simp only [Act.put,zS]
       refine ja 7 68 (.agg #[.int .i64 oa,.int .i64 na,.string sa,.string ta,.slice A1 m1 c1]) rfl (λw' hSw=>?_) hHeld ?_
       ·obtain⟨a5,a0,a1,a2,a3,a4⟩:=hSw
        go_simp
       simp only [Act.put,zS]
       refine jy (i:=8) (o:=⟨some 69,_,_,_,_,_⟩) (by kernel_rfl) rfl (λK' hK'=>?_)
       go_simp
       go_at_call 65
       refine(MJ oa na sa ta A1 m1 c1 wd).mono ?_
       rintro e w6 ⟨rfl,b6⟩
       obtain⟨a5,a0,a1,a2,a3,a4⟩:=hHeld
       have h5:=za b6 a5
       have h0:=za b6 a0
       have h1:=za b6 a1
       have h2:=za b6 a2
       have h3:=za b6 a3
       have h4:=za b6 a4
       have B6:=O ((B5.o.trans (BD.o.mono B5.o.size)).trans (b6.mono (Nat.le_trans B5.o.size BD.o.size)))
       have D6:=O (D1.o.keep b6)
       clear b6 a5 a0 a1 a2 a3 a4
       go_wp2_with fail
       refine hK'.out _ _ (λ_=>⟨h5,h0,h1,h2,h3,h4⟩) ?_
       clear hK' K'
       try simp only [Act.put,zS]
       obtain⟨y0,y1,y2,y3,y4,z0,z1,z2,z3,z4⟩:=D6.o
       have G6:=O (Mz w6 (w.heap.size+1) (.int .i64 oa) (.int .i64 na) (.string sa) (.string ta) (.slice A1 m1 c1))
       have HNE:=O (show some w.heap.size≠some (w.heap.size+1) from λe=>by injection e with e;omega)
       have HNA:=O (show some a.block≠some (w.heap.size+1) from λe=>by injection e with e;have:=RE.o;omega)
       refine jy (i:=9) (o:=⟨none,_,_,_,_,_⟩) (by kernel_rfl) rfl (λK' hK'=>?_)
       go_simp
       refine hK'.out _ _ (λ_=>⟨G6.o.cell h5 HNE.o,G6.o.cell h0 HNA.o,G6.o.cell h1 HNA.o,G6.o.cell h2 HNA.o,G6.o.cell h3 HNA.o,G6.o.cell h4 HNA.o⟩) ?_
       clear hK' K'
       try simp only [Act.put,zS]
       refine jy (i:=10) (o:=⟨some 3,_,_,_,_,_⟩) (by kernel_rfl) rfl (λK' hK'=>?_)
       go_simp
       refine hK'.out _ _ (λh=>absurd rfl h) ?_
       clear hK' K'
       refine Gs (by kernel_rfl) ?_
       refine NoPanic.normal ?_
       try simp only [Act.put,zS]
       clear y0 y1 y2 y3 y4 z0 z1 z2 z3 z4 h0 h1 h2 h3 h4 h5
       have R5:=O (D6.o.set (.int .i64 oa) (.int .i64 na) (.string sa) (.string ta) (.slice A1 m1 c1))
       have F5:=O (QX QK.o PA.o B6.o (.int .i64 oa) (.int .i64 na) (.string sa) (.string ta) (.slice A1 m1 c1))
       have HR:=O (show ju _=if ofT oa=true then some xa else none from by
        rw [HLG.o]
        have h0:=HIA.o
        have h1:=HIB.o
        have h2:=HBO.o
        simp only [beq_iff_eq,beq_eq_false_iff_ne,ne_eq] at h0 h1 h2
        simp [h0,h1,h2])
       obtain⟨s0,s1,s2,s3,s4,-,-,-,-,-⟩:=R5.o
       go_wp2_with fail
       exact bodyPost_ret (v := .tuple #[.agg #[.int .i64 oa,.int .i64 na,.string sa,.string ta,.slice A1 m1 c1],.bool (ofT oa)]) (by simp [results,Tryz.results34,go_sem,s0,s1,s2,s3,s4]) rfl ⟨_,_,_,_,_,_,_,ofT oa,rfl,λhb=>⟨_,by rw [HR.o,if_pos hb],F5.o.1⟩,λhb=>by rw [HR.o,if_neg (by rw [hb];decide)],F5.o.2⟩)
      |(
       obtain⟨y0,y1,y2,y3,y4,z0,z1,z2,z3,z4⟩:=Z1.o
       have r5:=Z1.o.set (.int .i64 oo) (.int .i64 nn) (.string s) (.string t) (.slice (some a) 2 c)
       have f5:=ed B5.o (Nat.le_succ w.heap.size) (.int .i64 oo) (.int .i64 nn) (.string s) (.string t) (.slice (some a) 2 c)
       rw [HOO.o] at r5 f5
       have R5:=O r5
       have F5:=O f5
       clear r5 f5
       have HR:=O (show ju _=none from by
        rw [HLG.o]
        have h0:=HIA.o
        have h1:=HIB.o
        have h2:=HBO.o
        simp only [beq_iff_eq,beq_eq_false_iff_ne,ne_eq] at h0 h1 h2
        simp [h0,h1,h2])
       go_wp2_with fail
       obtain⟨s0,s1,s2,s3,s4,-,-,-,-,-⟩:=R5.o
       exact bodyPost_ret (v := .tuple #[.agg #[.int .i64 oo,.int .i64 nn,.string s,.string t,.slice (some a) 2 c],.bool false]) (by simp [results,Tryz.results34,go_sem,s0,s1,s2,s3,s4,HOO.o]) rfl ⟨_,_,_,_,_,_,_,false,rfl,λhb=>(nomatch hb),λ_=>HR.o,F5.o⟩)
  ·cases ba
   all_goals
    first
     |(
      have p0:=za B4.o HA.o.1
      have p1:=za B4.o HA.o.2.1
      have p2:=za B4.o HA.o.2.2.1
      have p3:=za B4.o HA.o.2.2.2.1
      have p4:=za B4.o HA.o.2.2.2.2
      obtain⟨y0,y1,y2,y3,y4,z0,z1,z2,z3,z4⟩:=Y1.o
      have R5:=O (Y1.o.set (.int .i64 oa) (.int .i64 na) (.string sa) (.string ta) (.slice A1 m1 c1))
      have F5:=O (QX QK.o PA.o B4.o (.int .i64 oa) (.int .i64 na) (.string sa) (.string ta) (.slice A1 m1 c1))
      have HR:=O (show ju _=some xa from by
       rw [HLG.o]
       have h0:=HIA.o
       have h1:=HBA.o
       simp only [beq_iff_eq,beq_eq_false_iff_ne,ne_eq] at h0 h1
       simp [h0,h1])
      go_wp2_with fail
      obtain⟨s0,s1,s2,s3,s4,-,-,-,-,-⟩:=R5.o
      exact bodyPost_ret (v := .tuple #[.agg #[.int .i64 oa,.int .i64 na,.string sa,.string ta,.slice A1 m1 c1],.bool true]) (by simp [results,Tryz.results34,go_sem,s0,s1,s2,s3,s4]) rfl ⟨_,_,_,_,_,_,_,true,rfl,λ_=>⟨_,HR.o,F5.o.1⟩,λhb=>(nomatch hb),F5.o.2⟩)
     |(
      have p0:=za B4.o HB.o.1
      have p1:=za B4.o HB.o.2.1
      have p2:=za B4.o HB.o.2.2.1
      have p3:=za B4.o HB.o.2.2.2.1
      have p4:=za B4.o HB.o.2.2.2.2
      have d4:=za (Gt w4) x4
      have e0:=za (Gt w4) p0
      have e1:=za (Gt w4) p1
      have e2:=za (Gt w4) p2
      have e3:=za (Gt w4) p3
      have e4:=za (Gt w4) p4
      have BD:=O (Gt w4)
      have D1:=O (Y1.o.keep BD.o)
      clear p0 p1 p2 p3 p4 x4
      go_wp2_with fail
      refine wp_region_noPanic ?_
      refine Gw (λ(w':World)=>w'.cell? ⟨w.heap.size,4,none⟩=some (.slice (some a) 2 c)/\w'.cell? ⟨a.block,a.off+5,none⟩=some (.int .i64 ob)/\w'.cell? ⟨a.block,a.off+6,none⟩=some (.int .i64 nb)/\w'.cell? ⟨a.block,a.off+7,none⟩=some (.string sb)/\w'.cell? ⟨a.block,a.off+8,none⟩=some (.string tb)/\w'.cell? ⟨a.block,a.off+9,none⟩=some (Value.slice A2 m2 c2)) 10 (by kernel_rfl) ⟨d4,e0,e1,e2,e3,e4⟩ (λhHeld=>?_)
      obtain⟨wd,hwd⟩:∃wd,w4.drew=wd:=⟨_,rfl⟩
      rw [hwd] at BD D1 hHeld ⊢
      clear hwd d4 e0 e1 e2 e3 e4
      refine ja 0 38 (.pointer (some ⟨w.heap.size,4,none⟩)) rfl (λw' hSw=>?_) hHeld ?_
      ·obtain⟨a5,a0,a1,a2,a3,a4⟩:=hSw
       go_simp
      simp only [Act.put,zS]
      refine ja 1 39 (.slice (some a) 2 c) rfl (λw' hSw=>?_) hHeld ?_
      ·obtain⟨a5,a0,a1,a2,a3,a4⟩:=hSw
       go_simp
      simp only [Act.put,zS]
      refine ja 2 40 (.pointer (some ⟨a.block,a.off+5,none⟩)) rfl (λw' hSw=>?_) hHeld ?_
      ·obtain⟨a5,a0,a1,a2,a3,a4⟩:=hSw
       go_simp
      simp only [Act.put,zS]
      refine ja 3 41 (.agg #[.int .i64 ob,.int .i64 nb,.string sb,.string tb,.slice A2 m2 c2]) rfl (λw' hSw=>?_) hHeld ?_
      ·obtain⟨a5,a0,a1,a2,a3,a4⟩:=hSw
       go_simp
      simp only [Act.put,zS]
      refine ja 4 42 (.pointer (some ⟨w.heap.size,4,none⟩)) rfl (λw' hSw=>?_) hHeld ?_
      ·obtain⟨a5,a0,a1,a2,a3,a4⟩:=hSw
       go_simp
      simp only [Act.put,zS]
      refine ja 5 43 (.slice (some a) 2 c) rfl (λw' hSw=>?_) hHeld ?_
      ·obtain⟨a5,a0,a1,a2,a3,a4⟩:=hSw
       go_simp
      simp only [Act.put,zS]
      refine ja 6 44 (.pointer (some ⟨a.block,a.off+5,none⟩)) rfl (λw' hSw=>?_) hHeld ?_
      ·obtain⟨a5,a0,a1,a2,a3,a4⟩:=hSw
       go_simp
      simp only [Act.put,zS]
      refine ja 7 45 (.agg #[.int .i64 ob,.int .i64 nb,.string sb,.string tb,.slice A2 m2 c2]) rfl (λw' hSw=>?_) hHeld ?_
      ·obtain⟨a5,a0,a1,a2,a3,a4⟩:=hSw
       go_simp
      simp only [Act.put,zS]
      refine jy (i:=8) (o:=⟨some 46,_,_,_,_,_⟩) (by kernel_rfl) rfl (λK' hK'=>?_)
      go_simp
      go_at_call 65
      refine(MJ ob nb sb tb A2 m2 c2 wd).mono ?_
      rintro e w6 ⟨rfl,b6⟩
      obtain⟨a5,a0,a1,a2,a3,a4⟩:=hHeld
      have h5:=za b6 a5
      have h0:=za b6 a0
      have h1:=za b6 a1
      have h2:=za b6 a2
      have h3:=za b6 a3
      have h4:=za b6 a4
      have B6:=O ((B4.o.trans (BD.o.mono B4.o.size)).trans (b6.mono (Nat.le_trans B4.o.size BD.o.size)))
      have D6:=O (D1.o.keep b6)
      clear b6 a5 a0 a1 a2 a3 a4
      go_wp2_with fail
      refine hK'.out _ _ (λ_=>⟨h5,h0,h1,h2,h3,h4⟩) ?_
      clear hK' K'
      try simp only [Act.put,zS]
      obtain⟨y0,y1,y2,y3,y4,z0,z1,z2,z3,z4⟩:=D6.o
      have G6:=O (Mz w6 (w.heap.size+1) (.int .i64 ob) (.int .i64 nb) (.string sb) (.string tb) (.slice A2 m2 c2))
      have HNE:=O (show some w.heap.size≠some (w.heap.size+1) from λe=>by injection e with e;omega)
      have HNA:=O (show some a.block≠some (w.heap.size+1) from λe=>by injection e with e;have:=RE.o;omega)
      refine jy (i:=9) (o:=⟨none,_,_,_,_,_⟩) (by kernel_rfl) rfl (λK' hK'=>?_)
      go_simp
      refine hK'.out _ _ (λ_=>⟨G6.o.cell h5 HNE.o,G6.o.cell h0 HNA.o,G6.o.cell h1 HNA.o,G6.o.cell h2 HNA.o,G6.o.cell h3 HNA.o,G6.o.cell h4 HNA.o⟩) ?_
      clear hK' K'
      try simp only [Act.put,zS]
      refine jy (i:=10) (o:=⟨some 3,_,_,_,_,_⟩) (by kernel_rfl) rfl (λK' hK'=>?_)
      go_simp
      refine hK'.out _ _ (λh=>absurd rfl h) ?_
      clear hK' K'
      refine Gs (by kernel_rfl) ?_
      refine NoPanic.normal ?_
      try simp only [Act.put,zS]
      clear y0 y1 y2 y3 y4 z0 z1 z2 z3 z4 h0 h1 h2 h3 h4 h5
      have R5:=O (D6.o.set (.int .i64 ob) (.int .i64 nb) (.string sb) (.string tb) (.slice A2 m2 c2))
      have F5:=O (QX QK.o PB.o B6.o (.int .i64 ob) (.int .i64 nb) (.string sb) (.string tb) (.slice A2 m2 c2))
      have HR:=O (show ju _=if ofT ob=true then some xb else none from by
       rw [HLG.o]
       have h0:=HIA.o
       have h1:=HBA.o
       simp only [beq_iff_eq,beq_eq_false_iff_ne,ne_eq] at h0 h1
       simp [h0,h1])
      obtain⟨s0,s1,s2,s3,s4,-,-,-,-,-⟩:=R5.o
      go_wp2_with fail
      exact bodyPost_ret (v := .tuple #[.agg #[.int .i64 ob,.int .i64 nb,.string sb,.string tb,.slice A2 m2 c2],.bool (ofT ob)]) (by simp [results,Tryz.results34,go_sem,s0,s1,s2,s3,s4]) rfl ⟨_,_,_,_,_,_,_,ofT ob,rfl,λhb=>⟨_,by rw [HR.o,if_pos hb],F5.o.1⟩,λhb=>by rw [HR.o,if_neg (by rw [hb];decide)],F5.o.2⟩)
theorem zo8(nn:Int)(s t:ByteArray)(a:Addr)(c:Nat)(xc xa xb:Ex)(uc ua ub:List Value)(w:World)(B:Nat->Prop)(hB:∀b,B b->b<w.heap.size)(rc:Nm w (a.add 0) uc)(pc:PAt w B xc uc)(ra:Nm w (a.add 5) ua)(pa:PAt w B xa ua)(rb:Nm w (a.add 10) ub)(pb:PAt w B xb ub):
 Calls Tryz.prog 34 #[.agg #[.int .i64 13,.int .i64 nn,.string s,.string t,.slice (some a) 3 c]] w (Ou w B (.node ⟨13,nn,s,t⟩ (.cons xc (.cons xa (.cons xb .nil))))):=by
 obtain⟨oc,nc,sc,tc,A3,m3,c3,rfl⟩:=pc.five;obtain⟨oa,na,sa,ta,A1,m1,c1,rfl⟩:=pa.five;obtain⟨ob,nb,sb,tb,A2,m2,c2,rfl⟩:=pb.five;obtain⟨hoc,hnc⟩:=pc.hd;have HLG:=O (show ju (.node ⟨13,nn,s,t⟩ (.cons xc (.cons xa (.cons xb .nil))))=(if oc=1 then(if nc=1 then some xa else some xb) else none) from by
  simp only [ju]
  rw [hoc,hnc]
  simp)
 have hb0:=zb w (.cells #[.int .i64 13,.int .i64 nn,.string s,.string t,.slice (some a) 3 c] 49);have hb1:=zb (w.alloc (.cells #[.int .i64 13,.int .i64 nn,.string s,.string t,.slice (some a) 3 c] 49)) (.cells #[.int .i64 0,.int .i64 0,.string ⟨#[]⟩,.string ⟨#[]⟩,.slice none 0 0] 49);have B2:=O (hb0.trans (hb1.mono hb0.size));have X0:=O ((jR w (.int .i64 13) (.int .i64 nn) (.string s) (.string t) (.slice (some a) 3 c) 49).keep hb1);have x1:=jR (w.alloc (.cells #[.int .i64 13,.int .i64 nn,.string s,.string t,.slice (some a) 3 c] 49)) (.int .i64 0) (.int .i64 0) (.string ⟨#[]⟩) (.string ⟨#[]⟩) (.slice none 0 0) 49;rw [show(w.alloc (.cells #[.int .i64 13,.int .i64 nn,.string s,.string t,.slice (some a) 3 c] 49)).heap.size=w.heap.size+1 by simp] at x1;have X1:=O x1;have HC:=O (Qy rc);have HA:=O (Yo ra (by decide));have HB:=O (Yo rb (by decide));have PA:=O pa;have PB:=O pb;have QK:=O hB;obtain⟨ic,hic⟩:∃ic,(oc==1)=ic:=⟨_,rfl⟩
 obtain⟨bc,hbc⟩:∃bc,(nc==1)=bc:=⟨_,rfl⟩
 have K0:=O (λ(w':World)=>Uk oc nc sc tc A3 m3 c3 w');rw [hic,hbc] at K0;have HIC:=O hic;have HBC:=O hbc;clear hb0 hb1 x1 rc ra rb pc pa pb hB hoc hnc hic hbc;have q0:=za B2.o HC.o.1;have q1:=za B2.o HC.o.2.1;have q2:=za B2.o HC.o.2.2.1;have q3:=za B2.o HC.o.2.2.2.1;have q4:=za B2.o HC.o.2.2.2.2;go_enter Tryz.func34,Tryz.ntmps34;go_wp2_with fail;refine(K0.o _).mono ?_;rintro e w4 ⟨rfl,b4⟩;have B4:=O (B2.o.trans (b4.mono B2.o.size));have Y0:=O (X0.o.keep b4);have Y1:=O (X1.o.keep b4);obtain⟨x0,x1,x2,x3,x4,-,-,-,-,-⟩:=Y0.o;obtain⟨y0,y1,y2,y3,y4,z0,z1,z2,z3,z4⟩:=Y1.o;clear q0 q1 q2 q3 q4 b4 X0 X1 B2 K0;cases ic
 ·have R5:=O (Y1.o.set (.int .i64 13) (.int .i64 nn) (.string s) (.string t) (.slice (some a) 3 c));have F5:=O (ed B4.o (Nat.le_succ w.heap.size) (.int .i64 13) (.int .i64 nn) (.string s) (.string t) (.slice (some a) 3 c));have HR:=O (show ju _=none from by
   rw [HLG.o]
   have h0:=HIC.o
   simp only [beq_eq_false_iff_ne,ne_eq] at h0
   simp [h0])
  go_wp2_with fail;obtain⟨s0,s1,s2,s3,s4,-,-,-,-,-⟩:=R5.o;exact bodyPost_ret (v := .tuple #[.agg #[.int .i64 13,.int .i64 nn,.string s,.string t,.slice (some a) 3 c],.bool false]) (by simp [results,Tryz.results34,go_sem,s0,s1,s2,s3,s4]) rfl ⟨_,_,_,_,_,_,_,false,rfl,λhb=>(nomatch hb),λ_=>HR.o,F5.o⟩
 ·cases bc
  ·have p0:=za B4.o HB.o.1;have p1:=za B4.o HB.o.2.1;have p2:=za B4.o HB.o.2.2.1;have p3:=za B4.o HB.o.2.2.2.1;have p4:=za B4.o HB.o.2.2.2.2;have R5:=O (Y1.o.set (.int .i64 ob) (.int .i64 nb) (.string sb) (.string tb) (.slice A2 m2 c2));have F5:=O (QX QK.o PB.o B4.o (.int .i64 ob) (.int .i64 nb) (.string sb) (.string tb) (.slice A2 m2 c2));have HR:=O (show ju _=some xb from by
    rw [HLG.o]
    have h0:=HIC.o
    have h1:=HBC.o
    simp only [beq_iff_eq,beq_eq_false_iff_ne,ne_eq] at h0 h1
    simp [h0,h1])
   go_wp2_with fail;obtain⟨s0,s1,s2,s3,s4,-,-,-,-,-⟩:=R5.o;exact bodyPost_ret (v := .tuple #[.agg #[.int .i64 ob,.int .i64 nb,.string sb,.string tb,.slice A2 m2 c2],.bool true]) (by simp [results,Tryz.results34,go_sem,s0,s1,s2,s3,s4]) rfl ⟨_,_,_,_,_,_,_,true,rfl,λ_=>⟨_,HR.o,F5.o.1⟩,λhb=>(nomatch hb),F5.o.2⟩
  ·have p0:=za B4.o HA.o.1;have p1:=za B4.o HA.o.2.1;have p2:=za B4.o HA.o.2.2.1;have p3:=za B4.o HA.o.2.2.2.1;have p4:=za B4.o HA.o.2.2.2.2;have R5:=O (Y1.o.set (.int .i64 oa) (.int .i64 na) (.string sa) (.string ta) (.slice A1 m1 c1));have F5:=O (QX QK.o PA.o B4.o (.int .i64 oa) (.int .i64 na) (.string sa) (.string ta) (.slice A1 m1 c1));have HR:=O (show ju _=some xa from by
    rw [HLG.o]
    have h0:=HIC.o
    have h1:=HBC.o
    simp only [beq_iff_eq] at h0 h1
    simp [h0,h1])
   go_wp2_with fail;obtain⟨s0,s1,s2,s3,s4,-,-,-,-,-⟩:=R5.o;exact bodyPost_ret (v := .tuple #[.agg #[.int .i64 oa,.int .i64 na,.string sa,.string ta,.slice A1 m1 c1],.bool true]) (by simp [results,Tryz.results34,go_sem,s0,s1,s2,s3,s4]) rfl ⟨_,_,_,_,_,_,_,true,rfl,λ_=>⟨_,HR.o,F5.o.1⟩,λhb=>(nomatch hb),F5.o.2⟩
theorem zlj(nn:Int)(s t:ByteArray)(a:Addr)(c:Nat)(xa:Ex)(oa na:Int)(sa ta:ByteArray)(A1:Option Addr)(m1 c1:Nat)(w:World)(B:Nat->Prop)(ra:Nm w (a.add 0) [.int .i64 oa,.int .i64 na,.string sa,.string ta,.slice A1 m1 c1])(h9:oa≠9)(hlg:ju (.node ⟨9,nn,s,t⟩ (.cons xa .nil))=none):
 Calls Tryz.prog 34 #[.agg #[.int .i64 9,.int .i64 nn,.string s,.string t,.slice (some a) 1 c]] w (Ou w B (.node ⟨9,nn,s,t⟩ (.cons xa .nil))):=by
 have HLG:=O hlg;have HA:=O (Qy ra);have hz0:=zb w (.cells #[.int .i64 9,.int .i64 nn,.string s,.string t,.slice (some a) 1 c] 49);have hz1:=zb (w.alloc (.cells #[.int .i64 9,.int .i64 nn,.string s,.string t,.slice (some a) 1 c] 49)) (.cells #[.int .i64 0,.int .i64 0,.string ⟨#[]⟩,.string ⟨#[]⟩,.slice none 0 0] 49);have B2:=O (hz0.trans (hz1.mono hz0.size));clear hz0 hz1;have q0:=za B2.o HA.o.1;have q1:=za B2.o HA.o.2.1;have q2:=za B2.o HA.o.2.2.1;have q3:=za B2.o HA.o.2.2.2.1;have q4:=za B2.o HA.o.2.2.2.2;have hb0:=zb w (.cells #[.int .i64 9,.int .i64 nn,.string s,.string t,.slice (some a) 1 c] 49);have hb1:=zb (w.alloc (.cells #[.int .i64 9,.int .i64 nn,.string s,.string t,.slice (some a) 1 c] 49)) (.cells #[.int .i64 9,.int .i64 nn,.string s,.string t,.slice (some a) 1 c] 49);have x1:=jR (w.alloc (.cells #[.int .i64 9,.int .i64 nn,.string s,.string t,.slice (some a) 1 c] 49)) (.int .i64 9) (.int .i64 nn) (.string s) (.string t) (.slice (some a) 1 c) 49;rw [show(w.alloc (.cells #[.int .i64 9,.int .i64 nn,.string s,.string t,.slice (some a) 1 c] 49)).heap.size=w.heap.size+1 by simp] at x1;have b2:=hb0.trans (hb1.mono hb0.size);have hbx:=zb ((w.alloc (.cells #[.int .i64 9,.int .i64 nn,.string s,.string t,.slice (some a) 1 c] 49)).alloc (.cells #[.int .i64 9,.int .i64 nn,.string s,.string t,.slice (some a) 1 c] 49)) (.cells #[.int .i64 oa,.int .i64 na,.string sa,.string ta,.slice A1 m1 c1] 49);have F5:=O (b2.trans (hbx.mono b2.size));have R5:=O (x1.keep hbx);clear hb0 hb1 x1 b2 hbx;clear ra hlg B2;go_enter Tryz.func34,Tryz.ntmps34;go_wp2_with fail;obtain⟨s0,s1,s2,s3,s4,-,-,-,-,-⟩:=R5.o;exact bodyPost_ret (v := .tuple #[.agg #[.int .i64 9,.int .i64 nn,.string s,.string t,.slice (some a) 1 c],.bool false]) (by simp [results,Tryz.results34,go_sem,s0,s1,s2,s3,s4]) rfl ⟨_,_,_,_,_,_,_,false,rfl,λhb=>(nomatch hb),λ_=>HLG.o,F5.o⟩
theorem zkO(o nn:Int)(s t:ByteArray)(A:Option Addr)(m c:Nat)(x:Ex)(w:World)(B:Nat->Prop)(h1:o≠11)(h2:o≠12)(h3:o≠13)(h4:o≠9)(hlg:ju x=none):
 Calls Tryz.prog 34 #[.agg #[.int .i64 o,.int .i64 nn,.string s,.string t,.slice A m c]] w (Ou w B x):=by
 have HLG:=O hlg;have hb0:=zb w (.cells #[.int .i64 o,.int .i64 nn,.string s,.string t,.slice A m c] 49);have hb1:=zb (w.alloc (.cells #[.int .i64 o,.int .i64 nn,.string s,.string t,.slice A m c] 49)) (.cells #[.int .i64 o,.int .i64 nn,.string s,.string t,.slice A m c] 49);have x1:=jR (w.alloc (.cells #[.int .i64 o,.int .i64 nn,.string s,.string t,.slice A m c] 49)) (.int .i64 o) (.int .i64 nn) (.string s) (.string t) (.slice A m c) 49;rw [show(w.alloc (.cells #[.int .i64 o,.int .i64 nn,.string s,.string t,.slice A m c] 49)).heap.size=w.heap.size+1 by simp] at x1;have b2:=hb0.trans (hb1.mono hb0.size);have F5:=O b2;have R5:=O x1;clear hb0 hb1 x1 b2;clear hlg;go_enter Tryz.func34,Tryz.ntmps34;go_wp2_with fail;obtain⟨s0,s1,s2,s3,s4,-,-,-,-,-⟩:=R5.o;exact bodyPost_ret (v := .tuple #[.agg #[.int .i64 o,.int .i64 nn,.string s,.string t,.slice A m c],.bool false]) (by simp [results,Tryz.results34,go_sem,s0,s1,s2,s3,s4]) rfl ⟨_,_,_,_,_,_,_,false,rfl,λhb=>(nomatch hb),λ_=>HLG.o,F5.o⟩
theorem zlv(nn na:Int)(s t sa ta:ByteArray)(a a1:Addr)(c c1:Nat)(n:Nd)(xb:Ex)(ub:List Value)(w:World)(B:Nat->Prop)(hB:∀b,B b->b<w.heap.size)(h9:n.op=9)(ra:Nm w (a.add 0) [.int .i64 9,.int .i64 na,.string sa,.string ta,.slice (some a1) 1 c1])(rb:Nm w (a1.add 0) ub)(pb:PAt w B xb ub):
 Calls Tryz.prog 34 #[.agg #[.int .i64 9,.int .i64 nn,.string s,.string t,.slice (some a) 1 c]] w (Ou w B (.node ⟨9,nn,s,t⟩ (.cons (.node n (.cons xb .nil)) .nil))):=by
 obtain⟨ob,nb,sb,tb,A2,m2,c2,rfl⟩:=pb.five;obtain⟨hob,hnb⟩:=pb.hd;have HLG:=O (show ju (.node ⟨9,nn,s,t⟩ (.cons (.node n (.cons xb .nil)) .nil))=(if ofT ob=true then some xb else none) from by
  simp only [ju]
  rw [hob]
  simp [h9])
 have hb0:=zb w (.cells #[.int .i64 9,.int .i64 nn,.string s,.string t,.slice (some a) 1 c] 49);have hb1:=zb (w.alloc (.cells #[.int .i64 9,.int .i64 nn,.string s,.string t,.slice (some a) 1 c] 49)) (.cells #[.int .i64 0,.int .i64 0,.string ⟨#[]⟩,.string ⟨#[]⟩,.slice none 0 0] 49);have B2:=O (hb0.trans (hb1.mono hb0.size));have X0:=O ((jR w (.int .i64 9) (.int .i64 nn) (.string s) (.string t) (.slice (some a) 1 c) 49).keep hb1);have x1:=jR (w.alloc (.cells #[.int .i64 9,.int .i64 nn,.string s,.string t,.slice (some a) 1 c] 49)) (.int .i64 0) (.int .i64 0) (.string ⟨#[]⟩) (.string ⟨#[]⟩) (.slice none 0 0) 49;rw [show(w.alloc (.cells #[.int .i64 9,.int .i64 nn,.string s,.string t,.slice (some a) 1 c] 49)).heap.size=w.heap.size+1 by simp] at x1;have X1:=O x1;have hbx:=zb ((w.alloc (.cells #[.int .i64 9,.int .i64 nn,.string s,.string t,.slice (some a) 1 c] 49)).alloc (.cells #[.int .i64 0,.int .i64 0,.string ⟨#[]⟩,.string ⟨#[]⟩,.slice none 0 0] 49)) (.cells #[.int .i64 9,.int .i64 na,.string sa,.string ta,.slice (some a1) 1 c1] 49);have B4:=O (B2.o.trans (hbx.mono B2.o.size));have Y0:=O (X0.o.keep hbx);have Y1:=O (X1.o.keep hbx);have HA:=O (Qy ra);have HB:=O (Qy rb);have PB:=O pb;have QK:=O hB;obtain⟨tb0,htb⟩:∃tb0,ofT ob=tb0:=⟨_,rfl⟩
 have K0:=O (λ(w':World)=>MJ ob nb sb tb A2 m2 c2 w');rw [htb] at K0;have HTB:=O htb;clear hb0 hb1 x1 hbx ra rb pb hB hob hnb htb;have q0:=za B2.o HA.o.1;have q1:=za B2.o HA.o.2.1;have q2:=za B2.o HA.o.2.2.1;have q3:=za B2.o HA.o.2.2.2.1;have q4:=za B2.o HA.o.2.2.2.2;have p0:=za B4.o HB.o.1;have p1:=za B4.o HB.o.2.1;have p2:=za B4.o HB.o.2.2.1;have p3:=za B4.o HB.o.2.2.2.1;have p4:=za B4.o HB.o.2.2.2.2;go_enter Tryz.func34,Tryz.ntmps34;go_wp2_with fail;refine(K0.o _).mono ?_;rintro e w5 ⟨rfl,b5⟩;have B5:=O (B4.o.trans (b5.mono B4.o.size));have Z0:=O (Y0.o.keep b5);have Z1:=O (Y1.o.keep b5);have q5:=(jR ((w.alloc (.cells #[.int .i64 9,.int .i64 nn,.string s,.string t,.slice (some a) 1 c] 49)).alloc (.cells #[.int .i64 0,.int .i64 0,.string ⟨#[]⟩,.string ⟨#[]⟩,.slice none 0 0] 49)) (.int .i64 9) (.int .i64 na) (.string sa) (.string ta) (.slice (some a1) 1 c1) 49).keep b5;rw [show((w.alloc (.cells #[.int .i64 9,.int .i64 nn,.string s,.string t,.slice (some a) 1 c] 49)).alloc (.cells #[.int .i64 0,.int .i64 0,.string ⟨#[]⟩,.string ⟨#[]⟩,.slice none 0 0] 49)).heap.size=w.heap.size+1+1 by simp] at q5;obtain⟨g0,g1,g2,g3,g4,-,-,-,-,-⟩:=q5;obtain⟨x0,x1,x2,x3,x4,-,-,-,-,-⟩:=Z0.o;obtain⟨y0,y1,y2,y3,y4,z0,z1,z2,z3,z4⟩:=Z1.o;clear p0 p1 p2 p3 p4 q0 q1 q2 q3 q4 b5 Y0 Y1 X0 X1 B4 K0;cases tb0
 ·have R5:=O (Z1.o.set (.int .i64 9) (.int .i64 nn) (.string s) (.string t) (.slice (some a) 1 c));have F5:=O (ed B5.o (Nat.le_succ w.heap.size) (.int .i64 9) (.int .i64 nn) (.string s) (.string t) (.slice (some a) 1 c));have HR:=O (show ju _=none from by
   rw [HLG.o]
   rw [if_neg (by rw [HTB.o];decide)])
  go_wp2_with fail;obtain⟨s0,s1,s2,s3,s4,-,-,-,-,-⟩:=R5.o;exact bodyPost_ret (v := .tuple #[.agg #[.int .i64 9,.int .i64 nn,.string s,.string t,.slice (some a) 1 c],.bool false]) (by simp [results,Tryz.results34,go_sem,s0,s1,s2,s3,s4]) rfl ⟨_,_,_,_,_,_,_,false,rfl,λhb=>(nomatch hb),λ_=>HR.o,F5.o⟩
 ·have p0:=za B5.o HB.o.1;have p1:=za B5.o HB.o.2.1;have p2:=za B5.o HB.o.2.2.1;have p3:=za B5.o HB.o.2.2.2.1;have p4:=za B5.o HB.o.2.2.2.2;have R5:=O (Z1.o.set (.int .i64 ob) (.int .i64 nb) (.string sb) (.string tb) (.slice A2 m2 c2));have F5:=O (QX QK.o PB.o B5.o (.int .i64 ob) (.int .i64 nb) (.string sb) (.string tb) (.slice A2 m2 c2));have HR:=O (show ju _=some xb from by
   rw [HLG.o]
   rw [if_pos HTB.o])
  go_wp2_with fail;obtain⟨s0,s1,s2,s3,s4,-,-,-,-,-⟩:=R5.o;exact bodyPost_ret (v := .tuple #[.agg #[.int .i64 ob,.int .i64 nb,.string sb,.string tb,.slice A2 m2 c2],.bool true]) (by simp [results,Tryz.results34,go_sem,s0,s1,s2,s3,s4]) rfl ⟨_,_,_,_,_,_,_,true,rfl,λ_=>⟨_,HR.o,F5.o.1⟩,λhb=>(nomatch hb),F5.o.2⟩
theorem zaz{n:Nd}{ps:Exs}(h1:n.op≠11)(h2:n.op≠12)(h3:n.op≠13)(h4:n.op≠9):ju (.node n ps)=none:=by
 cases ps with
 | nil=>simp [ju]
 | cons a r =>
  cases r with
  | nil =>
   obtain⟨m,q⟩:=a
   cases q with
   | nil=>simp [ju]
   | cons b q =>
    cases q with
    | nil=>simp [ju,h4]
    | cons _ _=>simp [ju]
  | cons b r =>
   cases r with
   | nil=>simp [ju,h1,h2]
   | cons d r =>
    cases r with
    | nil=>simp [ju,h3]
    | cons _ _=>simp [ju]
theorem XP{p:Exs}(h:p.len=1):∃x,p = .cons x .nil:=by
 cases p with
 | nil=>simp [Exs.len] at h
 | cons x r=>cases r with
  | nil=>exact⟨x,rfl⟩
  | cons _ _=>simp [Exs.len] at h
theorem zes{p:Exs}(h:p.len=2):∃x y,p = .cons x (.cons y .nil):=by
 cases p with
 | nil=>simp [Exs.len] at h
 | cons x r =>
  obtain⟨y,rfl⟩:=XP (p:=r) (by simp [Exs.len] at h;exact h)
  exact⟨x,y,rfl⟩
theorem zg4{p:Exs}(h:p.len=3):∃x y z,p = .cons x (.cons y (.cons z .nil)):=by
 cases p with
 | nil=>simp [Exs.len] at h
 | cons x r =>
  obtain⟨y,z,rfl⟩:=zes (p:=r) (by simp [Exs.len] at h;exact h)
  exact⟨x,y,z,rfl⟩
theorem zeu{n:Nd}(h:n.op=9):zC n=1:=by unfold zC;rw [if_neg (by omega),if_neg (by omega),if_pos (by omega)]
theorem zlk{n:Nd}(h:n.op=11\/n.op=12):zC n=2:=by unfold zC;rw [if_neg (by omega),if_neg (by omega),if_neg (by omega),if_neg (by omega),if_pos (by omega)]
theorem zlr{n:Nd}(h:n.op=13):zC n=3:=by unfold zC;rw [if_neg (by omega),if_neg (by omega),if_neg (by omega),if_pos (by omega)]
theorem zhV(x:Ex)(f:Bool)(hv:x.valid f)(u:List Value)(w:World)(B:Nat->Prop)(hB:∀b,B b->b<w.heap.size)(hx:PAt w B x u):
 Calls Tryz.prog 34 #[.agg u.toArray] w (Ou w B x):=by
 obtain⟨⟨o,nn,s,t⟩,ps⟩:=x;rw [PAt] at hx;obtain⟨-,A,c,rfl,hc,hm,hp⟩:=hx;rw [Ex.valid] at hv;obtain⟨-,hl,hvs⟩:=hv;by_cases h11:o=11\/o=12
 ·obtain⟨xa,xb,rfl⟩:=zes (p:=ps) (by have:=hl.trans (zlk h11);omega);simp only [lV] at hp;obtain⟨⟨a,ua,rfl,ha,ra,pa⟩,⟨a',ub,e,-,rb,pb⟩,-⟩:=hp;injection e with e;subst e;exact znN o nn s t a c xa xb ua ub w B h11 hB (hB _ ha) ra pa rb pb
 by_cases h13:o=13
 ·subst h13;obtain⟨xc,xa,xb,rfl⟩:=zg4 (p:=ps) (by have:=hl.trans (zlr rfl);omega);simp only [lV] at hp;obtain⟨⟨a,uc,rfl,-,rc,pc⟩,⟨a',ua,e,-,ra,pa⟩,⟨a'',ub,e',-,rb,pb⟩,-⟩:=hp;injection e with e;subst e;injection e' with e';subst e';exact zo8 nn s t a c xc xa xb uc ua ub w B hB rc pc ra pa rb pb
 by_cases h9:o=9
 ·subst h9;obtain⟨xa,rfl⟩:=XP (p:=ps) (by have:=hl.trans (zeu rfl);omega);simp only [lV] at hp;obtain⟨⟨a,ua,rfl,-,ra,pa⟩,-⟩:=hp;obtain⟨⟨oa,na,sa,ta⟩,qs⟩:=xa;rw [PAt] at pa;obtain⟨-,A1,c1,rfl,-,-,hq⟩:=pa;rw [Exs.valid] at hvs;have hva:=hvs.2.1;rw [Ex.valid] at hva;by_cases h9':oa=9
  ·subst h9';obtain⟨xb,rfl⟩:=XP (p:=qs) (by have:=hva.2.1.trans (zeu rfl);omega);simp only [lV] at hq;obtain⟨⟨a1,ub,rfl,-,rb,pb⟩,-⟩:=hq;exact zlv nn na s t sa ta a a1 c c1 _ xb ub w B hB rfl ra rb pb
  ·refine zlj nn s t a c _ oa na sa ta A1 _ c1 w B ra h9' ?_
   cases qs with
   | nil=>simp [ju]
   | cons b q =>
    cases q with
    | nil=>simp [ju,h9']
    | cons _ _=>simp [ju]
 ·exact zkO o nn s t A _ c _ w B (λe=>h11 (.inl e)) (λe=>h11 (.inr e)) h13 h9 (zaz (λe=>h11 (.inl e)) (λe=>h11 (.inr e)) h13 h9)
end Go.Proofs.YtokiogmfgpidmaaGreatDoor
namespace Go.Proofs.YtokiogmfgpidmaaGreatDoor
open Go.RowKit
theorem Qh(w:World):(callFunc 226 #[]).run Tryz.prog w = .ok (.value (.tuple #[])) w:=run_call_mark0 Tryz.func226 (by kernel_rfl) (by kernel_rfl) (by kernel_rfl) .disable (by kernel_rfl) w
theorem RQ(w:World):(callFunc 228 #[]).run Tryz.prog w = .ok (.value (.tuple #[])) w:=run_call_mark0 Tryz.func228 (by kernel_rfl) (by kernel_rfl) (by kernel_rfl) .enable (by kernel_rfl) w
theorem YF(a:Addr)(w:World):(callFunc 229 #[.pointer (some a)]).run Tryz.prog w = .ok (.value (.tuple #[])) w:=run_call_marked Tryz.func229 (by kernel_rfl) (by kernel_rfl) (by kernel_rfl) .acquire (by kernel_rfl) a w
theorem Qe(a:Addr)(w:World):(callFunc 231 #[.pointer (some a)]).run Tryz.prog w = .ok (.value (.tuple #[])) w:=run_call_marked Tryz.func231 (by kernel_rfl) (by kernel_rfl) (by kernel_rfl) .releaseMerge (by kernel_rfl) a w
theorem Tl(a:Addr)(x:Value)(u:FrameMode)(w:World)(hc:w.cell? a=some x)(hz:w.frozen? a=false):
 CallsD Tryz.prog 188 #[.pointer (some a),.bool true] u w λe u' w'=>u'=u/\(e = .returned (.tuple #[])/\w'=w.drew.setCell a (.int .u32 1)):=by
 have hc':w.drew.cell? a=some x:=by go_simp
 have hz':w.drew.frozen? a=false:=by go_simp
 have hst:=run_call_store (P:=Tryz.prog) Tryz.func207 (by kernel_rfl) (by kernel_rfl) (by kernel_rfl) (by kernel_rfl) (k := .u32) (y:=1) hc' hz';go_enter_d Tryz.func188,Tryz.ntmps188;go_wp2;go_region_calls
 all_goals (go_end0;exact⟨rfl,rfl⟩)
theorem Sz(a:Addr)(u:FrameMode)(w:World)(hc:w.cell? a=some (.int .i32 1))(hz:w.frozen? a=false):
 CallsD Tryz.prog 187 #[.pointer (some a)] u w λe u' w'=>u'=u/\(e = .returned (.tuple #[])/\w'=w.setCell a (.int .i32 0)):=by
 have hd:=Qh;have he:=RQ;have hr:=Qe;have hadd:=run_call_add (P:=Tryz.prog) Tryz.func232 (by kernel_rfl) (by kernel_rfl) (by kernel_rfl) .i32 (by kernel_rfl) (y := -1) (s:=0) hc hz (by simp [go_sem];rfl);have hcv:=run_convert_to_unsafe (P:=Tryz.prog) (src:=315) (dst:=134) Tryz.underlying315 Tryz.underlying134 (by kernel_rfl) hc;go_enter_d Tryz.func187,Tryz.ntmps187;go_wp2;go_end0;go_wp2;go_end0;exact⟨rfl,rfl⟩
theorem zgk(a:Addr)(w:World)(hc:w.cell? a=some (.int .i32 0))(hz:w.frozen? a=false):
 Calls Tryz.prog 186 #[.pointer (some a)] w λe w'=>e = .returned (.tuple #[])/\w'=w.setCell a (.int .i32 1):=by
 have hd:=Qh;have he:=RQ;have ha:=YF;have hcas:=run_call_cas_hit (P:=Tryz.prog) Tryz.func227 (by kernel_rfl) (by kernel_rfl) (by kernel_rfl) .i32 (by kernel_rfl) (y:=1) hc hz;have hc':(w.setCell a (.int .i32 1)).cell? a=some (.int .i32 1):=World.cell?_setCell_same w a _ hc;have hcv:=run_convert_to_unsafe (P:=Tryz.prog) (src:=315) (dst:=134) Tryz.underlying315 Tryz.underlying134 (by kernel_rfl) hc';go_enter Tryz.func186,Tryz.ntmps186;go_wp2
 first|go_end0|(simp only [Exit.inBlock,Exit.then];refine bodyPost_ret (results_none rfl _ _ _) rfl ?_)|refine bodyPost_ret (results_none rfl _ _ _) rfl ?_
 go_wp2;go_end0;exact⟨rfl,rfl⟩
end Go.Proofs.YtokiogmfgpidmaaGreatDoor
