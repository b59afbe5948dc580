import Derived.Test.YtonhdiemjgdcnaaGreatCC4
import Derived.Outline
import Derived.Deep.MidRow
set_option maxHeartbeats 64000000
set_option maxRecDepth 100000
set_option linter.unusedVariables false
set_option linter.unusedSimpArgs false
namespace Go.Proofs.YtonhdiemjgdcnaaGreat.PFnExactGivePage
open Go.RowKit Go.Proofs.YtonhdiemjgdcnaaGreatW.PrintWords Go.Proofs.YtonhdiemjgdcnaaGreatW.PrintLast Go.Proofs.YtonhdiemjgdcnaaGreatW.PrintMore
attribute [local go_sem] zba zga zoa zna zW zV zfa zea
def laws_eqFreeS.l0:Nat→List (S112)→List (S112)→Int→Option (Bool)
 |0,_,_,_=>none
 |k+1,x0,x1,x5=>if x5<(x0.length:Int) then (if 0≤x5 then (if x5<(x1.length:Int) then ((laws_eqFree.f k ((zS x0 x5).f0) ((zS x0 x5).f1) ((zS x1 x5).f0) ((zS x1 x5).f1)).bind fun t119=>(if t119=true then (laws_eqFreeS.l0 k x0 x1 (wrap64 (x5+1))) else (none))) else (none)) else (none)) else (some true)
def laws_eqFreeS.f (k:Nat) (l0:List (S112)) (l1:List (S112)):Option (Bool):=if (l0.length:Int)=(l1.length:Int) then (laws_eqFreeS.l0 k l0 l1 0) else (none)
def laws_eqFreeS.T6:Bool×List (List Nat×List Nat):=(true,[([],[]),([],[]),([0,1],[0,1]),([2],[2]),([],[]),([],[]),([4,5],[4,5]),([6],[6]),([3,7],[3,7]),([8],[8])])
def laws_eqFreeS.B6:List Nat:=[0,0,3,7,0,0,48,112,255,511]
theorem laws_eqFreeS.tab6:rtab .any (zkb Tryz.f50 6)=laws_eqFreeS.T6:=by kernel_rfl
theorem laws_eqFreeS.bits6:zGa laws_eqFreeS.T6.2 laws_eqFreeS.B6=true:=by kernel_rfl
theorem laws_eqFreeS.calls (k:Nat) (A0:Option Addr) (c0:Nat) (l0:List (S112)) (A1:Option Addr) (c1:Nat) (l1:List (S112)) (r:Bool) (w:World) (hr0:Kd.C k112 w A0 l0.length l0) (hc0:l0.length≤c0) (hr1:Kd.C k112 w A1 l1.length l1) (hc1:l1.length≤c1) (h:laws_eqFreeS.f k l0 l1=some r):
  Calls Tryz.prog 50 #[.slice A0 l0.length c0,.slice A1 l1.length c1] w fun e w'=>e= .returned (.bool r)∧Below w.heap.size w w':=by
 have hu122:=Tryz.underlying112
 have HR0:=zz hr0
 have HC0:=zz hc0
 clear hr0 hc0
 have HR1:=zz hr1
 have HC1:=zz hc1
 clear hr1 hc1
 have HB:=zz (Below.refl w.heap.size w)
 have H:(if (l0.length:Int)=(l1.length:Int) then (laws_eqFreeS.l0 k l0 l1 0) else (none))=some r:=h
 clear h
 by_cases c3:(l0.length:Int)=(l1.length:Int)
 ·rw [if_pos c3] at H
  have c3b0:((l0.length:Int)==(l1.length:Int))=true:=beq_iff_eq.mpr c3
  have c3b1:((l0.length:Int) !=(l1.length:Int))=false:=bne_eq_false_iff_eq.mpr c3
  have c3b2:(l0.length==l1.length)=true:=by first|simpa using c3|(simp at c3 ⊢;omega)
  clear c3
  have H':=zz H
  clear H
  go_enter Tryz.func50,Tryz.ntmps50
  go_wp2
  go_loopg [5] k (fun kq v5 w'=>∃(x5_1:Int),v5= .int .i64 x5_1∧Z0 (laws_eqFreeS.l0 kq l0 l1 x5_1=some r)∧Z0 (kq≤k)∧Z0 (Below w.heap.size w w'))
  case atStart=>exact ⟨(0),zq12,H',⟨Nat.le_refl _⟩,⟨by repeat (first|(with_reducible first|exact HB.out|apply zg|apply zf|apply zm)|exact HB.out)⟩⟩
  case round=>
   clear H'
   try clear c1
   try clear c3
   try clear c3b0
   try clear c3b1
   try clear c3b2
   obtain ⟨x5_1,rfl,HA,HK1,HB⟩:=hrel
   cases gk with
   |zero=>exact absurd HA.out (by simp [laws_eqFreeS.l0])
   |succ k1=>
    have H:=HA.out
    clear HA
    simp only [laws_eqFreeS.l0] at H
    by_cases c4:x5_1<(l0.length:Int)
    ·rw [if_pos c4] at H
     have c4b0:decide (x5_1<(l0.length:Int))=true:=decide_eq_true c4
     clear c4
     by_cases c5:0≤x5_1
     ·rw [if_pos c5] at H
      have c5b0:decide (0≤x5_1)=true:=decide_eq_true c5
      clear c5
      by_cases c6:x5_1<(l1.length:Int)
      ·rw [if_pos c6] at H
       have c6b0:decide (x5_1<(l1.length:Int))=true:=decide_eq_true c6
       clear c6
       replace H:=Option.bind_eq_some_iff.mp H
       obtain ⟨t119,A70,H⟩:=H
       replace H:(if t119=true then (laws_eqFreeS.l0 k1 l0 l1 (wrap64 (x5_1+1))) else (none))=some r:=H
       have A7:=zz A70
       clear A70
       by_cases c8:t119=true
       ·subst c8
        have H1:(laws_eqFreeS.l0 k1 l0 l1 (wrap64 (x5_1+1)))=some r:=by rw [if_pos rfl] at H;exact H
        clear H
        have H:=H1
        clear H1
        have H':=zz H
        clear H
        try go_wp2
        have n0_:=zz (zm HB.out)
        clear HB
        have HB:=n0_
        clear n0_
        have p117:0≤(x5_1:Int):=of_decide_eq_true zq11
        have q117:x5_1<(l0.length:Int):=of_decide_eq_true zq11
        obtain ⟨ad117,A117_1,c117_1,e117,hx117_0,hx117_1,hl117_1,hi117_1⟩:=at_T112 HR0.out x5_1 p117 q117
        have hw117_1:=hx117_1
        have hw117_0:=hx117_0
        cases e117
        replace hx117_0:=(HB.out.cell (World.block_lt_of_cell? w _ hx117_0)).trans hx117_0
        replace hx117_1:=(HB.out.cell (World.block_lt_of_cell? w _ hx117_1)).trans hx117_1
        have HR117_1:=zz hi117_1
        have HC117_1:=zz hl117_1
        clear hi117_1 hl117_1
        replace p117:=eq_true p117
        replace q117:=eq_true q117
        have p118:0≤(x5_1:Int):=of_decide_eq_true zq11
        have q118:x5_1<(l1.length:Int):=of_decide_eq_true zq11
        obtain ⟨ad118,A118_1,c118_1,e118,hx118_0,hx118_1,hl118_1,hi118_1⟩:=at_T112 HR1.out x5_1 p118 q118
        have hw118_1:=hx118_1
        have hw118_0:=hx118_0
        cases e118
        replace hx118_0:=(HB.out.cell (World.block_lt_of_cell? w _ hx118_0)).trans hx118_0
        replace hx118_1:=(HB.out.cell (World.block_lt_of_cell? w _ hx118_1)).trans hx118_1
        have HR118_1:=zz hi118_1
        have HC118_1:=zz hl118_1
        clear hi118_1 hl118_1
        replace p118:=eq_true p118
        replace q118:=eq_true q118
        refine zBb (n:=10) (S:=fun w'=>w'.cell? (ad117.add ((x5_1).toNat*2))=some (.int .i64 ((zS l0 x5_1).f0))∧w'.cell? ⟨(ad117.add ((x5_1).toNat*2)).block,(ad117.add ((x5_1).toNat*2)).off+1,none⟩=some (.slice A117_1 ((zS l0 x5_1).f1).length c117_1)∧w'.cell? (ad118.add ((x5_1).toNat*2))=some (.int .i64 ((zS l1 x5_1).f0))∧w'.cell? ⟨(ad118.add ((x5_1).toNat*2)).block,(ad118.add ((x5_1).toNat*2)).off+1,none⟩=some (.slice A118_1 ((zS l1 x5_1).f1).length c118_1)) (ds:=[]) #[false,false,false,false,false,false,false,false,false,false] zq7 rfl rfl ⟨((HB.out.cell (World.block_lt_of_cell? w _ hw117_0)).trans hw117_0),((HB.out.cell (World.block_lt_of_cell? w _ hw117_1)).trans hw117_1),((HB.out.cell (World.block_lt_of_cell? w _ hw118_0)).trans hw118_0),((HB.out.cell (World.block_lt_of_cell? w _ hw118_1)).trans hw118_1)⟩ (fun hHeld=> ?_);refine zJa laws_eqFreeS.tab6 laws_eqFreeS.bits6 (fun HT_ HW_=> ?_)
        generalize wr.drew=w9 at HB HR117_1 HR118_1 hx117_0 hx117_1 hx118_0 hx118_1 hHeld ⊢
        refine zX (i:=0) (N:=some 17) (v:= ?_) (a':= ?_) #[true,false,false,false,false,false,false,false,false,false] rfl rfl (zP HT_.out zq7) (fun _ _ _ h=>h) (Or.inl ⟨by rfl,?_⟩) ?_ ?_
        rotate_left
        ·intro w'
         go_simp
         with_reducible rfl
        rotate_left
        ·simp only [Act.put,List.setIfInBounds_toArray,List.set_cons_zero,List.set_cons_succ,zA,zF]
         rfl
        refine zX (i:=1) (N:=some 18) (v:= ?_) (a':= ?_) #[true,true,false,false,false,false,false,false,false,false] rfl rfl (zP HT_.out zq7) (fun _ _ _ h=>h) (Or.inl ⟨by rfl,?_⟩) ?_ ?_
        rotate_left
        ·intro w'
         go_simp
         with_reducible rfl
        rotate_left
        ·simp only [Act.put,List.setIfInBounds_toArray,List.set_cons_zero,List.set_cons_succ,zA,zF]
         rfl
        refine zX (i:=2) (N:=some 19) (v:= ?_) (a':= ?_) #[true,true,true,false,false,false,false,false,false,false] rfl rfl (zP HT_.out zq7) (fun _ _ _ h=>h) (Or.inl ⟨by rfl,?_⟩) ?_ ?_
        rotate_left
        ·intro w'
         go_simp
         with_reducible rfl
        rotate_left
        ·simp only [Act.put,List.setIfInBounds_toArray,List.set_cons_zero,List.set_cons_succ,zA,zF]
         rfl
        refine zX (i:=4) (N:=some 21) (v:= ?_) (a':= ?_) #[true,true,true,false,true,false,false,false,false,false] rfl rfl (zP HT_.out zq7) (fun _ _ _ h=>h) (Or.inl ⟨by rfl,?_⟩) ?_ ?_
        rotate_left
        ·intro w'
         go_simp
         with_reducible rfl
        rotate_left
        ·simp only [Act.put,List.setIfInBounds_toArray,List.set_cons_zero,List.set_cons_succ,zA,zF]
         rfl
        refine zX (i:=5) (N:=some 22) (v:= ?_) (a':= ?_) #[true,true,true,false,true,true,false,false,false,false] rfl rfl (zP HT_.out zq7) (fun _ _ _ h=>h) (Or.inl ⟨by rfl,?_⟩) ?_ ?_
        rotate_left
        ·intro w'
         go_simp
         with_reducible rfl
        rotate_left
        ·simp only [Act.put,List.setIfInBounds_toArray,List.set_cons_zero,List.set_cons_succ,zA,zF]
         rfl
        refine zX (i:=6) (N:=some 23) (v:= ?_) (a':= ?_) #[true,true,true,false,true,true,true,false,false,false] rfl rfl (zP HT_.out zq7) (fun _ _ _ h=>h) (Or.inl ⟨by rfl,?_⟩) ?_ ?_
        rotate_left
        ·intro w'
         go_simp
         with_reducible rfl
        rotate_left
        ·simp only [Act.put,List.setIfInBounds_toArray,List.set_cons_zero,List.set_cons_succ,zA,zF]
         rfl
        refine take_ (i:=3) (N:=some 20) (v:= ?_) (a':= ?_) #[true,true,true,true,true,true,true,false,false,false] rfl rfl (zU HT_.out HW_.out zq7) (fun _ _ _ h=>h) (Or.inl ⟨by rfl,?_⟩) hHeld ?_ ?_
        rotate_left
        ·rintro w' ⟨s0,s1,s2,s3⟩
         go_simp
         with_reducible rfl
        rotate_left
        ·simp only [Act.put,List.setIfInBounds_toArray,List.set_cons_zero,List.set_cons_succ,zA,zF]
         rfl
        refine take_ (i:=7) (N:=some 24) (v:= ?_) (a':= ?_) #[true,true,true,true,true,true,true,true,false,false] rfl rfl (zU HT_.out HW_.out zq7) (fun _ _ _ h=>h) (Or.inl ⟨by rfl,?_⟩) hHeld ?_ ?_
        rotate_left
        ·rintro w' ⟨s0,s1,s2,s3⟩
         go_simp
         with_reducible rfl
        rotate_left
        ·simp only [Act.put,List.setIfInBounds_toArray,List.set_cons_zero,List.set_cons_succ,zA,zF]
         rfl
        refine one_ (i:=8) (N:=some 25) #[true,true,true,true,true,true,true,true,true,false] rfl rfl (zHa HT_.out zq7) zq14 (fun K hK=> ?_)
        refine goes_ Tryz.func98 zq7 rfl #[.agg #[.int .i64 ((zS l0 x5_1).f0),.slice A117_1 ((zS l0 x5_1).f1).length c117_1],.agg #[.int .i64 ((zS l1 x5_1).f0),.slice A118_1 ((zS l1 x5_1).f1).length c118_1]] zq19 rfl rfl zq4 ?_
        with_reducible refine (laws_eqFree.calls k1 ((zS l0 x5_1).f0) _ _ ((zS l0 x5_1).f1) ((zS l1 x5_1).f0) _ _ ((zS l1 x5_1).f1) true _ ?side1 ?side2 ?side3 ?side4 A7.out).mono ?_
        (case side1=>repeat (first|exact (Kd.C_below HR117_1.out HB.out)|(with_reducible refine Kd.C_alloc ?_ _)|(with_reducible refine Kd.C_drewN ?_ _)|(with_reducible refine Kd.C_drew ?_)))
        (case side2=>exact HC117_1.out)
        (case side3=>repeat (first|exact (Kd.C_below HR118_1.out HB.out)|(with_reducible refine Kd.C_alloc ?_ _)|(with_reducible refine Kd.C_drewN ?_ _)|(with_reducible refine Kd.C_drew ?_)))
        (case side4=>exact HC118_1.out)
        rintro e w10 ⟨rfl,hb⟩
        refine ⟨_,rfl,?_⟩
        have n0_:=zz (zk zq1 hb)
        clear HB
        have HB:=n0_
        clear n0_
        (try clear hb)
        (try clear hb2)
        (try clear hk)
        (try clear hi)
        refine hK.out _ _ ⟨((HB.out.cell (World.block_lt_of_cell? w _ hw117_0)).trans hw117_0),((HB.out.cell (World.block_lt_of_cell? w _ hw117_1)).trans hw117_1),((HB.out.cell (World.block_lt_of_cell? w _ hw118_0)).trans hw118_0),((HB.out.cell (World.block_lt_of_cell? w _ hw118_1)).trans hw118_1)⟩ (fun hHeld=> ?_)
        clear hK K
        refine zsb (a':= ?_) ?_ ?_
        rotate_left
        ·show Act.put _ (some 25) _=_
         simp only [Act.put,List.setIfInBounds_toArray,List.set_cons_zero,List.set_cons_succ,zA,zF]
         rfl
        refine zX (i:=9) (N:=some 26) (v:= ?_) (a':= ?_) #[true,true,true,true,true,true,true,true,true,true] rfl rfl (zP HT_.out zq7) (fun _ _ _ h=>h) (Or.inl ⟨by rfl,?_⟩) ?_ ?_
        rotate_left
        ·intro w'
         go_simp
         with_reducible rfl
        rotate_left
        ·simp only [Act.put,List.setIfInBounds_toArray,List.set_cons_zero,List.set_cons_succ,zA,zF]
         rfl
        refine done_ (zwb HT_.out zq7) ?_
        try go_wp2
        go_roundg k1
        case measure=>have:=HK1.out;omega
        case rel=>exact ⟨(wrap64 (x5_1+1)),zq12,H',⟨by have:=HK1.out;omega⟩,⟨by repeat (first|(with_reducible first|exact HB.out|apply zg|apply zf|apply zm)|exact HB.out)⟩⟩
       ·replace c8:=Bool.eq_false_iff.mpr c8
        subst c8
        have H1:(none)=some r:=by rw [if_neg (show ¬(false=true) by decide)] at H;exact H
        clear H
        have H:=H1
        clear H1
        exact absurd H zq15
      ·rw [if_neg c6] at H
       exact absurd H zq15
     ·rw [if_neg c5] at H
      exact absurd H zq15
    ·rw [if_neg c4] at H
     have c4b0:decide (x5_1<(l0.length:Int))=false:=decide_eq_false c4
     clear c4
     obtain rfl:=Option.some.inj H
     go_wp2
     go_ret
     exact ⟨by first|rfl|(simp [zx,zw]<;>rfl)|(simp [*,zx,zw]<;>rfl),by repeat (first|(with_reducible first|exact HB.out|apply zg|apply zf|apply zm)|exact HB.out)⟩
 ·rw [if_neg c3] at H
  exact absurd H zq15
def laws_eqMeta.f (k:Nat) (a0_0:Int) (a0_1:Int) (a0_2:Int) (l0_3:List (S112)) (a1_0:Int) (a1_1:Int) (a1_2:Int) (l1_3:List (S112)):Option (Bool):=if a0_0=a1_0 then (if a0_1=a1_1 then (if a0_2=a1_2 then ((laws_eqFreeS.f k l0_3 l1_3).bind fun t122=>(if t122=true then (some true) else (none))) else (none)) else (none)) else (none)
theorem laws_eqMeta.calls (k:Nat) (a0_0:Int) (a0_1:Int) (a0_2:Int) (A0_3:Option Addr) (c0_3:Nat) (l0_3:List (S112)) (a1_0:Int) (a1_1:Int) (a1_2:Int) (A1_3:Option Addr) (c1_3:Nat) (l1_3:List (S112)) (r:Bool) (w:World) (hr0_3:Kd.C k112 w A0_3 l0_3.length l0_3) (hc0_3:l0_3.length≤c0_3) (hr1_3:Kd.C k112 w A1_3 l1_3.length l1_3) (hc1_3:l1_3.length≤c1_3) (h:laws_eqMeta.f k a0_0 a0_1 a0_2 l0_3 a1_0 a1_1 a1_2 l1_3=some r):
  Calls Tryz.prog 11 #[.agg #[.int .i64 a0_0,.int .i64 a0_1,.int .i64 a0_2,.slice A0_3 l0_3.length c0_3],.agg #[.int .i64 a1_0,.int .i64 a1_1,.int .i64 a1_2,.slice A1_3 l1_3.length c1_3]] w fun e w'=>e= .returned (.bool r)∧Below w.heap.size w w':=by
 have hu53:=Tryz.underlying40
 have HR0_3:=zz hr0_3
 have HC0_3:=zz hc0_3
 clear hr0_3 hc0_3
 have HR1_3:=zz hr1_3
 have HC1_3:=zz hc1_3
 clear hr1_3 hc1_3
 have HB:=zz (Below.refl w.heap.size w)
 have H:(if a0_0=a1_0 then (if a0_1=a1_1 then (if a0_2=a1_2 then ((laws_eqFreeS.f k l0_3 l1_3).bind fun t122=>(if t122=true then (some true) else (none))) else (none)) else (none)) else (none))=some r:=h
 clear h
 by_cases c3:a0_0=a1_0
 ·rw [if_pos c3] at H
  have c3b0:(a0_0==a1_0)=true:=beq_iff_eq.mpr c3
  have c3b1:(a0_0 !=a1_0)=false:=bne_eq_false_iff_eq.mpr c3
  clear c3
  by_cases c4:a0_1=a1_1
  ·rw [if_pos c4] at H
   have c4b0:(a0_1==a1_1)=true:=beq_iff_eq.mpr c4
   have c4b1:(a0_1 !=a1_1)=false:=bne_eq_false_iff_eq.mpr c4
   clear c4
   by_cases c5:a0_2=a1_2
   ·rw [if_pos c5] at H
    have c5b0:(a0_2==a1_2)=true:=beq_iff_eq.mpr c5
    have c5b1:(a0_2 !=a1_2)=false:=bne_eq_false_iff_eq.mpr c5
    clear c5
    replace H:=Option.bind_eq_some_iff.mp H
    obtain ⟨t122,A60,H⟩:=H
    replace H:(if t122=true then (some true) else (none))=some r:=H
    have A6:=zz A60
    clear A60
    by_cases c7:t122=true
    ·subst c7
     have H1:(some true)=some r:=by rw [if_pos rfl] at H;exact H
     clear H
     have H:=H1
     clear H1
     obtain rfl:=Option.some.inj H
     go_enter Tryz.func11,Tryz.ntmps11
     go_wp2_with (first|((with_reducible refine zv (N:=2) rfl ?_);refine zE ?hg (N:=2) ?hd (cs:= #[.int .i64 a0_0,.int .i64 a0_1,.int .i64 a0_2,.slice A0_3 l0_3.length c0_3]) (t:=40) ?hr ?_;(case hd=>rfl);(case hg=>rfl);(case hr=>first|(go_simp;done)|(go_simp;rfl));intro gb120 hg w8 hbox hb;have n0_:=zz (zk zq1 hb);have n1_:=zz (hbox);have n2_:=zz ((by rw [hg];exact (zi zq1):w.heap.size≤gb120));have n3_:=zz ((by rw [hg];exact (zi zq1):w.heap.size≤gb120));clear HB;have HB:=n0_;have BK120:=n1_;have GW120:=n2_;have GE120:=n3_;clear n0_ n1_ n2_ n3_;clear hb hbox hg)|((with_reducible refine zv (N:=3) rfl ?_);refine zE ?hg (N:=3) ?hd (cs:= #[.int .i64 a1_0,.int .i64 a1_1,.int .i64 a1_2,.slice A1_3 l1_3.length c1_3]) (t:=40) ?hr ?_;(case hd=>rfl);(case hg=>rfl);(case hr=>first|(go_simp;done)|(go_simp;rfl));intro gb121 hg w9 hbox hb;have n0_:=zz (zu (g:=gb120) (o:= .cells #[.int .i64 a0_0,.int .i64 a0_1,.int .i64 a0_2,.slice A0_3 l0_3.length c0_3] 40 (0,0)) (zq0 BK120.out) hb);have n1_:=zz (zk (zq3 GE120.out) hb);have n2_:=zz (hbox);have n3_:=zz ((by rw [hg];exact (zi (zq3 GE120.out)):w.heap.size≤gb121));have n4_:=zz ((by rw [hg];exact (zi (zq3 GE120.out)):w.heap.size≤gb121));have n5_:=zz ((by rw [hg];exact Nat.ne_of_lt (zG (g:=gb120) (o:= .cells #[.int .i64 a0_0,.int .i64 a0_1,.int .i64 a0_2,.slice A0_3 l0_3.length c0_3] 40 (0,0)) (zq0 BK120.out)):gb120≠gb121));have n6_:=zz ((by rw [hg];exact Nat.ne_of_gt (zG (g:=gb120) (o:= .cells #[.int .i64 a0_0,.int .i64 a0_1,.int .i64 a0_2,.slice A0_3 l0_3.length c0_3] 40 (0,0)) (zq0 BK120.out)):gb121≠gb120));clear BK120;clear HB;have BK120:=n0_;have HB:=n1_;have BK121:=n2_;have GW121:=n3_;have GE121:=n4_;have NB120_121:=n5_;have NB121_120:=n6_;clear n0_ n1_ n2_ n3_ n4_ n5_ n6_;clear hb hbox hg;have hnb10:=NB120_121.out;have hnc10:=NB121_120.out;have hcz11_0:w9.cell? ⟨gb120,0,none⟩=some (.int .i64 a0_0):=(ze BK120.out 0).trans rfl;have hcz11_1:w9.cell? ⟨gb120,1,none⟩=some (.int .i64 a0_1):=(ze BK120.out 1).trans rfl;have hcz11_2:w9.cell? ⟨gb120,2,none⟩=some (.int .i64 a0_2):=(ze BK120.out 2).trans rfl;have hcz11_3:w9.cell? ⟨gb120,3,none⟩=some (.slice A0_3 l0_3.length c0_3):=(ze BK120.out 3).trans rfl;have hfz11_0:=zd BK120.out 0;have hfz11_1:=zd BK120.out 1;have hfz11_2:=zd BK120.out 2;have hfz11_3:=zd BK120.out 3;have hcz12_0:w9.cell? ⟨gb121,0,none⟩=some (.int .i64 a1_0):=(ze BK121.out 0).trans rfl;have hcz12_1:w9.cell? ⟨gb121,1,none⟩=some (.int .i64 a1_1):=(ze BK121.out 1).trans rfl;have hcz12_2:w9.cell? ⟨gb121,2,none⟩=some (.int .i64 a1_2):=(ze BK121.out 2).trans rfl;have hcz12_3:w9.cell? ⟨gb121,3,none⟩=some (.slice A1_3 l1_3.length c1_3):=(ze BK121.out 3).trans rfl;have hfz12_0:=zd BK121.out 0;have hfz12_1:=zd BK121.out 1;have hfz12_2:=zd BK121.out 2;have hfz12_3:=zd BK121.out 3)|((with_reducible refine zB (f:=50) rfl ?_);refine zO (some 24) rfl rfl Tryz.func50 zq7 rfl #[.slice A0_3 l0_3.length c0_3,.slice A1_3 l1_3.length c1_3] rfl zq4 ?_;(with_reducible refine (laws_eqFreeS.calls k _ _ l0_3 _ _ l1_3 true _ ?side1 ?side2 ?side3 ?side4 A6.out).mono ?_);(case side1=>repeat (first|exact (Kd.C_below HR0_3.out HB.out)|(with_reducible refine Kd.C_alloc ?_ _)|(with_reducible refine Kd.C_drewN ?_ _)|(with_reducible refine Kd.C_drew ?_)));(case side2=>exact HC0_3.out);(case side3=>repeat (first|exact (Kd.C_below HR1_3.out HB.out)|(with_reducible refine Kd.C_alloc ?_ _)|(with_reducible refine Kd.C_drewN ?_ _)|(with_reducible refine Kd.C_drew ?_)));(case side4=>exact HC1_3.out);rintro e w13 ⟨rfl,hb⟩;refine ⟨_,rfl,?_⟩;have n0_:=zz (zu (g:=gb120) (o:= .cells #[.int .i64 a0_0,.int .i64 a0_1,.int .i64 a0_2,.slice A0_3 l0_3.length c0_3] 40 (0,0)) (zq0 BK120.out) hb);have n1_:=zz (zu (g:=gb121) (o:= .cells #[.int .i64 a1_0,.int .i64 a1_1,.int .i64 a1_2,.slice A1_3 l1_3.length c1_3] 40 (0,0)) (zq0 BK121.out) hb);have n2_:=zz (zk (zq2 GE120.out GE121.out) hb);clear BK120;clear BK121;clear HB;have BK120:=n0_;have BK121:=n1_;have HB:=n2_;clear n0_ n1_ n2_;(try clear hb);(try clear hb2);(try clear hk);(try clear hi)))
     go_ret
     exact ⟨by first|rfl|(simp [zx,zw]<;>rfl)|(simp [*,zx,zw]<;>rfl),by repeat (first|(with_reducible first|exact HB.out|apply zg|apply zf|apply zm|refine zr ?_ GE120.out|refine zr ?_ GE121.out)|exact HB.out)⟩
    ·replace c7:=Bool.eq_false_iff.mpr c7
     subst c7
     have H1:(none)=some r:=by rw [if_neg (show ¬(false=true) by decide)] at H;exact H
     clear H
     have H:=H1
     clear H1
     exact absurd H zq15
   ·rw [if_neg c5] at H
    exact absurd H zq15
  ·rw [if_neg c4] at H
   exact absurd H zq15
 ·rw [if_neg c3] at H
  exact absurd H zq15
def laws_heldFreeS.l0:Nat→List (S112)→Int→Int→Option (Int)
 |0,_,_,_=>none
 |k+1,x0,x1,x5=>if x5<(x0.length:Int) then (if 0≤x5 then (if ((zS x0 x5).f0)=x1 then ((laws_heldIntS.f k ((zS x0 x5).f1) (wrap64 (x1+1))).bind fun t172=>(if t172<0 then (none) else (laws_heldFreeS.l0 k x0 t172 (wrap64 (x5+1))))) else (none)) else (none)) else (some x1)
def laws_heldFreeS.f (k:Nat) (l0:List (S112)) (a1:Int):Option (Int):=laws_heldFreeS.l0 k l0 a1 0
def laws_heldMeta.f (k:Nat) (a0_0:Int) (a0_1:Int) (a0_2:Int) (l0_3:List (S112)) (a1:Int):Option (Int):=(laws_heldFreeS.f k l0_3 a1).bind fun t174=>(if t174<0 then (none) else (some t174))
theorem markIntS_Q (k:Nat) (P0_:Nat→Prop) (u9000_:Value) (l0:List Int) (a1:Int) (r1:Int) (r2:List Int) (w0 w:World) (hB:Below w0.heap.size w0 w) (ho0:Kd.Q (Kd.int .i64) 3 w w0.heap.size P0_ u9000_ l0) (h:laws_markIntS.f k l0 a1=some (r1,r2)):
  Calls Tryz.prog 100 #[u9000_,.int .i64 a1] w fun e w'=>e= .returned (.int .i64 r1)∧Kd.Q (Kd.int .i64) 3 w' w0.heap.size (fun k_=>(P0_ k_∨w.heap.size≤k_)) u9000_ r2∧Below w0.heap.size w0 w'∧Kept w w' (fun k_=>P0_ k_):=by
 have HO0:=zz (show Kd.Q (Kd.int .i64) 3 w w0.heap.size (fun k_=>(P0_ k_∨w.heap.size≤k_)) u9000_ l0 from Kd.Q_mono ho0 (fun k_ hk=>(.inl hk)))
 have HK:=zz (Kept.refl w (fun k_=>P0_ k_))
 have HW0:=zz hB.size
 have HB:=zz hB
 clear hB
 have H:(laws_markIntS.l0 k l0 a1 0)=some (r1,r2):=h
 clear h
 have H':=zz H
 clear H
 go_enter Tryz.func100,Tryz.ntmps100
 go_wp2
 go_loopg [1,5] k (fun kq v1 v5 w'=>∃(x0_1:List Int) (x1_1:Int) (x5_1:Int),v1= .int .i64 x1_1∧v5= .int .i64 x5_1∧Z0 (laws_markIntS.l0 kq x0_1 x1_1 x5_1=some (r1,r2))∧Z0 (kq≤k)∧Z0 (Kd.Q (Kd.int .i64) 3 w' w0.heap.size (fun k_=>(P0_ k_∨w.heap.size≤k_)) u9000_ x0_1)∧Z0 (Kept w w' (fun k_=>P0_ k_))∧Z0 (Below w0.heap.size w0 w'))
 case atStart=>exact ⟨(l0),(a1),(0),zq12,zq12,H',⟨Nat.le_refl _⟩,⟨by (with_reducible repeat (first|apply Kd.Q_alloc|apply Kd.Q_drewN|apply Kd.Q_drew));exact HO0.out⟩,⟨by repeat (first|(with_reducible first|exact HK.out|apply Kept.alloc|apply Kept.drewN|apply Kept.drew)|exact HK.out)⟩,⟨by repeat (first|(with_reducible first|exact HB.out|apply zg|apply zf|apply zm)|exact HB.out)⟩⟩
 case round=>
  clear H'
  obtain ⟨x0_1,x1_1,x5_1,rfl,rfl,HA,HK1,HO_0,HK,HB⟩:=hrel
  cases gk with
  |zero=>exact absurd HA.out (by simp [laws_markIntS.l0])
  |succ k1=>
   have H:=HA.out
   clear HA
   simp only [laws_markIntS.l0] at H
   by_cases c3:x5_1<(x0_1.length:Int)
   ·rw [if_pos c3] at H
    have c3b0:decide (x5_1<(x0_1.length:Int))=true:=decide_eq_true c3
    clear c3
    by_cases c4:0≤x5_1
    ·rw [if_pos c4] at H
     have c4b0:decide (0≤x5_1)=true:=decide_eq_true c4
     clear c4
     obtain ⟨y294,hy294⟩:∃y_:List Int,y_=(x0_1.set (x5_1:Int).toNat x1_1):=⟨_,rfl⟩
     replace H:(laws_markIntS.l0 k1 y294 (wrap64 (x1_1+1)) (wrap64 (x5_1+1)))=some (r1,r2):=by first|(rw [hy294];with_reducible exact H)|(have H2_:=(Option.bind_some _ _).symm.trans H;rw [hy294];with_reducible exact H2_)|(have H2_:=(Option.bind_some _ _).symm.trans H;with_reducible exact H2_)|with_reducible exact H|(rw [hy294];exact H)|exact H
     have Ny294:=zz hy294
     clear hy294
     have H':=zz H
     clear H
     obtain ⟨Ao6,co6,eo6,_⟩:=Kd.Q_slice HO_0.out
     subst eo6
     have p5:0≤(x5_1:Int):=of_decide_eq_true zq11
     have q5:(x5_1:Int)<((x0_1.length:Int):Int):=of_decide_eq_true zq11
     obtain ⟨go5,oo5,co5,eo5,gb5,gl5,cl5,HG5⟩:=Kd.Q_form HO_0.out zq5
     (first|cases eo5|(injection eo5 with ea_ en_ ec_;(first|subst ea_|(injection ea_ with ea_;subst ea_));subst ec_;clear en_))
     have GB5:=zz gb5
     have GG5:=zz HG5
     clear gb5 gl5 HG5
     have HMgo5:=zz (show (P0_ go5∨w.heap.size≤go5) from (HO_0.out.1 _ rfl))
     obtain ⟨hx5_0,hf5_0⟩:=Kd.Q_cell 0 HO_0.out (x5_1:Int) p5 q5
     have p5q:=p5
     have q5q:=q5
     replace p5:=eq_true p5
     replace q5:=eq_true q5
     have HP7:=Kd.Q_putg HO_0.out (x5_1:Int) p5q q5q x1_1
     go_wp2_with (first|((with_reducible refine zC (t:=3) (p:=15) rfl ?_);refine zca (t:=3) (p:=15) (v:= ?vo_w8) (w1:=(wr.setCell ⟨go5,oo5+(x5_1:Int).toNat,none⟩ (.int .i64 x1_1))) ?hg ?ho ?hn ?hr ?_;(case ho=>rfl);(case hg=>rfl);(case hn=>rfl);(case hr=>first|(go_simp;done)|(go_simp;rfl));intro w8 hw;have hg:wr.grownBy w8 (some go5):=(by rw [hw];exact HP7.2);have hp_:Kd.Q (Kd.int .i64) 3 w8 w0.heap.size (fun k_=>(P0_ k_∨w.heap.size≤k_)) (.slice (some ⟨go5,oo5,none⟩) x0_1.length co6) y294:=(by rw [hw,Ny294.out];exact HP7.1);clear HP7;have n0_:=zz (hp_);have n1_:=zz ((by rw [hw];exact zr (HB.out) GB5.out:Below w0.heap.size w0 w8));have n2_:=zz (Kept.of_grown (S:=(fun k_=>P0_ k_)) hg zq18 (fun k_ e_=>(HO_0.out.1 k_ e_)));clear HO_0;clear HB;clear HK;have HO_0:=n0_;have HB:=n1_;have HK:=n2_;clear n0_ n1_ n2_;clear hg hw hp_))
     go_roundg k1
     case measure=>have:=HK1.out;omega
     case rel=>exact ⟨(y294),(wrap64 (x1_1+1)),(wrap64 (x5_1+1)),zq12,zq12,H',⟨by have:=HK1.out;omega⟩,⟨by (with_reducible repeat (first|apply Kd.Q_alloc|apply Kd.Q_drewN|apply Kd.Q_drew));exact HO_0.out⟩,⟨by repeat (first|(with_reducible first|exact HK.out|apply Kept.alloc|apply Kept.drewN|apply Kept.drew)|exact HK.out)⟩,⟨by repeat (first|(with_reducible first|exact HB.out|apply zg|apply zf|apply zm)|exact HB.out)⟩⟩
    ·rw [if_neg c4] at H
     exact absurd H zq15
   ·rw [if_neg c3] at H
    have c3b0:decide (x5_1<(x0_1.length:Int))=false:=decide_eq_false c3
    clear c3
    simp only [Option.some.injEq,Prod.mk.injEq] at H
    obtain ⟨rfl,rfl⟩:=H
    obtain ⟨Ao9,co9,eo9,_⟩:=Kd.Q_slice HO_0.out
    subst eo9
    go_wp2
    go_ret
    exact ⟨by first|rfl|(simp [zx,zw]<;>rfl)|(simp [*,zx,zw]<;>rfl),by (with_reducible repeat (first|apply Kd.Q_alloc|apply Kd.Q_drewN|apply Kd.Q_drew));exact HO_0.out,by repeat (first|(with_reducible first|exact HB.out|apply zg|apply zf|apply zm)|exact HB.out),by repeat (first|(with_reducible first|exact HK.out|apply Kept.alloc|apply Kept.drewN|apply Kept.drew)|exact HK.out)⟩
def markF.l0:Nat→List S112→Int→Int→Option (Int×List S112)
 |0,_,_,_=>none
 |k+1,xs,a,i=>if i<(xs.length:Int) then (if 0≤i then (laws_markIntS.f k (zS xs i).f1 (wrap64 (a+1))).bind fun b=>markF.l0 k (xs.set i.toNat (⟨a,b.2⟩:S112)) b.1 (wrap64 (i+1)) else none) else some (a,xs)
theorem markFreeS_o (k:Nat) (ok:Nat→Prop) (v:Value) (l0:List S112) (a r:Int) (r2:List S112) (w0 w:World) (hB:Below w0.heap.size w0 w) (hS:Kd.S k112 112 w w0.heap.size ok v l0) (h:markF.l0 k l0 a 0=some (r,r2)):
  Calls Tryz.prog 55 #[v,.int .i64 a] w fun e w'=>e= .returned (.int .i64 r)∧Kd.S k112 112 w' w0.heap.size ok v r2∧Below w0.heap.size w0 w'∧Kept w w' ok:=by
 obtain ⟨A,cc,rfl⟩:=Kd.S_slice hS
 have HO:=zz hS
 have HK:=zz (Kept.refl w ok)
 have HB:=zz hB
 have H':=zz h
 clear h hB hS
 go_enter Tryz.func55,Tryz.ntmps55
 go_wp2
 go_loopg [1,5] k (fun kq v1 v5 w'=>∃(xs:List S112) (x1:Int) (x5:Int),v1= .int .i64 x1∧v5= .int .i64 x5∧Z0 (markF.l0 kq xs x1 x5=some (r,r2))∧Z0 (kq≤k)∧Z0 (Kd.S k112 112 w' w0.heap.size ok (.slice A l0.length cc) xs)∧Z0 (Kept w w' ok)∧Z0 (Below w0.heap.size w0 w'))
 case atStart=>exact ⟨l0,a,0,rfl,rfl,H',⟨Nat.le_refl _⟩,HO,HK,HB⟩
 case round=>
  clear H' HO HK HB
  obtain ⟨xs,x1,x5,rfl,rfl,HA,HK1,HO,HK,HB⟩:=hrel
  have hlen:=zz (Kd.S_reads' HO.out).1
  cases gk with
  |zero=>exact absurd HA.out (by simp [markF.l0])
  |succ k1=>
   have H:=HA.out
   clear HA
   simp only [markF.l0,←hlen.out] at H
   by_cases c3:x5<(l0.length:Int)
   ·rw [if_pos c3] at H
    by_cases c4:0≤x5
    ·rw [if_pos c4] at H
     obtain ⟨⟨t,ys⟩,A0,H⟩:=Option.bind_eq_some_iff.mp H
     have MA:=zz A0
     have H':=zz H
     clear A0 H
     have c3b:decide (x5<(l0.length:Int))=true:=decide_eq_true c3
     have c4b:decide (0≤x5)=true:=decide_eq_true c4
     have c3x:x5<(xs.length:Int):=by rw [←hlen.out];exact c3
     obtain ⟨g,cap,hv,gb,gl,cl,HG⟩:=Kd.S_form HO.out zq5
     injection hv with hA hn hc;subst hA;subst hc;clear hn
     obtain ⟨oki,c,hcl,hM,hcc,hfr,hoki,hH⟩:=Kd.S_elem HO.out z112 x5 c4 c3
     obtain ⟨el,hel⟩:∃el,el=xs.getD x5.toNat z112:=⟨_,rfl⟩
     rw [←hel] at hM
     have hel2:zS xs x5=el:=hel.symm
     rw [hel2] at MA
     clear hel hel2
     obtain ⟨v1,rfl,R1⟩:=k112_openM hM
     obtain ⟨A1,c1,rfl⟩:=Kd.R_slice R1
     have hx0:=hcc 0 _ rfl
     have hx1:=hcc 1 _ rfl
     have hf0:=hfr 0
     have hf1:=hfr 1
     rw [show k112.sz=2 from rfl,Nat.add_zero] at hx0 hf0
     rw [show k112.sz=2 from rfl] at hx1 hf1
     have hP:=Kd.H_seg hH c4 c3 (seg:=[.int .i64 x1]) (j:=0) (show 0+1≤2 from by decide) (by intro q hq;rw [List.mem_singleton.1 hq];rfl)
     rw [show k112.sz=2 from rfl,Nat.add_zero] at hP
     have HH:=zz (show Kd.H k112 112 (wr.setCell ⟨g,x5.toNat*2,none⟩ (.int .i64 x1)) w0.heap.size ok (.slice (some ⟨g,0,none⟩) l0.length cc) xs x5 oki [.int .i64 x1,.slice A1 el.f1.length c1] from hP.1)
     have HGr:=zz (show wr.grownBy (wr.setCell ⟨g,x5.toNat*2,none⟩ (.int .i64 x1)) (some g) from hP.2)
     have hok:=HO.out.choose_spec.1 g rfl
     have OKI:=zz hoki
     have RI:=zz R1
     have GB:=zz gb
     have OG:=zz hok
     clear hcc hfr hoki hH hM R1 hcl hP HO c3x hok gb H
     go_wp2_with fail
     clear hx0 hx1 hf0 hf1
     obtain ⟨W1,hW1⟩:∃W,W=wr.setCell ⟨g,x5.toNat*2,none⟩ (.int .i64 x1):=⟨_,rfl⟩
     rw [←hW1] at HH HGr
     rw [←hW1]
     clear hW1
     have n0:=zz (Kept.of_grown HGr.out HK.out (fun k e=>by injection e with e;subst e;exact .inl OG.out))
     have n1:=zz (Below.grown HB.out HGr.out (Below.size HB.out) (fun k e=>by injection e with e;subst e;exact GB.out))
     have n2:=zz (Kd.R_grown RI.out HGr.out (fun k hk e=>by injection e with e;exact (OKI.out k hk).2 e))
     clear HK HB RI HGr
     ((with_reducible refine (laws_markIntS.calls k1 oki _ el.f1 (wrap64 (x1+1)) t ys w0 _ n1.out n2.out MA.out).mono ?_);rintro e w2 ⟨rfl,hR,hB2,hK2⟩)
     have HB:=zz hB2
     have HK:=zz (Kept.then_ n0.out hK2 (fun k h=> .inl (OKI.out k h).1))
     have RI:=zz (Own.R_tight2 rfl hR n2.out.1)
     have H2:=zz (Kd.H_step HH.out (fun k h1 h2 h3=>hK2.2 k h3 h2))
     have HS:=zz (Kd.H_back H2.out (x':=(⟨x1,ys⟩:S112)) (okp:=oki) (by
      have hl:=(Kd.R_reads' RI.out).1
      rw [hl]
      have h3:=RI.out
      rw [hl] at h3
      exact zDb _ _ _ (⟨x1,ys⟩:S112) h3) (fun _ h=>h))
     clear n0 n1 n2 hR hB2 hK2 HH H2 RI
     go_wp2
     go_roundg k1
     case measure=>have:=HK1.out;omega
     case rel=>exact ⟨_,_,_,rfl,rfl,H',⟨by have:=HK1.out;omega⟩,HS,HK,HB⟩
    ·rw [if_neg c4] at H
     exact absurd H zq15
   ·rw [if_neg c3] at H
    have c3b:decide (x5<(l0.length:Int))=false:=decide_eq_false c3
    obtain ⟨rfl,rfl⟩:x1=r∧xs=r2:=by simpa using H
    go_wp2
    go_ret
    exact ⟨rfl,HO.out,HB.out,HK.out⟩
def kDisk:Kd ((List ByteArray)×(List S110)):=Own.apair (Own.srow 9 Kd.string) (Own.srow 110 k110)
theorem zma {w:World} {l0:List ByteArray} {l1:List S110} {cs:List Value} (h:kDisk.K w (l0,l1) cs):∃A0 c0 A1 c1,cs=[.slice A0 l0.length c0,.slice A1 l1.length c1]∧l0.length≤c0∧Kd.C Kd.string w A0 l0.length l0∧l1.length≤c1∧Kd.C k110 w A1 l1.length l1:=by
 obtain ⟨y0,_,rfl,⟨A0,c0,rfl,m0,r0⟩,⟨A1,c1,rfl,m1,r1⟩⟩:=h
 exact ⟨A0,c0,A1,c1,rfl,m0,r0,m1,r1⟩
theorem kDisk_openM {w:World} {base:Nat} {ok:Nat→Prop} {l0:List ByteArray} {l1:List S110} {cs:List Value} (h:kDisk.M w base ok (l0,l1) cs):∃v0 v1,∃P0 P1:Nat→Prop,cs=[v0,v1]∧Kd.R Kd.string 9 w base P0 v0 l0∧Kd.R k110 110 w base P1 v1 l1∧(∀k,P0 k→ok k)∧(∀k,P1 k→ok k)∧(∀k,P0 k→¬P1 k):=by
 obtain ⟨c0,d0,P0,B0,rfl,h0,h,a0,b0,x0⟩:=Own.apair_open h
 have h1:=h
 obtain ⟨v0,e0,h0⟩:=h0
 subst e0
 obtain ⟨v1,e1,h1⟩:=h1
 subst e1
 exact ⟨v0,v1,P0,B0,rfl,Kd.S_R h0,Kd.S_R h1,fun k h2=>a0 k h2,fun k h2=>b0 k (h2),fun k h1 h2=>x0 k h1 (h2)⟩
theorem zSa {w:World} {base:Nat} {ok:Nat→Prop} {l0:List ByteArray} {l1:List S110} {v0:Value} {P0:Nat→Prop} {v1:Value} {P1:Nat→Prop} (r0:Kd.R Kd.string 9 w base P0 v0 l0) (r1:Kd.R k110 110 w base P1 v1 l1) (o0:∀k,P0 k→ok k) (o1:∀k,P1 k→ok k) (x0_1:∀k,P0 k→¬P1 k):kDisk.M w base ok (l0,l1) [v0,v1]:=by
 have t1:=(show (Own.srow 110 k110).M w base P1 l1 [v1] from ((Own.srow 110 k110).M_mono (fun k hk=>(r1.1 k hk.symm)) (Own.srow_of_R rfl r1)))
 have t0:=Own.apair_mk (ok:=ok) (okA:=fun k=>P0 k) (okB:=fun k=>P1 k) (show (Own.srow 9 Kd.string).M w base P0 l0 [v0] from ((Own.srow 9 Kd.string).M_mono (fun k hk=>(r0.1 k hk.symm)) (Own.srow_of_R rfl r0))) t1 (fun k h=>o0 k h) (fun k h=>o1 k h) (fun k h1 h2=>x0_1 k h1 h2)
 exact t0
def kDiskL:Kd ((List ByteArray)×(List S156)):=Own.apair (Own.srow 9 Kd.string) (Own.srow 156 k156)
theorem kDiskL_open {w:World} {l0:List ByteArray} {l1:List S156} {cs:List Value} (h:kDiskL.K w (l0,l1) cs):∃A0 c0 A1 c1,cs=[.slice A0 l0.length c0,.slice A1 l1.length c1]∧l0.length≤c0∧Kd.C Kd.string w A0 l0.length l0∧l1.length≤c1∧Kd.C k156 w A1 l1.length l1:=by
 obtain ⟨y0,_,rfl,⟨A0,c0,rfl,m0,r0⟩,⟨A1,c1,rfl,m1,r1⟩⟩:=h
 exact ⟨A0,c0,A1,c1,rfl,m0,r0,m1,r1⟩
def kWork:Kd ((List ByteArray)×(List S110)×Int×(List Int)×(List Int)×(List Int)):=Own.apair (Own.srow 9 Kd.string) (Own.apair (Own.srow 110 k110) (Own.apair (Kd.int .i64) (Own.apair (Own.arow 3 (Kd.int .i64)) (Own.apair (Own.arow 3 (Kd.int .i64)) (Own.arow 3 (Kd.int .i64))))))
theorem kWork_open {w:World} {l0:List ByteArray} {l1:List S110} {l2:Int} {l3:List Int} {l4:List Int} {l5:List Int} {cs:List Value} (h:kWork.K w (l0,l1,l2,l3,l4,l5) cs):∃A0 c0 A1 c1 A3 c3 A4 c4 A5 c5,cs=[.slice A0 l0.length c0,.slice A1 l1.length c1,.int .i64 l2,.slice A3 l3.length c3,.slice A4 l4.length c4,.slice A5 l5.length c5]∧l0.length≤c0∧Kd.C Kd.string w A0 l0.length l0∧l1.length≤c1∧Kd.C k110 w A1 l1.length l1∧l3.length≤c3∧Kd.C (Kd.int .i64) w A3 l3.length l3∧l4.length≤c4∧Kd.C (Kd.int .i64) w A4 l4.length l4∧l5.length≤c5∧Kd.C (Kd.int .i64) w A5 l5.length l5:=by
 obtain ⟨y0,_,rfl,⟨A0,c0,rfl,m0,r0⟩,⟨y1,_,rfl,⟨A1,c1,rfl,m1,r1⟩,⟨y2,_,rfl,e2,⟨y3,_,rfl,⟨A3,c3,rfl,m3,r3⟩,⟨y4,_,rfl,⟨A4,c4,rfl,m4,r4⟩,⟨A5,c5,rfl,m5,r5⟩⟩⟩⟩⟩⟩:=h
 obtain rfl:y2=[.int .i64 l2]:=e2
 exact ⟨A0,c0,A1,c1,A3,c3,A4,c4,A5,c5,rfl,m0,r0,m1,r1,m3,r3,m4,r4,m5,r5⟩
theorem kWork_openM {w:World} {base:Nat} {ok:Nat→Prop} {l0:List ByteArray} {l1:List S110} {l2:Int} {l3:List Int} {l4:List Int} {l5:List Int} {cs:List Value} (h:kWork.M w base ok (l0,l1,l2,l3,l4,l5) cs):∃v0 v1 v3 v4 v5,∃P0 P1 P3 P4 P5:Nat→Prop,cs=[v0,v1,.int .i64 l2,v3,v4,v5]∧Kd.R Kd.string 9 w base P0 v0 l0∧Kd.R k110 110 w base P1 v1 l1∧Kd.Q (Kd.int .i64) 3 w base P3 v3 l3∧Kd.Q (Kd.int .i64) 3 w base P4 v4 l4∧Kd.Q (Kd.int .i64) 3 w base P5 v5 l5∧(∀k,P0 k→ok k)∧(∀k,P1 k→ok k)∧(∀k,P3 k→ok k)∧(∀k,P4 k→ok k)∧(∀k,P5 k→ok k)∧(∀k,P0 k→¬P1 k)∧(∀k,P0 k→¬P3 k)∧(∀k,P0 k→¬P4 k)∧(∀k,P0 k→¬P5 k)∧(∀k,P1 k→¬P3 k)∧(∀k,P1 k→¬P4 k)∧(∀k,P1 k→¬P5 k)∧(∀k,P3 k→¬P4 k)∧(∀k,P3 k→¬P5 k)∧(∀k,P4 k→¬P5 k):=by
 obtain ⟨c0,d0,P0,B0,rfl,h0,h,a0,b0,x0⟩:=Own.apair_open h
 obtain ⟨c1,d1,P1,B1,rfl,h1,h,a1,b1,x1⟩:=Own.apair_open h
 obtain ⟨c2,d2,P2,B2,rfl,h2,h,a2,b2,x2⟩:=Own.apair_open h
 obtain ⟨c3,d3,P3,B3,rfl,h3,h,a3,b3,x3⟩:=Own.apair_open h
 obtain ⟨c4,d4,P4,B4,rfl,h4,h,a4,b4,x4⟩:=Own.apair_open h
 have h5:=h
 obtain ⟨v0,e0,h0⟩:=h0
 subst e0
 obtain ⟨v1,e1,h1⟩:=h1
 subst e1
 obtain rfl:c2=[.int .i64 l2]:=h2
 obtain ⟨v3,f3,e3,h3⟩:=h3
 subst e3
 obtain ⟨v4,f4,e4,h4⟩:=h4
 subst e4
 obtain ⟨v5,f5,e5,h5⟩:=h5
 subst e5
 exact ⟨v0,v1,v3,v4,v5,P0,P1,P3,P4,B4,rfl,Kd.S_R h0,Kd.S_R h1,Own.tagQ h3,Own.tagQ h4,Own.tagQ h5,fun k h2=>a0 k h2,fun k h2=>b0 k (a1 k h2),fun k h2=>b0 k (b1 k (b2 k (a3 k h2))),fun k h2=>b0 k (b1 k (b2 k (b3 k (a4 k h2)))),fun k h2=>b0 k (b1 k (b2 k (b3 k (b4 k (h2))))),fun k h1 h2=>x0 k h1 (a1 k h2),fun k h1 h2=>x0 k h1 (b1 k (b2 k (a3 k h2))),fun k h1 h2=>x0 k h1 (b1 k (b2 k (b3 k (a4 k h2)))),fun k h1 h2=>x0 k h1 (b1 k (b2 k (b3 k (b4 k (h2))))),fun k h1 h2=>x1 k h1 (b2 k (a3 k h2)),fun k h1 h2=>x1 k h1 (b2 k (b3 k (a4 k h2))),fun k h1 h2=>x1 k h1 (b2 k (b3 k (b4 k (h2)))),fun k h1 h2=>x3 k h1 (a4 k h2),fun k h1 h2=>x3 k h1 (b4 k (h2)),fun k h1 h2=>x4 k h1 (h2)⟩
theorem kWork_mkM {w:World} {base:Nat} {ok:Nat→Prop} {l0:List ByteArray} {l1:List S110} {l2:Int} {l3:List Int} {l4:List Int} {l5:List Int} {v0:Value} {P0:Nat→Prop} {v1:Value} {P1:Nat→Prop} {v3:Value} {P3:Nat→Prop} {v4:Value} {P4:Nat→Prop} {v5:Value} {P5:Nat→Prop} (r0:Kd.R Kd.string 9 w base P0 v0 l0) (r1:Kd.R k110 110 w base P1 v1 l1) (r3:Kd.Q (Kd.int .i64) 3 w base P3 v3 l3) (r4:Kd.Q (Kd.int .i64) 3 w base P4 v4 l4) (r5:Kd.Q (Kd.int .i64) 3 w base P5 v5 l5) (o0:∀k,P0 k→ok k) (o1:∀k,P1 k→ok k) (o3:∀k,P3 k→ok k) (o4:∀k,P4 k→ok k) (o5:∀k,P5 k→ok k) (x0_1:∀k,P0 k→¬P1 k) (x0_3:∀k,P0 k→¬P3 k) (x0_4:∀k,P0 k→¬P4 k) (x0_5:∀k,P0 k→¬P5 k) (x1_3:∀k,P1 k→¬P3 k) (x1_4:∀k,P1 k→¬P4 k) (x1_5:∀k,P1 k→¬P5 k) (x3_4:∀k,P3 k→¬P4 k) (x3_5:∀k,P3 k→¬P5 k) (x4_5:∀k,P4 k→¬P5 k):kWork.M w base ok (l0,l1,l2,l3,l4,l5) [v0,v1,.int .i64 l2,v3,v4,v5]:=by
 have t5:=(show (Own.arow 3 (Kd.int .i64)).M w base P5 l5 [v5] from Own.arow_of_Q rfl r5)
 have t4:=Own.apair_mk (ok:=fun k=>P4 k∨P5 k) (okA:=fun k=>P4 k) (okB:=fun k=>P5 k) (show (Own.arow 3 (Kd.int .i64)).M w base P4 l4 [v4] from Own.arow_of_Q rfl r4) t5 (fun k h=> .inl h) (fun k h=> .inr h) (fun k h1 h2=>x4_5 k h1 h2)
 have t3:=Own.apair_mk (ok:=fun k=>P3 k∨P4 k∨P5 k) (okA:=fun k=>P3 k) (okB:=fun k=>P4 k∨P5 k) (show (Own.arow 3 (Kd.int .i64)).M w base P3 l3 [v3] from Own.arow_of_Q rfl r3) t4 (fun k h=> .inl h) (fun k h=> .inr h) (fun k h1 h=>by
  rcases h with h|h
  ·exact x3_4 k h1 h
  ·exact x3_5 k h1 h)
 have t2:=Own.apair_mk (ok:=fun k=>P3 k∨P4 k∨P5 k) (okA:=fun _=>False) (okB:=fun k=>P3 k∨P4 k∨P5 k) (show (Kd.int .i64).M w base (fun _=>False) l2 [.int .i64 l2] from rfl) t3 (fun k h=>h.elim) (fun k h=>h) (fun k h1 _=>h1.elim)
 have t1:=Own.apair_mk (ok:=fun k=>P1 k∨P3 k∨P4 k∨P5 k) (okA:=fun k=>P1 k) (okB:=fun k=>P3 k∨P4 k∨P5 k) (show (Own.srow 110 k110).M w base P1 l1 [v1] from ((Own.srow 110 k110).M_mono (fun k hk=>(r1.1 k hk.symm)) (Own.srow_of_R rfl r1))) t2 (fun k h=> .inl h) (fun k h=> .inr h) (fun k h1 h=>by
  rcases h with h|h|h
  ·exact x1_3 k h1 h
  ·exact x1_4 k h1 h
  ·exact x1_5 k h1 h)
 have t0:=Own.apair_mk (ok:=ok) (okA:=fun k=>P0 k) (okB:=fun k=>P1 k∨P3 k∨P4 k∨P5 k) (show (Own.srow 9 Kd.string).M w base P0 l0 [v0] from ((Own.srow 9 Kd.string).M_mono (fun k hk=>(r0.1 k hk.symm)) (Own.srow_of_R rfl r0))) t1 (fun k h=>o0 k h) (fun k h=>by
  rcases h with h|h|h|h
  ·exact o1 k h
  ·exact o3 k h
  ·exact o4 k h
  ·exact o5 k h) (fun k h1 h=>by
  rcases h with h|h|h|h
  ·exact x0_1 k h1 h
  ·exact x0_3 k h1 h
  ·exact x0_4 k h1 h
  ·exact x0_5 k h1 h)
 exact t0
def kWorkL:Kd ((List ByteArray)×(List S156)×Int×(List Int)×(List Int)×(List Int)):=Own.apair (Own.srow 9 Kd.string) (Own.apair (Own.srow 156 k156) (Own.apair (Kd.int .i64) (Own.apair (Own.arow 3 (Kd.int .i64)) (Own.apair (Own.arow 3 (Kd.int .i64)) (Own.arow 3 (Kd.int .i64))))))
theorem kWorkL_open {w:World} {l0:List ByteArray} {l1:List S156} {l2:Int} {l3:List Int} {l4:List Int} {l5:List Int} {cs:List Value} (h:kWorkL.K w (l0,l1,l2,l3,l4,l5) cs):∃A0 c0 A1 c1 A3 c3 A4 c4 A5 c5,cs=[.slice A0 l0.length c0,.slice A1 l1.length c1,.int .i64 l2,.slice A3 l3.length c3,.slice A4 l4.length c4,.slice A5 l5.length c5]∧l0.length≤c0∧Kd.C Kd.string w A0 l0.length l0∧l1.length≤c1∧Kd.C k156 w A1 l1.length l1∧l3.length≤c3∧Kd.C (Kd.int .i64) w A3 l3.length l3∧l4.length≤c4∧Kd.C (Kd.int .i64) w A4 l4.length l4∧l5.length≤c5∧Kd.C (Kd.int .i64) w A5 l5.length l5:=by
 obtain ⟨y0,_,rfl,⟨A0,c0,rfl,m0,r0⟩,⟨y1,_,rfl,⟨A1,c1,rfl,m1,r1⟩,⟨y2,_,rfl,e2,⟨y3,_,rfl,⟨A3,c3,rfl,m3,r3⟩,⟨y4,_,rfl,⟨A4,c4,rfl,m4,r4⟩,⟨A5,c5,rfl,m5,r5⟩⟩⟩⟩⟩⟩:=h
 obtain rfl:y2=[.int .i64 l2]:=e2
 exact ⟨A0,c0,A1,c1,A3,c3,A4,c4,A5,c5,rfl,m0,r0,m1,r1,m3,r3,m4,r4,m5,r5⟩
theorem kWorkL_mk {w:World} {l0:List ByteArray} {l1:List S156} {l2:Int} {l3:List Int} {l4:List Int} {l5:List Int} {A0:Option Addr} {c0:Nat} {A1:Option Addr} {c1:Nat} {A3:Option Addr} {c3:Nat} {A4:Option Addr} {c4:Nat} {A5:Option Addr} {c5:Nat} (m0:l0.length≤c0) (r0:Kd.C Kd.string w A0 l0.length l0) (m1:l1.length≤c1) (r1:Kd.C k156 w A1 l1.length l1) (m3:l3.length≤c3) (r3:Kd.C (Kd.int .i64) w A3 l3.length l3) (m4:l4.length≤c4) (r4:Kd.C (Kd.int .i64) w A4 l4.length l4) (m5:l5.length≤c5) (r5:Kd.C (Kd.int .i64) w A5 l5.length l5):kWorkL.K w (l0,l1,l2,l3,l4,l5) [.slice A0 l0.length c0,.slice A1 l1.length c1,.int .i64 l2,.slice A3 l3.length c3,.slice A4 l4.length c4,.slice A5 l5.length c5]:=⟨[_],[_,_,_,_,_],rfl,⟨A0,c0,rfl,m0,r0⟩,⟨[_],[_,_,_,_],rfl,⟨A1,c1,rfl,m1,r1⟩,⟨[_],[_,_,_],rfl,rfl,⟨[_],[_,_],rfl,⟨A3,c3,rfl,m3,r3⟩,⟨[_],[_],rfl,⟨A4,c4,rfl,m4,r4⟩,⟨A5,c5,rfl,m5,r5⟩⟩⟩⟩⟩⟩
theorem markWork_o (k:Nat) (l0:List ByteArray) (l1:List S110) (l2:Int) (l3:List Int) (l4:List Int) (l5:List Int) (q0:List ByteArray) (q1:List S110) (q3:List Int) (q4:List Int) (q5:List Int) (a t1 t2 t3 r:Int) (ok:Nat→Prop) {cs:List Value} (w0 w:World) (hB:Below w0.heap.size w0 w) (hk:∀k,ok k→k<w.heap.size) (h:kWork.M w w0.heap.size ok (l0,l1,l2,l3,l4,l5) cs)
  (f1:laws_markDisk.f k l0 l1 a=some (t1,q0,q1)) (f2:laws_markIntS.f k l3 t1=some (t2,q3)) (f3:laws_markIntS.f k l4 t2=some (t3,q4)) (f4:laws_markIntS.f k l5 t3=some (r,q5)):
  Calls Tryz.prog 52 #[.agg cs.toArray,.int .i64 a] w fun e w'=>e= .returned (.int .i64 r)∧kWork.M w' w0.heap.size ok (q0,q1,l2,q3,q4,q5) cs∧Below w0.heap.size w0 w'∧Kept w w' ok:=by
 obtain ⟨v0,v1,v3,v4,v5,P0,P1,P3,P4,P5,rfl,R0,R1,R3,R4,R5,o0,o1,o3,o4,o5,x01,x03,x04,x05,x13,x14,x15,x34,x35,x45⟩:=kWork_openM h
 have bd0:∀k,P0 k→k<w.heap.size:=fun k h=>hk k (o0 k h)
 have bd1:∀k,P1 k→k<w.heap.size:=fun k h=>hk k (o1 k h)
 have bd3:∀k,P3 k→k<w.heap.size:=fun k h=>hk k (o3 k h)
 have bd4:∀k,P4 k→k<w.heap.size:=fun k h=>hk k (o4 k h)
 have bd5:∀k,P5 k→k<w.heap.size:=fun k h=>hk k (o5 k h)
 clear h
 obtain ⟨A0,c0,rfl⟩:=Kd.R_slice R0
 obtain ⟨A1,c1,rfl⟩:=Kd.R_slice R1
 obtain ⟨A3,c3,rfl,_⟩:=Kd.Q_slice R3
 obtain ⟨A4,c4,rfl,_⟩:=Kd.Q_slice R4
 obtain ⟨A5,c5,rfl,_⟩:=Kd.Q_slice R5
 have e0:=R0.1
 have e1:=R1.1
 have e3:=R3.1
 have e4:=R4.1
 have e5:=R5.1
 have K1:=zz f1
 have K2:=zz f2
 have K3:=zz f3
 have K4:=zz f4
 clear f1 f2 f3 f4
 replace R0:=zz (Kd.R_alloc R0 (.cells #[.slice A0 l0.length c0,.slice A1 l1.length c1,.int .i64 l2,.slice A3 l3.length c3,.slice A4 l4.length c4,.slice A5 l5.length c5] 44))
 replace R1:=zz (Kd.R_alloc R1 (.cells #[.slice A0 l0.length c0,.slice A1 l1.length c1,.int .i64 l2,.slice A3 l3.length c3,.slice A4 l4.length c4,.slice A5 l5.length c5] 44))
 replace R3:=zz (Kd.Q_alloc R3 (.cells #[.slice A0 l0.length c0,.slice A1 l1.length c1,.int .i64 l2,.slice A3 l3.length c3,.slice A4 l4.length c4,.slice A5 l5.length c5] 44))
 replace R4:=zz (Kd.Q_alloc R4 (.cells #[.slice A0 l0.length c0,.slice A1 l1.length c1,.int .i64 l2,.slice A3 l3.length c3,.slice A4 l4.length c4,.slice A5 l5.length c5] 44))
 replace R5:=zz (Kd.Q_alloc R5 (.cells #[.slice A0 l0.length c0,.slice A1 l1.length c1,.int .i64 l2,.slice A3 l3.length c3,.slice A4 l4.length c4,.slice A5 l5.length c5] 44))
 have HB:=zz (Own.below_more hB (.cells #[.slice A0 l0.length c0,.slice A1 l1.length c1,.int .i64 l2,.slice A3 l3.length c3,.slice A4 l4.length c4,.slice A5 l5.length c5] 44))
 have BX:=zz (zka w (.cells #[.slice A0 l0.length c0,.slice A1 l1.length c1,.int .i64 l2,.slice A3 l3.length c3,.slice A4 l4.length c4,.slice A5 l5.length c5] 44))
 have HK:=zz (Kept.alloc (Kept.refl w ok) (.cells #[.slice A0 l0.length c0,.slice A1 l1.length c1,.int .i64 l2,.slice A3 l3.length c3,.slice A4 l4.length c4,.slice A5 l5.length c5] 44))
 have L0:=zz hB.size
 clear hB
 have O0:=zz o0
 have O1:=zz o1
 have O3:=zz o3
 have O4:=zz o4
 have O5:=zz o5
 have X01:=zz x01
 have X03:=zz x03
 have X04:=zz x04
 have X05:=zz x05
 have X13:=zz x13
 have X14:=zz x14
 have X15:=zz x15
 have X34:=zz x34
 have X35:=zz x35
 have X45:=zz x45
 clear o0 o1 o3 o4 o5 x01 x03 x04 x05 x13 x14 x15 x34 x35 x45
 have bx:∀k,P0 k∨P1 k∨P3 k∨P4 k∨P5 k→k<(w.alloc (.cells #[.slice A0 l0.length c0,.slice A1 l1.length c1,.int .i64 l2,.slice A3 l3.length c3,.slice A4 l4.length c4,.slice A5 l5.length c5] 44)).heap.size→True:=fun _ _ _=>trivial
 clear bx
 have nb0:¬P0 w.heap.size:=fun h=>Nat.lt_irrefl _ (bd0 _ h)
 have nb1:¬P1 w.heap.size:=fun h=>Nat.lt_irrefl _ (bd1 _ h)
 have nb3:¬P3 w.heap.size:=fun h=>Nat.lt_irrefl _ (bd3 _ h)
 have nb4:¬P4 w.heap.size:=fun h=>Nat.lt_irrefl _ (bd4 _ h)
 have nb5:¬P5 w.heap.size:=fun h=>Nat.lt_irrefl _ (bd5 _ h)
 go_enter Tryz.func52,Tryz.ntmps52
 have hx0:(w.alloc (.cells #[.slice A0 l0.length c0,.slice A1 l1.length c1,.int .i64 l2,.slice A3 l3.length c3,.slice A4 l4.length c4,.slice A5 l5.length c5] 44)).cell? ⟨w.heap.size,0,none⟩=some (.slice A0 l0.length c0):=(ze BX.out 0).trans rfl
 have hx1:(w.alloc (.cells #[.slice A0 l0.length c0,.slice A1 l1.length c1,.int .i64 l2,.slice A3 l3.length c3,.slice A4 l4.length c4,.slice A5 l5.length c5] 44)).cell? ⟨w.heap.size,1,none⟩=some (.slice A1 l1.length c1):=(ze BX.out 1).trans rfl
 go_wp2_with fail
 clear hx0 hx1
 ((with_reducible refine (laws_markDisk.calls k P0 _ l0 P1 _ l1 a t1 q0 q1 w0 _ HB.out R0.out R1.out K1.out).mono ?_);rintro e w1 ⟨rfl,G0,G1,hB1,hK1⟩)
 clear HB R0 R1
 have HB:=zz hB1
 have hK2:=zz hK1
 have R0:=zz G0
 have R1:=zz G1
 replace R3:=zz (Kd.Q_kept R3.out hK1 (fun k hk h=>h.elim (fun h=>X03.out k h hk) (fun h=>X13.out k h hk)))
 replace R4:=zz (Kd.Q_kept R4.out hK1 (fun k hk h=>h.elim (fun h=>X04.out k h hk) (fun h=>X14.out k h hk)))
 replace R5:=zz (Kd.Q_kept R5.out hK1 (fun k hk h=>h.elim (fun h=>X05.out k h hk) (fun h=>X15.out k h hk)))
 replace BX:=zz (znb BX.out hK1 (fun h=>h.elim (fun h=>nb0 h) (fun h=>nb1 h)))
 replace HK:=zz (HK.out.then_ hK1 (fun k h=> .inl (h.elim (O0.out k) (O1.out k))))
 clear G0 G1 hB1 hK1 hK2
 have hx:w1.cell? ⟨w.heap.size,3,none⟩=some (.slice A3 l3.length c3):=(ze BX.out 3).trans rfl
 go_wp2_with fail
 clear hx
 ((with_reducible refine (markIntS_Q k P3 _ l3 t1 t2 q3 w0 _ HB.out R3.out K2.out).mono ?_);rintro e w2 ⟨rfl,G3,hB1,hK1⟩)
 clear HB R3
 have HB:=zz hB1
 have R3:=zz G3
 replace R0:=zz (Kd.R_kept (Kd.R_mono (Own.R_tight2 rfl R0.out e0) (fun k hk=>hk)) hK1 (fun k hk=>fun h=>X03.out k hk h))
 replace R1:=zz (Kd.R_kept (Kd.R_mono (Own.R_tight2 rfl R1.out e1) (fun k hk=>hk)) hK1 (fun k hk=>fun h=>X13.out k hk h))
 replace R4:=zz (Kd.Q_kept R4.out hK1 (fun k hk=>fun h=>X34.out k h hk))
 replace R5:=zz (Kd.Q_kept R5.out hK1 (fun k hk=>fun h=>X35.out k h hk))
 replace BX:=zz (znb BX.out hK1 nb3)
 replace HK:=zz (HK.out.then_ hK1 (fun k h=> .inl (O3.out k h)))
 clear G3 hB1 hK1
 have hx:w2.cell? ⟨w.heap.size,4,none⟩=some (.slice A4 l4.length c4):=(ze BX.out 4).trans rfl
 go_wp2_with fail
 clear hx
 ((with_reducible refine (markIntS_Q k P4 _ l4 t2 t3 q4 w0 _ HB.out R4.out K3.out).mono ?_);rintro e w3 ⟨rfl,G4,hB1,hK1⟩)
 clear HB R4
 have HB:=zz hB1
 have R4:=zz G4
 replace R0:=zz (Kd.R_kept (Kd.R_mono (Own.R_tight2 rfl R0.out e0) (fun k hk=>hk)) hK1 (fun k hk=>fun h=>X04.out k hk h))
 replace R1:=zz (Kd.R_kept (Kd.R_mono (Own.R_tight2 rfl R1.out e1) (fun k hk=>hk)) hK1 (fun k hk=>fun h=>X14.out k hk h))
 replace R3:=zz (Kd.Q_kept (Own.Q_tight2 rfl R3.out e3) hK1 (fun k hk=>fun h=>X34.out k hk h))
 replace R5:=zz (Kd.Q_kept R5.out hK1 (fun k hk=>fun h=>X45.out k h hk))
 replace BX:=zz (znb BX.out hK1 nb4)
 replace HK:=zz (HK.out.then_ hK1 (fun k h=> .inl (O4.out k h)))
 clear G4 hB1 hK1
 have hx:w3.cell? ⟨w.heap.size,5,none⟩=some (.slice A5 l5.length c5):=(ze BX.out 5).trans rfl
 go_wp2_with fail
 clear hx
 ((with_reducible refine (markIntS_Q k P5 _ l5 t3 r q5 w0 _ HB.out R5.out K4.out).mono ?_);rintro e w4 ⟨rfl,G5,hB1,hK1⟩)
 clear HB R5
 have HB:=zz hB1
 have R5:=zz G5
 replace R0:=zz (Kd.R_kept (Kd.R_mono (Own.R_tight2 rfl R0.out e0) (fun k hk=>hk)) hK1 (fun k hk=>fun h=>X05.out k hk h))
 replace R1:=zz (Kd.R_kept (Kd.R_mono (Own.R_tight2 rfl R1.out e1) (fun k hk=>hk)) hK1 (fun k hk=>fun h=>X15.out k hk h))
 replace R3:=zz (Kd.Q_kept (Own.Q_tight2 rfl R3.out e3) hK1 (fun k hk=>fun h=>X35.out k hk h))
 replace R4:=zz (Kd.Q_kept (Own.Q_tight2 rfl R4.out e4) hK1 (fun k hk=>fun h=>X45.out k hk h))
 replace BX:=zz (znb BX.out hK1 nb5)
 replace HK:=zz (HK.out.then_ hK1 (fun k h=> .inl (O5.out k h)))
 clear G5 hB1 hK1
 go_wp2
 go_ret
 refine ⟨rfl,?_,HB.out,HK.out⟩
 exact kWork_mkM (Own.R_tight2 rfl R0.out e0) (Own.R_tight2 rfl R1.out e1) (Own.Q_tight2 rfl R3.out e3) (Own.Q_tight2 rfl R4.out e4) (Own.Q_tight2 rfl R5.out e5) O0.out O1.out O3.out O4.out O5.out X01.out X03.out X04.out X05.out X13.out X14.out X15.out X34.out X35.out X45.out
section
variable {W:World} {g t o:Nat} {cs pre mid post new:List Value}
theorem part_at (h:W.heap[g]?=some (.cells cs.toArray t (0,0))) (e:cs=pre++(mid++post)) (ho:pre.length=o):W.rangeAt g o mid:=by
 subst e;subst ho
 intro j v hv
 have hj:=(List.getElem?_eq_some_iff.1 hv).1
 have:(pre++(mid++post))[pre.length+j]?=some v:=by
  rw [List.getElem?_append_right (Nat.le_add_right _ _),Nat.add_sub_cancel_left,List.getElem?_append_left hj]
  exact hv
 simp [World.cell?,h,this]
theorem part_cell {v:Value} (h:W.heap[g]?=some (.cells cs.toArray t (0,0))) (e:cs=pre++([v]++post)) (ho:pre.length=o):W.cell? ⟨g,o,none⟩=some v:=by
 have:=part_at h e ho 0 v rfl
 simpa using this
theorem part_there (h:W.heap[g]?=some (.cells cs.toArray t (0,0))) (e:cs=pre++(mid++post)) (ho:pre.length=o):W.there g o mid.length:=by
 intro j hj
 refine ⟨?_,zd h _⟩
 rw [part_at h e ho j _ (List.getElem?_eq_getElem hj)]
 rfl
theorem part_set:∀(new mid pre post:List Value) (W:World),new.length=mid.length→W.heap[g]?=some (.cells (pre++(mid++post)).toArray t (0,0))→(W.setCells g pre.length new).heap[g]?=some (.cells (pre++(new++post)).toArray t (0,0))
 |[],[],pre,post,W,_,h=>h
 |[],m::ms,pre,post,W,hl,h=>by simp at hl
 |n::ns,[],pre,post,W,hl,h=>by simp at hl
 |n::ns,m::ms,pre,post,W,hl,h=>by
  have h1:(W.setCell ⟨g,pre.length,none⟩ n).heap[g]?=some (.cells ((pre++[n])++(ms++post)).toArray t (0,0)):=
   zL (cs':=((pre++[n])++(ms++post)).toArray) h pre.length n zq15
  have ih:=part_set ns ms (pre++[n]) post _ (by simpa using hl) h1
  show ((W.setCell ⟨g,pre.length,none⟩ n).setCells g (pre.length+1) ns).heap[g]?=_
  rw [List.length_append,List.length_singleton] at ih
  rw [ih]
  simp
theorem setCells_below {w:World} (hg:w.heap.size≤g):∀(vs:List Value) (W:World) (i:Nat),Below w.heap.size w W→Below w.heap.size w (W.setCells g i vs)
 |[],W,i,h=>h
 |u::vs,W,i,h=>setCells_below hg vs _ _ (zr h hg)
theorem setCells_kept:∀(vs:List Value) (W:World) (i:Nat),Kept W (W.setCells g i vs) (fun k=>k=g)
 |[],W,i=>Kept.refl W _
 |u::vs,W,i=>(Kept.setCell (Kept.refl W (fun k=>k=g)) (p:=⟨g,i,none⟩) (.inl rfl) u).then_ (setCells_kept vs _ _) (fun k h=> .inl h)
end
def kTxn:Kd (S40×(List ByteArray×List S110×Int×List Int×List Int×List Int)×Int):=Own.apair k40 (Own.apair kWork (Kd.int .i64))
theorem markMeta_o (k:Nat) (x:S40) (a r:Int) (fr:List S112) (ok:Nat→Prop) {cs:List Value} (w0 w:World) (hB:Below w0.heap.size w0 w) (hk:∀k,ok k→k<w.heap.size) (h:k40.M w w0.heap.size ok x cs) (hf:markF.l0 k x.f3 a 0=some (r,fr)):
  Calls Tryz.prog 15 #[.agg cs.toArray,.int .i64 a] w fun e w'=>e= .returned (.int .i64 r)∧k40.M w' w0.heap.size ok (⟨x.f0,x.f1,x.f2,fr⟩:S40) cs∧Below w0.heap.size w0 w'∧Kept w w' ok:=by
 obtain ⟨v3,rfl,R⟩:=k40_openM h
 clear h
 obtain ⟨A3,c3,rfl⟩:=Kd.S_slice R
 have K1:=zz hf
 have hn:¬ok w.heap.size:=fun h=>Nat.lt_irrefl _ (hk _ h)
 have R1:=zz (Kd.S_alloc R (.cells #[.int .i64 x.f0,.int .i64 x.f1,.int .i64 x.f2,.slice A3 x.f3.length c3] 40))
 have HB:=zz (Own.below_more hB (.cells #[.int .i64 x.f0,.int .i64 x.f1,.int .i64 x.f2,.slice A3 x.f3.length c3] 40))
 have BX:=zz (zka w (.cells #[.int .i64 x.f0,.int .i64 x.f1,.int .i64 x.f2,.slice A3 x.f3.length c3] 40))
 have HK:=zz (Kept.alloc (Kept.refl w ok) (.cells #[.int .i64 x.f0,.int .i64 x.f1,.int .i64 x.f2,.slice A3 x.f3.length c3] 40))
 clear R hB hf hk
 go_enter Tryz.func15,Tryz.ntmps15
 have hx:(w.alloc (.cells #[.int .i64 x.f0,.int .i64 x.f1,.int .i64 x.f2,.slice A3 x.f3.length c3] 40)).cell? ⟨w.heap.size,3,none⟩=some (.slice A3 x.f3.length c3):=(ze BX.out 3).trans rfl
 go_wp2_with fail
 clear hx
 ((with_reducible refine (markFreeS_o k ok _ x.f3 a r fr w0 _ HB.out R1.out K1.out).mono ?_);rintro e w1 ⟨rfl,hS,hB1,hK1⟩)
 go_wp2
 go_ret
 have hl:=(Kd.S_reads' hS).1
 refine ⟨rfl,?_,hB1,HK.out.then_ hK1 (fun k h=> .inl h)⟩
 have h3:=hS
 rw [hl] at h3
 show k40.M w1 w0.heap.size ok _ [.int .i64 x.f0,.int .i64 x.f1,.int .i64 x.f2,.slice A3 x.f3.length c3]
 rw [hl]
 exact zyb _ _ _ (⟨x.f0,x.f1,x.f2,fr⟩:S40) h3
structure Put1 (W W':World) (g:Nat):Prop where
 kept:Kept W W' (fun k=>k=g)
 below:∀w:World,w.heap.size≤g→Below w.heap.size w W→Below w.heap.size w W'
 size:W'.heap.size=W.heap.size
theorem setCells_size {g:Nat}:∀(vs:List Value) (W:World) (i:Nat),(W.setCells g i vs).heap.size=W.heap.size
 |[],W,i=>rfl
 |u::vs,W,i=>(setCells_size vs _ _).trans (by simp [World.setCell])
theorem Put1.cells {W:World} {g:Nat} (i:Nat) (vs:List Value):Put1 W (W.setCells g i vs) g:=⟨setCells_kept vs W i,fun w hg h=>setCells_below hg vs W i h,setCells_size vs W i⟩
section
variable {P:Program} {ops:Array Oper} {rest:List Oper} {o:Oper} {a:Act} {Q:Exit→Act→World→Prop} {W:World}
theorem run_loadpart (ty:TypeId) (x:Operand) (ho:o.op= .load ty x) (g off:Nat) (pre mid post:List Value) {cs:List Value} {t:TypeId} (d:TypeDesc) (hx:a.eval x= .pointer (some ⟨g,off,none⟩)) (hg:W.heap[g]?=some (.cells cs.toArray t (0,0))) (e:cs=pre++(mid++post)) (hp:pre.length=off)
  (hu:P.underlying ty=some d) (hd:d.isRow=true) (hi:(P.info? ty).map (·.size)=some mid.length):(execOp a.eval o).run P W= .ok (.value (.agg mid.toArray)) W:=by
 unfold execOp
 simp only [ho,hx,Instr.loadAt,Instr.sureAddr,Sem.run_bind,Sem.run_pure,Result.andThen_ok,run_loadVar_mid W g off ty mid d (part_at hg e hp) hu hd hi]
theorem zy (hgd:o.guard=none) (ty:TypeId) (x:Operand) (ho:o.op= .load ty x) (g off:Nat) (pre mid post:List Value) {cs:List Value} {t:TypeId} (d:TypeDesc) (hx:a.eval x= .pointer (some ⟨g,off,none⟩)) (hg:W.heap[g]?=some (.cells cs.toArray t (0,0))) (e:cs=pre++(mid++post)) (hp:pre.length=off)
  (hu:P.underlying ty=some d) (hd:d.isRow=true) (hi:(P.info? ty).map (·.size)=some mid.length) (h:wpList P ops Q rest (a.put o.dst (.agg mid.toArray)) W):wpList P ops Q (o::rest) a W:=
 wpList_load_mid hgd ty x ho g off hx mid d (part_at hg e hp) hu hd hi h
theorem zD (hgd:o.guard=none) (ty:TypeId) (x y:Operand) (ho:o.op= .store ty x y) (hN:o.dst=none) (g off:Nat) (new pre mid post:List Value) {cs:List Value} {t:TypeId} (hx:a.eval x= .pointer (some ⟨g,off,none⟩)) (hy:a.eval y= .agg new.toArray) (hg:W.heap[g]?=some (.cells cs.toArray t (0,0))) (e:cs=pre++(mid++post)) (hp:pre.length=off)
  (hl:new.length=mid.length) (hi:(P.info? ty).map (·.size)=some new.length) (h1:∀v∈new,v.oneCell'=true)
  (h:∀W',Put1 W W' g→W'.heap[g]?=some (.cells (pre++(new++post)).toArray t (0,0))→wpList P ops Q rest a W'):wpList P ops Q (o::rest) a W:=by
 refine wpList_store_mid hgd ty x y ho g off new.toArray hx hy (by have:=part_there hg e hp;rw [List.size_toArray,hl];exact this) (by rw [List.size_toArray];exact hi) (Array.all_eq_true_iff_forall_mem.2 (fun v hv=>h1 v (by simpa using hv))) ?_
 have hput:a.put o.dst undef=a:=by rw [hN];rfl
 rw [hput]
 refine h _ (Put1.cells off _) ?_
 subst e;subst hp
 exact part_set new mid pre post W hl hg
theorem zia (hgd:o.guard=none) (ty:TypeId) (x y:Operand) (ho:o.op= .store ty x y) (hN:o.dst=none) (g off:Nat) (v u:Value) (pre post:List Value) {cs:List Value} {t:TypeId} (hx:a.eval x= .pointer (some ⟨g,off,none⟩)) (hy:a.eval y=v) (hg:W.heap[g]?=some (.cells cs.toArray t (0,0))) (e:cs=pre++([u]++post)) (hp:pre.length=off)
  (hi:(P.info? ty).map (·.size)=some 1) (h1:v.oneCell'=true) (hc:v.cells= #[v])
  (h:∀W',Put1 W W' g→W'.heap[g]?=some (.cells (pre++([v]++post)).toArray t (0,0))→wpList P ops Q rest a W'):wpList P ops Q (o::rest) a W:=by
 refine wpList_plain hgd fun K hK=> ?_
 have hth:=part_there hg e hp
 have hrun:=run_storeCells_cells (P:=P) g off [v] 0 W (fun j hj=>(hth j hj).1) (fun j hj=>(hth j hj).2) (fun q hq=>by rw [List.mem_singleton.1 hq];exact h1)
 have hs:(storeVar ty ⟨g,off,none⟩ v).run P W= .ok () (W.setCells g off [v]):=by
  cases hq:P.info? ty with
  |none=>simp [hq] at hi
  |some i=>
   have hs:1=i.size:=by simp [hq] at hi;omega
   simp only [Nat.add_zero] at hrun
   simp [storeVar,sizeOf,typeInfo,hq,hc,←hs,hrun]
 unfold Oper.wp execOp
 simp only [ho,hx,hy,Instr.storeAt,Instr.sureAddr,Sem.run_bind,Sem.run_pure,Result.andThen_ok,hs]
 show K (a.put o.dst undef) _
 rw [hN]
 refine hK _ _ (h _ (Put1.cells off _) ?_)
 subst e;subst hp
 exact part_set [v] [u] pre post W rfl hg
end
theorem blk_else {W W':World} {g h:Nat} {o:Obj} (hb:W.heap[h]?=some o) (p:Put1 W W' g) (hn:h≠g):W'.heap[h]?=some o:=znb hb p.kept hn
end Go.Proofs.YtonhdiemjgdcnaaGreat.PFnExactGivePage
namespace Go.Proofs.YtonhdiemjgdcnaaGreat.PFnExactGivePage
open Go.RowKit Go.Proofs.YtonhdiemjgdcnaaGreatW.PrintWords Go.Proofs.YtonhdiemjgdcnaaGreatW.PrintLast Go.Proofs.YtonhdiemjgdcnaaGreatW.PrintMore
attribute [local go_sem] zba zga zoa zna zW zV zfa zea
theorem markTxn_o (k:Nat) (x:S40) (l0:List ByteArray) (l1:List S110) (l2:Int) (l3 l4 l5:List Int) (n a b t1 t2 t3 r:Int) (fr:List S112) (q0:List ByteArray) (q1:List S110) (q3 q4 q5:List Int) (ok:Nat→Prop) {cs:List Value} (w0 w:World) (hB:Below w0.heap.size w0 w) (hk:∀k,ok k→k<w.heap.size) (h:kTxn.M w w0.heap.size ok (x,(l0,l1,l2,l3,l4,l5),n) cs) (hf:markF.l0 k x.f3 a 0=some (b,fr)) (g1:laws_markDisk.f k l0 l1 b=some (t1,q0,q1)) (g2:laws_markIntS.f k l3 t1=some (t2,q3)) (g3:laws_markIntS.f k l4 t2=some (t3,q4)) (g4:laws_markIntS.f k l5 t3=some (r,q5)):
  Calls Tryz.prog 13 #[.agg cs.toArray,.int .i64 a] w fun e w'=>e= .returned (.int .i64 r)∧kTxn.M w' w0.heap.size ok ((⟨x.f0,x.f1,x.f2,fr⟩:S40),(q0,q1,l2,q3,q4,q5),n) cs∧Below w0.heap.size w0 w'∧Kept w w' ok:=by
 obtain ⟨cM,c',okM,okB,rfl,hM,h,a0,b0,x0⟩:=Own.apair_open h
 obtain ⟨cW,cI,okW,okI,rfl,hW,hI,a1,b1,x1⟩:=Own.apair_open h
 obtain ⟨cs,hcs⟩:∃cs,cs=cM++(cW++cI):=⟨_,rfl⟩
 rw [←hcs]
 have E0:=zz (show cs=[]++(cM++(cW++cI)) from hcs)
 have E1:=zz hcs
 have LM:=zz (show cM.length=4 from k40.K_len (k40.K_of_M hM))
 have LW:=zz (show cW.length=6 from kWork.K_len (kWork.K_of_M hW))
 have hn:¬ok w.heap.size:=fun h=>Nat.lt_irrefl _ (hk _ h)
 have HN:=zz hn
 have RM:=zz (Kd.M_below hM (zg (Below.refl _ _) (.cells cs.toArray 46)))
 have RW:=zz (Kd.M_below hW (zg (Below.refl _ _) (.cells cs.toArray 46)))
 have HB:=zz (Own.below_more hB (.cells cs.toArray 46))
 have BX:=zz (zka w (.cells cs.toArray 46))
 have HK:=zz (Kept.alloc (Kept.refl w ok) (.cells cs.toArray 46))
 have OM:=zz a0
 have OW:=zz (fun k h=>b0 k (a1 k h))
 have XX:=zz (fun k h1 h2=>x0 k h1 (a1 k h2))
 have KF:=zz hf
 have K1:=zz g1
 have K2:=zz g2
 have K3:=zz g3
 have K4:=zz g4
 have HI:=zz (show cI=[.int .i64 n] from hI)
 have UM:=zz (fun (W:World) (hM:k40.M W w0.heap.size okM (⟨x.f0,x.f1,x.f2,fr⟩:S40) cM) (hW:kWork.M W w0.heap.size okW (q0,q1,l2,q3,q4,q5) cW)=>(Own.apair_mk hM (Own.apair_mk (ok:=okB) hW (show (Kd.int .i64).M W w0.heap.size (fun _=>False) n cI from hI) a1 (fun _ h=>h.elim) (fun _ _ h=>h)) a0 b0 x0:kTxn.M W w0.heap.size ok ((⟨x.f0,x.f1,x.f2,fr⟩:S40),(q0,q1,l2,q3,q4,q5),n) (cM++(cW++cI))))
 rw [←hcs] at UM
 have HL:=zz (show ∀k,ok k→k<(w.alloc (.cells cs.toArray 46)).heap.size from fun k h=>by have:=hk k h;simp;omega)
 clear h hM hW hI hB hk hf g1 g2 g3 g4 hn a0 b0 x0 a1 b1 x1 hcs
 go_enter Tryz.func13,Tryz.ntmps13
 go_wp2_with (((with_reducible refine zv (N:=6) rfl ?_);refine wpList_load_mid rfl 40 _ rfl w.heap.size 0 rfl cM _ (part_at (pre:=[]) BX.out E0.out zq19) Tryz.underlying40 rfl (by rw [LM.out];kernel_rfl) ?_))
 ((with_reducible refine (markMeta_o k x a b fr okM w0 _ HB.out (fun k h=>HL.out k (OM.out k h)) RM.out KF.out).mono ?_);rintro e w1 ⟨rfl,hM,hB1,hK1⟩)
 have n1:=zz hB1
 have n2:=zz hM
 have n3:=zz (Kd.M_kept RW.out hK1 (fun k h h2=>XX.out k h2 h))
 have n4:=zz (znb BX.out hK1 (fun h=>HN.out (OM.out _ h)))
 have n5:=zz (HK.out.then_ hK1 (fun k h=> .inl (OM.out k h)))
 have n6:=zz (fun k h=>Nat.lt_of_lt_of_le (HL.out k h) hK1.1)
 clear HB RM RW BX HK HL hM hB1 hK1
 have HB:=n1;have RM:=n2;have RW:=n3;have BX:=n4;have HK:=n5;have HL:=n6
 clear n1 n2 n3 n4 n5 n6
 go_wp2_with (((with_reducible refine zv (N:=10) rfl ?_);refine wpList_load_mid rfl 44 _ rfl w.heap.size 4 rfl cW _ (part_at (pre:=cM) BX.out E1.out (by rw [LM.out])) Tryz.underlying44 rfl (by rw [LW.out];kernel_rfl) ?_))
 ((with_reducible refine (markWork_o k l0 l1 l2 l3 l4 l5 q0 q1 q3 q4 q5 b t1 t2 t3 r okW w0 _ HB.out (fun k h=>HL.out k (OW.out k h)) RW.out K1.out K2.out K3.out K4.out).mono ?_);rintro e w2 ⟨rfl,hW,hB1,hK1⟩)
 have n2:=zz (Kd.M_kept RM.out hK1 (fun k h h2=>XX.out k h h2))
 have n5:=zz (HK.out.then_ hK1 (fun k h=> .inl (OW.out k h)))
 go_wp2
 go_ret
 exact ⟨rfl,UM.out _ n2.out hW,hB1,n5.out⟩
theorem markDisk_o (k:Nat) (l0:List ByteArray) (l1:List S110) (a r:Int) (q0:List ByteArray) (q1:List S110) (ok:Nat→Prop) {cs:List Value} (w0 w:World) (hB:Below w0.heap.size w0 w) (h:kDisk.M w w0.heap.size ok (l0,l1) cs) (hf:laws_markDisk.f k l0 l1 a=some (r,q0,q1)):
  Calls Tryz.prog 14 #[.agg cs.toArray,.int .i64 a] w fun e w'=>e= .returned (.int .i64 r)∧kDisk.M w' w0.heap.size ok (q0,q1) cs∧Below w0.heap.size w0 w'∧Kept w w' ok:=by
 obtain ⟨v0,v1,P0,P1,rfl,R0,R1,o0,o1,x01⟩:=kDisk_openM h
 refine (laws_markDisk.calls k P0 v0 l0 P1 v1 l1 a r q0 q1 w0 w hB R0 R1 hf).mono ?_
 rintro e w' ⟨rfl,G0,G1,hB1,hK1⟩
 exact ⟨rfl,zSa (Own.R_tight2 rfl G0 R0.1) (Own.R_tight2 rfl G1 R1.1) o0 o1 x01,hB1,hK1.mono (fun k h=>h.elim (o0 k) (o1 k))⟩
theorem zY {P:Program} {fn:Func} {p:Tmp} {ty:TypeId} (h:fn.results= #[.cell p ty]) (tmps:Array Value) (w:World) (g:Nat) (t:TypeId) (cs:Array Value) (fr:Nat×Nat) (d:TypeDesc)
  (hp:tmps.getD p undef= .pointer (some ⟨g,0,none⟩)) (hg:w.heap[g]?=some (.cells cs t fr))
  (hu:P.underlying ty=some d) (hd:(match d with| .struct _| .array _ _=>true|_=>false)=true) (hi:(P.info? ty).map (·.size)=some cs.size):
  (results fn tmps).run P w= .ok (.agg cs) w:=by
 have hp':tmps[p]?.getD undef= .pointer (some ⟨g,0,none⟩):=by simpa using hp
 simp [results,h,hp',asAddr,run_loadVar_row w g t ty cs fr d hg hu hd hi]
theorem one_of_K {α:Type} {d:Kd α} {w:World} {x:α} {cs:List Value} (h:d.K w x cs):∀v∈cs,v.oneCell'=true:=d.K_one h
def kTxnL:Kd (S24×(List ByteArray×List S156×Int×List Int×List Int×List Int)×Int):=Own.apair k24 (Own.apair kWorkL (Kd.int .i64))
def Fr (w w':World):Nat→Prop:=fun k=>w.heap.size≤k∧k<w'.heap.size
theorem toDisk_o (k:Nat) (l0:List ByteArray) (l1:List S156) (q0:List ByteArray) (q1:List S110) {cs:List Value} (w:World) (h:kDiskL.K w (l0,l1) cs) (hf:laws_toDisk.f k l0 l1=some (q0,q1)):
  Calls Tryz.prog 66 #[.agg cs.toArray] w fun e w'=>∃ds:List Value,e= .returned (.agg ds.toArray)∧kDisk.M w' w.heap.size (Fr w w') (q0,q1) ds∧Below w.heap.size w w':=by
 obtain ⟨A0,c0,A1,c1,rfl,m0,r0,m1,r1⟩:=kDiskL_open h
 refine (laws_toDisk.calls k A0 c0 l0 A1 c1 l1 q0 q1 w r0 m0 r1 m1 hf).mono ?_
 rintro e w' ⟨v0,v1,rfl,R0,R1,hb⟩
 have T0:=Own.R_tightB rfl R0
 have T1:=Own.R_tightB rfl R1
 exact ⟨[v0,v1],rfl,zSa T0.1 T1.1 T0.2.1 T1.2.1 (Own.types_ne T0.2.2 T1.2.2 zq14),hb⟩
theorem toMeta_o (k:Nat) (x:S24) (y:S40) {cs:List Value} (w:World) (h:k24.K w x cs) (hf:laws_toMeta.f k x.f0 x.f1 x.f2 x.f3=some (y.f0,y.f1,y.f2,y.f3)):
  Calls Tryz.prog 40 #[.agg cs.toArray] w fun e w'=>∃ds:List Value,e= .returned (.agg ds.toArray)∧k40.M w' w.heap.size (Fr w w') y ds∧Below w.heap.size w w':=by
 obtain ⟨A3,c3,rfl,m3,r3⟩:=k24_open h
 refine (laws_toMeta.calls k x.f0 x.f1 x.f2 A3 c3 x.f3 y.f0 y.f1 y.f2 y.f3 w r3 m3 hf).mono ?_
 rintro e w' ⟨v3,rfl,R,hb⟩
 exact ⟨[.int .i64 y.f0,.int .i64 y.f1,.int .i64 y.f2,v3],rfl,zyb _ _ _ y (Kd.S_mono (Kd.S_bound R) (fun k hk=>⟨hk.2.1,hk.2.2.1⟩)),hb⟩
theorem putS {α:Type} {d:Kd α} {e base g:Nat} {W W':World} {ok:Nat→Prop} {v:Value} {xs:List α} (h:Kd.S d e W base ok v xs) (p:Put1 W W' g) (hg:∀k,ok k→k≠g):Kd.S d e W' base ok v xs:=Kd.S_kept h p.kept hg
section
variable {P:Program} {ops:Array Oper} {rest:List Oper} {o:Oper} {a:Act} {Q:Exit→Act→World→Prop} {W:World}
theorem run_loadcell (ty:TypeId) (x:Operand) (ho:o.op= .load ty x) (g off:Nat) (pre:List Value) (v:Value) (post:List Value) {cs:List Value} {t:TypeId} {d:TypeDesc} (hx:a.eval x= .pointer (some ⟨g,off,none⟩)) (hg:W.heap[g]?=some (.cells cs.toArray t (0,0))) (e:cs=pre++([v]++post)) (hp:pre.length=off)
  (hu:P.underlying ty=some d) (hd:d.isRow=false):(execOp a.eval o).run P W= .ok (.value v) W:=by
 have hc:=part_cell hg e hp
 have hagg:(isAgg ty).run P W= .ok false W:=by
  unfold isAgg
  rw [Sem.run_bind,run_underlying hu W]
  cases d<;>simp_all
 unfold execOp
 simp [ho,hx,Instr.loadAt,Instr.sureAddr,Sem.run_bind,loadVar,hagg,run_load,hc]
theorem zaa (hgd:o.guard=none) (ty:TypeId) (x:Operand) (ho:o.op= .load ty x) (g off:Nat) (pre:List Value) (v:Value) (post:List Value) {cs:List Value} {t:TypeId} {d:TypeDesc} (hx:a.eval x= .pointer (some ⟨g,off,none⟩)) (hg:W.heap[g]?=some (.cells cs.toArray t (0,0))) (e:cs=pre++([v]++post)) (hp:pre.length=off)
  (hu:P.underlying ty=some d) (hd:d.isRow=false) (h:wpList P ops Q rest (a.put o.dst v) W):wpList P ops Q (o::rest) a W:=by
 refine wpList_plain hgd fun K hK=> ?_
 unfold Oper.wp
 rw [run_loadcell ty x ho g off pre v post hx hg e hp hu hd]
 exact hK _ _ h
end
end Go.Proofs.YtonhdiemjgdcnaaGreat.PFnExactGivePage
namespace Go.Proofs.YtonhdiemjgdcnaaGreatW.PrintLast
open Go.Proofs.YtonhdiemjgdcnaaGreatW.PrintWords (Z0)
inductive Stp where
 |p (i:Nat)|t (i:Nat)|e (i:Nat)|l (i:Nat)
section
variable {P:Program} {ops:Array Oper} {Q:Exit→Act→World→Prop} {S:World→Prop} {ds:List Nat} {T:Bool×List (List Nat×List Nat)} {B:List Nat} {N:Option Tmp} {o:Oper} {v:Value} {a:Act} {w:World} {i:Nat} {r:List Stp}
def walkB (T:Bool×List (List Nat×List Nat)) (B ds:List Nat):Bool→List Bool→List Stp→Bool
 |_,l,[]=>zhb T.2 l==[]
 |k,l,.p i::r=>(T.1&&freeT T.2 l i&&ztb T.2 l i)&&walkB T B ds k (l.set i true) r
 |k,l,.t i::r=>(k&&takeW T B ds l (l.set i true) i)&&walkB T B ds k (l.set i true) r
 |_,l,.e i::r=>(zhb T.2 l==[i]&& !ds.contains i)&&walkB T B ds true (l.set i true) r
 |_,l,.l i::r=>(zhb T.2 l==[i]&&ds.contains i)&&walkB T B ds false (l.set i true) r
def regB (ops:Array Oper) (T:Bool×List (List Nat×List Nat)) (B ds:List Nat) (r:List Stp):Bool:=rtab .any ops==T&&zGa T.2 B&&r.length==ops.size&&walkB T B ds true (List.replicate ops.size false) r
theorem put_with (a:Act) (d:Option Tmp) (v:Value):a.put d v={a with tmps:=(a.put d v).tmps}:=by cases d<;>rfl
def zub (P:Program) (ops:Array Oper) (Q:Exit→Act→World→Prop) (S:World→Prop):List Stp→Act→World→Prop
 |[],a,w=>Q .normal a w
 | .p i::r,a,w=>∃o v,ops[i]?=some o∧Yields P ops o v a∧zub P ops Q S r (a.put o.dst v) w
 | .t i::r,a,w=>∃o v,ops[i]?=some o∧YieldsIf P ops S o v a∧zub P ops Q S r (a.put o.dst v) w
 | .e i::r,a,w=>∃o,ops[i]?=some o∧∀K:Act→World→Prop,Shut (∀a' w',S w'→(S w'→zub P ops Q S r a' w')→K a' w')→if Region.wanted o (yielded ops a.tmps)=true then Oper.wp P o a w K Q else K (a.put o.dst undef) w
 | .l i::r,a,w=>∃o,ops[i]?=some o∧∀K:Act→World→Prop,Shut (∀a' w',zub P ops Q S r a' w'→K a' w')→if Region.wanted o (yielded ops a.tmps)=true then Oper.wp P o a w K Q else K (a.put o.dst undef) w
theorem zfb (hT:rtab .any ops=T) (hB:zGa T.2 B=true) (hQ:∀c (a:Act) ts w,Q (.panic c) {a with tmps:=ts} w→Q (.panic c) a w):∀(r:List Stp) (k:Bool) (l:List Bool) (a:Act) (w:World),
  walkB T B ds k l r=true→(k=true→S w)→zub P ops Q S r a w→zJ P .any ops Q S ds r.length l.toArray a w
 |[],k,l,a,w,hc,hS,h=>⟨by subst hT;rw [zlb];simpa [walkB] using hc,h⟩
 | .p i::r,k,l,a,w,hc,hS,h=>by
  simp only [walkB,Bool.and_eq_true] at hc
  obtain ⟨⟨⟨h1,h2⟩,h3⟩,h4⟩:=hc
  obtain ⟨o,v,ho,hy,hr⟩:=h
  refine zX (l.set i true).toArray ho rfl (zP hT ?_) (fun c a w hh=>hQ c a (a.put o.dst v).tmps w (by rw [←put_with];exact hh)) hy rfl (zfb hT hB hQ r k _ _ w h4 hS hr)
  simp only [anyT,Bool.and_eq_true]
  exact ⟨⟨⟨h1,h2⟩,h3⟩,by simp⟩
 | .t i::r,k,l,a,w,hc,hS,h=>by
  simp only [walkB,Bool.and_eq_true] at hc
  obtain ⟨⟨h1,h2⟩,h4⟩:=hc
  obtain ⟨o,v,ho,hy,hr⟩:=h
  exact take_ (l.set i true).toArray ho rfl (zU hT hB h2) (fun c a w hh=>hQ c a (a.put o.dst v).tmps w (by rw [←put_with];exact hh)) hy (hS h1) rfl (zfb hT hB hQ r k _ _ w h4 hS hr)
 | .e i::r,k,l,a,w,hc,hS,h=>by
  simp only [walkB,Bool.and_eq_true] at hc
  obtain ⟨⟨h1,h2⟩,h4⟩:=hc
  obtain ⟨o,ho,hr⟩:=h
  refine one_ (l.set i true).toArray ho rfl (zHa hT ?_) (by simpa using h2) (fun K hK=>hr K (fun a' w' hs hw=>hK.out a' w' hs fun hs=>zfb hT hB hQ r true _ a' w' h4 (fun _=>hs) (hw hs)))
  simp only [Bool.and_eq_true]
  exact ⟨h1,by simp⟩
 | .l i::r,k,l,a,w,hc,hS,h=>by
  simp only [walkB,Bool.and_eq_true] at hc
  obtain ⟨⟨h1,h2⟩,h4⟩:=hc
  obtain ⟨o,ho,hr⟩:=h
  refine last_ (l.set i true).toArray ho rfl (zHa hT ?_) (by simpa using h2) (fun K hK=>hr K (fun a' w' hw=>hK.out a' w' (zfb hT hB hQ r false _ a' w' h4 (fun h=>by cases h) hw)))
  simp only [Bool.and_eq_true]
  exact ⟨h1,by simp⟩
theorem zTa {id:Nat} (hc:regB ops T B ds r=true) (hm:P.follows .mixedOrders=true) (hQ:∀c (a:Act) ts w,Q (.panic c) {a with tmps:=ts} w→Q (.panic c) a w) (hS:S w.drew) (h:S w.drew→zub P ops Q S r a w.drew):(Code.region id ops true).wp P Q a w:=by
 simp only [regB,Bool.and_eq_true,beq_iff_eq] at hc
 obtain ⟨⟨⟨h1,h2⟩,h3⟩,h4⟩:=hc
 refine zBb (ds:=ds) (List.replicate ops.size false).toArray hm rfl zq15 hS (fun hs=> ?_)
 rw [←h3]
 exact zfb h1 h2 hQ r true _ a _ (by rw [h3];exact h4) (fun _=>hs) (h hs)
theorem zra (ho:ops[i]?=some o) (hN:o.dst=N) (hy:Yields P ops o v a) {a':Act} (ha:a.put N v=a') (h:zub P ops Q S r a' w):zub P ops Q S (.p i::r) a w:=by
 subst hN;subst ha;exact ⟨o,v,ho,hy,h⟩
theorem zXa (ho:ops[i]?=some o) (hN:o.dst=N) (hy:YieldsIf P ops S o v a) {a':Act} (ha:a.put N v=a') (h:zub P ops Q S r a' w):zub P ops Q S (.t i::r) a w:=by
 subst hN;subst ha;exact ⟨o,v,ho,hy,h⟩
theorem seq_e (ho:ops[i]?=some o) (hN:o.dst=N) (h:∀K:Act→World→Prop,Shut (∀a' w',S w'→(S w'→zub P ops Q S r a' w')→K a' w')→if Region.wanted o (yielded ops a.tmps)=true then Oper.wp P o a w K Q else K (a.put N undef) w):zub P ops Q S (.e i::r) a w:=by
 subst hN;exact ⟨o,ho,h⟩
theorem seq_l (ho:ops[i]?=some o) (hN:o.dst=N) (h:∀K:Act→World→Prop,Shut (∀a' w',zub P ops Q S r a' w'→K a' w')→if Region.wanted o (yielded ops a.tmps)=true then Oper.wp P o a w K Q else K (a.put N undef) w):zub P ops Q S (.l i::r) a w:=by
 subst hN;exact ⟨o,ho,h⟩
theorem zcb (h:Q .normal a w):zub P ops Q S [] a w:=h
theorem zqa {a':Act} (ha:a=a') (h:zub P ops Q S r a' w):zub P ops Q S r a w:=by subst ha;exact h
theorem zwa {f:FuncId} {fn:Func} {aa:Array Operand} {ts:Array TypeId} (ho:ops[i]?=some o) (hN:o.dst=N) (hf:P.funcs[f]?=some fn) (hname:(fn.name== "runtime.NumGoroutine")=false) (hb:fn.body.isSome=true) (args:Array Value)
  (hw:Region.wanted o (yielded ops a.tmps)=true) (hop:o.op= .call {callee:= .value (.func f),args:=aa,argTypes:=ts}) (hargs:aa.map a.eval=args)
  (h:Calls P f args w fun e w'=>∃v,e= .returned v∧S w'∧(S w'→zub P ops Q S r (a.put N v) w')):zub P ops Q S (.e i::r) a w:=
 seq_e ho hN fun K hK=>goes_ hf hname hb args hw hN hop hargs (h.mono fun e w' ⟨v,he,hs,hk⟩=>⟨v,he,hK.out _ _ hs hk⟩)
end
end Go.Proofs.YtonhdiemjgdcnaaGreatW.PrintLast
namespace Go.Proofs.YtonhdiemjgdcnaaGreat.PFnExactGivePage
open Go.RowKit Go.Proofs.YtonhdiemjgdcnaaGreatW.PrintWords Go.Proofs.YtonhdiemjgdcnaaGreatW.PrintLast Go.Proofs.YtonhdiemjgdcnaaGreatW.PrintMore
attribute [local go_sem] zba zga zoa zna zW zV zfa zea
section
variable {P:Program} {ops:Array Oper} {Q:Exit→Act→World→Prop} {S:World→Prop} {N:Option Tmp} {o:Oper} {a:Act} {w:World} {i:Nat} {r:List Stp}
theorem seq_storecell (ho:ops[i]?=some o) (hN:o.dst=none) (hw:Region.wanted o (yielded ops a.tmps)=true) (ty:TypeId) (x y:Operand) (hop:o.op= .store ty x y) (g off:Nat) (v u:Value) (pre post:List Value) {cs:List Value} {t:TypeId} (hx:a.eval x= .pointer (some ⟨g,off,none⟩)) (hy:a.eval y=v) (hg:w.heap[g]?=some (.cells cs.toArray t (0,0))) (e:cs=pre++([u]++post)) (hp:pre.length=off)
  (hi:(P.info? ty).map (·.size)=some 1) (h1:v.oneCell'=true) (hc:v.cells= #[v])
  (h:∀W',Put1 w W' g→W'.heap[g]?=some (.cells (pre++([v]++post)).toArray t (0,0))→zub P ops Q S r a W'):zub P ops Q S (.l i::r) a w:=by
 refine seq_l ho hN (fun K hK=> ?_)
 rw [if_pos hw]
 have hth:=part_there hg e hp
 have hrun:=run_storeCells_cells (P:=P) g off [v] 0 w (fun j hj=>(hth j hj).1) (fun j hj=>(hth j hj).2) (fun q hq=>by rw [List.mem_singleton.1 hq];exact h1)
 have hs:(storeVar ty ⟨g,off,none⟩ v).run P w= .ok () (w.setCells g off [v]):=by
  cases hq:P.info? ty with
  |none=>simp [hq] at hi
  |some i=>
   have hs:1=i.size:=by simp [hq] at hi;omega
   simp only [Nat.add_zero] at hrun
   simp [storeVar,sizeOf,typeInfo,hq,hc,←hs,hrun]
 unfold Oper.wp execOp
 simp only [hop,hx,hy,Instr.storeAt,Instr.sureAddr,Sem.run_bind,Sem.run_pure,Result.andThen_ok,hs]
 show K (a.put o.dst undef) _
 rw [show a.put o.dst undef=a by rw [hN];rfl]
 refine hK.out _ _ (h _ (Put1.cells off _) ?_)
 subst e;subst hp
 exact part_set [v] [u] pre post w rfl hg
end
structure Fct where
 lo:Nat
 hi:Nat
 P:World→Prop
 mv:∀{W W':World},(∀k,lo≤k→k<hi→W'.heap[k]?=W.heap[k]?)→P W→P W'
def Iv (lo hi:Nat):Nat→Prop:=fun k=>lo≤k∧k<hi
def Fct.box (g:Nat) (cs:List Value) (t:TypeId):Fct:=⟨g,g+1,fun W=>W.heap[g]?=some (.cells cs.toArray t (0,0)),fun h hp=>(h g (Nat.le_refl _) (Nat.lt_succ_self _)).trans hp⟩
def Fct.made {α:Type} (d:Kd α) (base lo hi:Nat) (ok:Nat→Prop) (x:α) (cs:List Value):Fct:=
 ⟨lo,hi,fun W=>d.M W base (fun k=>ok k∧Iv lo hi k) x cs,fun h hp=>d.M_move (fun k hk=>h k hk.2.1 hk.2.2) hp⟩
def All (W:World) (top:Nat):List Fct→Prop
 |[]=>True
 |f::fs=>(f.hi≤top∧f.P W)∧All W top fs
structure Env (w0 W:World) (top:Nat) (fs:List Fct):Prop where
 below:Below w0.heap.size w0 W
 le:top≤W.heap.size
 ge:w0.heap.size≤top
 all:All W top fs
def OffA (g:Nat):List Fct→Prop
 |[]=>True
 |f::fs=>(g<f.lo∨f.hi≤g)∧OffA g fs
def Off (g:Nat):List Fct→Nat→Prop
 |[],_=>True
 |_::fs,0=>OffA g fs
 |f::fs,n+1=>(g<f.lo∨f.hi≤g)∧Off g fs n
section
variable {w0 W W':World} {top top':Nat} {fs:List Fct}
theorem All.step (hk:∀k,k<top→W'.heap[k]?=W.heap[k]?) (ht:top≤top'):∀{fs:List Fct},All W top fs→All W' top' fs
 |[],_=>trivial
 |f::_,⟨⟨h1,h2⟩,h3⟩=>⟨⟨Nat.le_trans h1 ht,f.mv (fun k _ h=>hk k (Nat.lt_of_lt_of_le h h1)) h2⟩,All.step hk ht h3⟩
theorem All.offA {g:Nat} (hk:∀k,k≠g→W'.heap[k]?=W.heap[k]?):∀{fs:List Fct},All W top fs→OffA g fs→All W' top fs
 |[],_,_=>trivial
 |f::_,⟨⟨h1,h2⟩,h3⟩,⟨h4,h5⟩=>⟨⟨h1,f.mv (fun k h6 h7=>hk k (by rintro rfl;omega)) h2⟩,All.offA hk h3 h5⟩
theorem All.off {g:Nat} (hk:∀k,k≠g→W'.heap[k]?=W.heap[k]?) {f':Fct} (hf:f'.P W') (hh:∀f:Fct,f.hi≤top→f.lo≤g→g<f.hi→True):∀{fs:List Fct} (i:Nat),f'.hi≤top→All W top fs→Off g fs i→All W' top (fs.set i f')
 |[],i,_,_,_=>by cases i<;>exact trivial
 |_::_,0,ht,⟨_,h3⟩,h5=>⟨⟨ht,hf⟩,All.offA hk h3 h5⟩
 |f::_,i+1,ht,⟨⟨h1,h2⟩,h3⟩,⟨h4,h5⟩=>⟨⟨h1,f.mv (fun k h6 h7=>hk k (by rintro rfl;omega)) h2⟩,All.off hk hf hh i ht h3 h5⟩
theorem All.get:∀{fs:List Fct} (i:Nat) {f:Fct},All W top fs→fs[i]?=some f→f.hi≤top∧f.P W
 |[],i,_,_,h=>by simp at h
 |f::_,0,_,⟨h1,_⟩,h=>by simp at h;subst h;exact h1
 |_::_,i+1,_,⟨_,h3⟩,h=>All.get i h3 (by simpa using h)
theorem Env.start (w:World):Env w w w.heap.size []:=⟨Below.refl _ _,Nat.le_refl _,Nat.le_refl _,trivial⟩
theorem Env.get (E:Env w0 W top fs) (i:Nat) {f:Fct} (h:fs[i]?=some f):f.P W:=(All.get i E.all h).2
theorem Env.box (E:Env w0 W top fs) (i:Nat) {g:Nat} {cs:List Value} {t:TypeId} (h:fs[i]?=some (Fct.box g cs t)):W.heap[g]?=some (.cells cs.toArray t (0,0)):=E.get i h
theorem Env.made (E:Env w0 W top fs) (i:Nat) {α:Type} {d:Kd α} {base lo hi:Nat} {ok:Nat→Prop} {x:α} {cs:List Value} (h:fs[i]?=some (Fct.made d base lo hi ok x cs)):d.M W base (fun k=>ok k∧Iv lo hi k) x cs:=E.get i h
theorem Env.mk_ (E:Env w0 W top fs) (i:Nat) {α:Type} {d:Kd α} {base lo hi:Nat} {ok:Nat→Prop} {x:α} {cs:List Value} (h:fs[i]?=some (Fct.made d base lo hi ok x cs)):d.K W x cs:=d.K_of_M (E.made i h)
theorem Env.K (E:Env w0 W top fs) {α:Type} {d:Kd α} {x:α} {cs:List Value} (h:d.K w0 x cs):d.K W x cs:=d.K_below E.below h
theorem Env.alloc (E:Env w0 W top fs) (cs:List Value) (t:TypeId) {g:Nat} (hg:W.heap.size=g):Env w0 (W.alloc (.cells cs.toArray t)) (g+1) (Fct.box g cs t::fs):=by
 subst hg
 refine ⟨zg E.below _,by simp,Nat.le_succ_of_le E.below.size,⟨Nat.le_refl _,zka W _⟩,All.step (fun k h=>(zg (Below.refl W.heap.size W) (.cells cs.toArray t)).block k (Nat.lt_of_lt_of_le h E.le)) (Nat.le_succ_of_le E.le) E.all⟩
theorem Env.call (E:Env w0 W top fs) (hb:Below W.heap.size W W'):Env w0 W' top fs:=
 ⟨zk E.below hb,Nat.le_trans E.le hb.size,E.ge,All.step (fun k h=>hb.block k (Nat.lt_of_lt_of_le h E.le)) (Nat.le_refl _) E.all⟩
theorem Env.drew (E:Env w0 W top fs):Env w0 W.drew top fs:=E.call (Below.refl W.heap.size W).drew
theorem Env.made_ (E:Env w0 W top fs) {α:Type} {d:Kd α} {x:α} {cs:List Value} (M:d.M W' W.heap.size (Fr W W') x cs) (hb:Below W.heap.size W W'):∃n m,(top≤n∧n≤m)∧Env w0 W' m (Fct.made d w0.heap.size n m (fun _=>True) x cs::fs):=
 ⟨W.heap.size,W'.heap.size,⟨E.le,hb.size⟩,zk E.below hb,Nat.le_refl _,Nat.le_trans E.below.size hb.size,⟨Nat.le_refl _,d.M_lower E.below.size (d.M_mono (fun k hk=>⟨trivial,hk⟩) M)⟩,All.step (fun k h=>hb.block k (Nat.lt_of_lt_of_le h E.le)) (Nat.le_trans E.le hb.size) E.all⟩
theorem Env.put (E:Env w0 W top fs) (i:Nat) {g:Nat} {new:List Value} {t:TypeId} (hp:Put1 W W' g) (hn:W'.heap[g]?=some (.cells new.toArray t (0,0))) (hg:w0.heap.size≤g) (ht:g+1≤top) (ho:Off g fs i):Env w0 W' top (fs.set i (Fct.box g new t)):=by
 have hk:∀k,k≠g→W'.heap[k]?=W.heap[k]?:=by
  intro k hk
  by_cases hlt:k<W.heap.size
  ·exact hp.kept.2 k hlt hk
  ·rw [Array.getElem?_eq_none (show W'.heap.size≤k by rw [hp.size];omega),Array.getElem?_eq_none (show W.heap.size≤k by omega)]
 exact ⟨hp.below w0 hg E.below,by rw [hp.size];exact E.le,E.ge,All.off hk hn (fun _ _ _ _=>trivial) i ht E.all ho⟩
theorem Env.add (E:Env w0 W top fs) (f:Fct) (h1:f.hi≤top) (h2:f.P W):Env w0 W top (f::fs):=⟨E.below,E.le,E.ge,⟨h1,h2⟩,E.all⟩
end
section
variable {w0 W W':World} {top:Nat} {fs:List Fct} {p:Prop}
theorem ones_K {α:Type} {d:Kd α} {w:World} {x:α} {cs:List Value} (h:d.K w x cs):∀v∈cs,v.oneCell'=true:=d.K_one h
theorem Env.made4 (E:Env w0 W top fs) (O:p) {α:Type} {d:Kd α} {x:α} {cs:List Value} (z:Nat) (hz:d.sz=z) (M:d.M W' W.heap.size (Fr W W') x cs) (hb:Below W.heap.size W W'):∃n m,Z0 (cs.length=z)∧Z0 (∀v∈cs,v.oneCell'=true)∧Z0 ((top≤n∧n≤m)∧p)∧Z0 (Env w0 W' m (Fct.made d w0.heap.size n m (fun _=>True) x cs::fs)):=by
 obtain ⟨n,m,h1,h2⟩:=E.made_ M hb
 exact ⟨n,m,⟨(d.K_len (d.K_of_M M)).trans hz⟩,⟨ones_K (d.K_of_M M)⟩,⟨h1,O⟩,⟨h2⟩⟩
theorem Env.put2 (E:Env w0 W top fs) (i:Nat) {g:Nat} {new:List Value} {t:TypeId} (hp:Put1 W W' g) (hn:W'.heap[g]?=some (.cells new.toArray t (0,0))) (ho:w0.heap.size≤g∧g+1≤top∧Off g fs i):Z0 (Env w0 W' top (fs.set i (Fct.box g new t))):=⟨E.put i hp hn ho.1 ho.2.1 ho.2.2⟩
theorem Env.to (E:Env w0 W top fs) (h:W=W'):Z0 (Env w0 W' top fs):=⟨h▸E⟩
end
theorem ones_app {a b:List Value} (ha:∀v∈a,v.oneCell'=true) (hb:∀v∈b,v.oneCell'=true):∀v∈a++b,v.oneCell'=true:=fun v hv=>(List.mem_append.1 hv).elim (ha v) (hb v)
theorem ones1 {a:Value} (h:a.oneCell'=true):∀v∈[a],v.oneCell'=true:=fun v hv=>by rw [List.mem_singleton.1 hv];exact h
theorem onesC {a:Value} {l:List Value} (h:a.oneCell'=true) (hl:∀v∈l,v.oneCell'=true):∀v∈a::l,v.oneCell'=true:=fun v hv=>(List.mem_cons.1 hv).elim (fun e=>by rw [e];exact h) (hl v)
theorem onesN:∀v∈([]:List Value),v.oneCell'=true:=fun v hv=>by cases hv
theorem lump_ (l:List Value) (n:Nat) (h:l.length=n) (ho:∀v∈l,v.oneCell'=true):∃c,Z0 (c=l)∧Z0 (c.length=n)∧Z0 (∀v∈c,v.oneCell'=true):=⟨l,⟨rfl⟩,⟨h⟩,⟨ho⟩⟩
theorem s_A {α:Type _} (l:List α) (i:Nat) (a:α):l.toArray.setIfInBounds i a=(l.set i a).toArray:=List.setIfInBounds_toArray l i a
theorem s_0 {α:Type _} (x y:α) (xs:List α):(x::xs).set 0 y=y::xs:=rfl
theorem s_1 {α:Type _} (x y:α) (i:Nat) (xs:List α):(x::xs).set (i+1) y=x::xs.set i y:=rfl
theorem comb {α β:Type} {a:Kd α} {b:Kd β} {W:World} {base:Nat} {p q:Nat→Prop} {x:α} {y:β} {c0 c1:List Value} (ha:a.M W base p x c0) (hb:b.M W base q y c1) (hd:∀k,p k→¬q k):(Own.apair a b).M W base (fun k=>p k∨q k) (x,y) (c0++c1):=
 Own.apair_mk ha hb (fun _ h=> .inl h) (fun _ h=> .inr h) hd
theorem Mint {W:World} {base:Nat} {n:Int}:(Kd.int .i64).M W base (fun _=>False) n [.int .i64 n]:=rfl
theorem zjb {α:Type} {d:Kd α} {w W:World} {base:Nat} {p:Nat→Prop} {x:α} {cs:List Value} (h:d.M W base p x cs) (hb:w.heap.size≤base):d.M W w.heap.size (Fr w W) x cs:=
 d.M_mono (fun k hk=>⟨hk.2.1,hk.2.2.1⟩) (d.M_bound (d.M_lower hb h))
theorem aA {α:Type} (x y z:List α):x++y++z=x++(y++z):=List.append_assoc x y z
theorem aN {α:Type} (x:List α):[]++x=x:=rfl
theorem aL {α:Type} (x:List α):x++[]=x:=List.append_nil x
end Go.Proofs.YtonhdiemjgdcnaaGreat.PFnExactGivePage
namespace Go.Proofs.YtonhdiemjgdcnaaGreatW.PrintLast
open Go.Proofs.YtonhdiemjgdcnaaGreatW.PrintWords (Z0)
inductive Tre where
 |d
 |p (i:Nat) (r:Tre)|t (i:Nat) (r:Tre)|e (i:Nat) (r:Tre)|l (i:Nat) (r:Tre)
 |two (i j:Nat) (ri rj:Tre)
 |three (i j k:Nat) (ri rj rk:Tre)
 |four (i j k m:Nat) (ri rj rk rm:Tre)
section
variable {P:Program} {ops:Array Oper} {Q:Exit→Act→World→Prop} {S:World→Prop} {ds:List Nat} {T:Bool×List (List Nat×List Nat)} {B:List Nat} {N:Option Tmp} {o:Oper} {v:Value} {a:Act} {w:World} {i j:Nat} {r ri rj:Tre}
def zPa (T:Bool×List (List Nat×List Nat)) (B ds:List Nat):Nat→Bool→List Bool→Tre→Bool
 |_,_,l,.d=>zhb T.2 l==[]
 |n+1,k,l,.p i r=>(T.1&&freeT T.2 l i&&ztb T.2 l i)&&zPa T B ds n k (l.set i true) r
 |n+1,k,l,.t i r=>(k&&takeW T B ds l (l.set i true) i)&&zPa T B ds n k (l.set i true) r
 |n+1,_,l,.e i r=>(zhb T.2 l==[i]&& !ds.contains i)&&zPa T B ds n true (l.set i true) r
 |n+1,_,l,.l i r=>(zhb T.2 l==[i]&&ds.contains i)&&zPa T B ds n false (l.set i true) r
 |n+1,_,l,.two i j ri rj=>(zhb T.2 l==[i,j]&& !ds.contains i&& !ds.contains j)&&zPa T B ds n true (l.set i true) ri&&zPa T B ds n true (l.set j true) rj
 |n+1,_,l,.three i j k ri rj rk=>(zhb T.2 l==[i,j,k]&& !ds.contains i&& !ds.contains j&& !ds.contains k)&&zPa T B ds n true (l.set i true) ri&&zPa T B ds n true (l.set j true) rj&&zPa T B ds n true (l.set k true) rk
 |n+1,_,l,.four i j k m ri rj rk rm=>(zhb T.2 l==[i,j,k,m]&& !ds.contains i&& !ds.contains j&& !ds.contains k&& !ds.contains m)&&zPa T B ds n true (l.set i true) ri&&zPa T B ds n true (l.set j true) rj&&zPa T B ds n true (l.set k true) rk&&zPa T B ds n true (l.set m true) rm
 |0,_,_,_=>false
def regT (ops:Array Oper) (T:Bool×List (List Nat×List Nat)) (B ds:List Nat) (r:Tre):Bool:=rtab .any ops==T&&zGa T.2 B&&zPa T B ds ops.size true (List.replicate ops.size false) r
theorem put_withT (a:Act) (d:Option Tmp) (v:Value):a.put d v={a with tmps:=(a.put d v).tmps}:=by cases d<;>rfl
def Ev1 (P:Program) (o:Oper) (ops:Array Oper) (Q:Exit→Act→World→Prop) (a:Act) (w:World) (G:Act→World→Prop):Prop:=
 ∀K:Act→World→Prop,Shut (∀a' w',G a' w'→K a' w')→if Region.wanted o (yielded ops a.tmps)=true then Oper.wp P o a w K Q else K (a.put o.dst undef) w
def zva (P:Program) (ops:Array Oper) (Q:Exit→Act→World→Prop) (S:World→Prop):Tre→Act→World→Prop
 | .d,a,w=>Q .normal a w
 | .p i r,a,w=>∃o v,ops[i]?=some o∧Yields P ops o v a∧zva P ops Q S r (a.put o.dst v) w
 | .t i r,a,w=>∃o v,ops[i]?=some o∧YieldsIf P ops S o v a∧zva P ops Q S r (a.put o.dst v) w
 | .e i r,a,w=>∃o,ops[i]?=some o∧Ev1 P o ops Q a w (fun a' w'=>S w'∧(S w'→zva P ops Q S r a' w'))
 | .l i r,a,w=>∃o,ops[i]?=some o∧Ev1 P o ops Q a w (fun a' w'=>zva P ops Q S r a' w')
 | .two i j ri rj,a,w=>(∃o,ops[i]?=some o∧Ev1 P o ops Q a w (fun a' w'=>S w'∧(S w'→zva P ops Q S ri a' w')))∧(∃o,ops[j]?=some o∧Ev1 P o ops Q a w (fun a' w'=>S w'∧(S w'→zva P ops Q S rj a' w')))
 | .three i j k ri rj rk,a,w=>(∃o,ops[i]?=some o∧Ev1 P o ops Q a w (fun a' w'=>S w'∧(S w'→zva P ops Q S ri a' w')))∧(∃o,ops[j]?=some o∧Ev1 P o ops Q a w (fun a' w'=>S w'∧(S w'→zva P ops Q S rj a' w')))∧(∃o,ops[k]?=some o∧Ev1 P o ops Q a w (fun a' w'=>S w'∧(S w'→zva P ops Q S rk a' w')))
 | .four i j k m ri rj rk rm,a,w=>(∃o,ops[i]?=some o∧Ev1 P o ops Q a w (fun a' w'=>S w'∧(S w'→zva P ops Q S ri a' w')))∧(∃o,ops[j]?=some o∧Ev1 P o ops Q a w (fun a' w'=>S w'∧(S w'→zva P ops Q S rj a' w')))∧(∃o,ops[k]?=some o∧Ev1 P o ops Q a w (fun a' w'=>S w'∧(S w'→zva P ops Q S rk a' w')))∧(∃o,ops[m]?=some o∧Ev1 P o ops Q a w (fun a' w'=>S w'∧(S w'→zva P ops Q S rm a' w')))
theorem zda (hT:rtab .any ops=T) (hB:zGa T.2 B=true) (hQ:∀c (a:Act) ts w,Q (.panic c) {a with tmps:=ts} w→Q (.panic c) a w):∀(r:Tre) (n:Nat) (k:Bool) (l:List Bool) (a:Act) (w:World),
  zPa T B ds n k l r=true→(k=true→S w)→zva P ops Q S r a w→zJ P .any ops Q S ds n l.toArray a w
 | .d,n,k,l,a,w,hc,hS,h=>done_ (by subst hT;rw [zlb];cases n<;>simpa [zPa] using hc) h
 | .p i r,0,k,l,a,w,hc,hS,h=>by simp [zPa] at hc
 | .p i r,n+1,k,l,a,w,hc,hS,h=>by
  simp only [zPa,Bool.and_eq_true] at hc
  obtain ⟨⟨⟨h1,h2⟩,h3⟩,h4⟩:=hc
  obtain ⟨o,v,ho,hy,hr⟩:=h
  refine zX (l.set i true).toArray ho rfl (zP hT ?_) (fun c a w hh=>hQ c a (a.put o.dst v).tmps w (by rw [←put_withT];exact hh)) hy rfl (zda hT hB hQ r n k _ _ w h4 hS hr)
  simp only [anyT,Bool.and_eq_true]
  exact ⟨⟨⟨h1,h2⟩,h3⟩,by simp⟩
 | .t i r,0,k,l,a,w,hc,hS,h=>by simp [zPa] at hc
 | .t i r,n+1,k,l,a,w,hc,hS,h=>by
  simp only [zPa,Bool.and_eq_true] at hc
  obtain ⟨⟨h1,h2⟩,h4⟩:=hc
  obtain ⟨o,v,ho,hy,hr⟩:=h
  exact take_ (l.set i true).toArray ho rfl (zU hT hB h2) (fun c a w hh=>hQ c a (a.put o.dst v).tmps w (by rw [←put_withT];exact hh)) hy (hS h1) rfl (zda hT hB hQ r n k _ _ w h4 hS hr)
 | .e i r,0,k,l,a,w,hc,hS,h=>by simp [zPa] at hc
 | .e i r,n+1,k,l,a,w,hc,hS,h=>by
  simp only [zPa,Bool.and_eq_true] at hc
  obtain ⟨⟨h1,h2⟩,h4⟩:=hc
  obtain ⟨o,ho,hr⟩:=h
  refine one_ (l.set i true).toArray ho rfl (zHa hT ?_) (by simpa using h2) (fun K hK=>hr K (fun a' w' hs=>hK.out a' w' hs.1 fun hs2=>zda hT hB hQ r n true _ a' w' h4 (fun _=>hs2) (hs.2 hs2)))
  simp only [Bool.and_eq_true]
  exact ⟨h1,by simp⟩
 | .l i r,0,k,l,a,w,hc,hS,h=>by simp [zPa] at hc
 | .l i r,n+1,k,l,a,w,hc,hS,h=>by
  simp only [zPa,Bool.and_eq_true] at hc
  obtain ⟨⟨h1,h2⟩,h4⟩:=hc
  obtain ⟨o,ho,hr⟩:=h
  refine last_ (l.set i true).toArray ho rfl (zHa hT ?_) (by simpa using h2) (fun K hK=>hr K (fun a' w' hs=>hK.out a' w' (zda hT hB hQ r n false _ a' w' h4 (fun h=>by cases h) hs)))
  simp only [Bool.and_eq_true]
  exact ⟨h1,by simp⟩
 | .two i j ri rj,0,k,l,a,w,hc,hS,h=>by simp [zPa] at hc
 | .two i j ri rj,n+1,k,l,a,w,hc,hS,h=>by
  simp only [zPa,Bool.and_eq_true] at hc
  obtain ⟨⟨⟨⟨h1,h2⟩,h3⟩,h4⟩,h5⟩:=hc
  obtain ⟨⟨oi,hoi,hri⟩,oj,hoj,hrj⟩:=h
  refine two_ (l.set i true).toArray (l.set j true).toArray hoi hoj rfl rfl (two_of hT ?_) (by simpa using h2) (by simpa using h3) (fun K hK=>hri K (fun a' w' hs=>hK.out a' w' hs.1 fun hs2=>zda hT hB hQ ri n true _ a' w' h4 (fun _=>hs2) (hs.2 hs2))) (fun K hK=>hrj K (fun a' w' hs=>hK.out a' w' hs.1 fun hs2=>zda hT hB hQ rj n true _ a' w' h5 (fun _=>hs2) (hs.2 hs2)))
  simp only [Bool.and_eq_true]
  exact ⟨⟨h1,by simp⟩,by simp⟩
 | .three i j k ri rj rk,0,k_,l,a,w,hc,hS,h=>by simp [zPa] at hc
 | .three i j k ri rj rk,n+1,k_,l,a,w,hc,hS,h=>by
  simp only [zPa,Bool.and_eq_true,beq_iff_eq] at hc
  obtain ⟨⟨⟨⟨⟨⟨h1,ci⟩,cj⟩,ck⟩,wi⟩,wj⟩,wk⟩:=hc
  obtain ⟨⟨oi,hoi,hri⟩,⟨oj,hoj,hrj⟩,⟨ok,hok,hrk⟩⟩:=h
  refine zDa (rs:=[i,j,k]) (by rw [zlb,hT];exact h1) zq15 (AllReadyL.cons hoi (by simpa using ci) (fun K hK=>hri K (fun a' w' hs=>hK.out a' w' hs.1 fun hs2=>by rw [show l.toArray.setIfInBounds i true=(l.set i true).toArray by simp];exact zda hT hB hQ ri n true _ a' w' wi (fun _=>hs2) (hs.2 hs2))) (AllReadyL.cons hoj (by simpa using cj) (fun K hK=>hrj K (fun a' w' hs=>hK.out a' w' hs.1 fun hs2=>by rw [show l.toArray.setIfInBounds j true=(l.set j true).toArray by simp];exact zda hT hB hQ rj n true _ a' w' wj (fun _=>hs2) (hs.2 hs2))) (AllReadyL.cons hok (by simpa using ck) (fun K hK=>hrk K (fun a' w' hs=>hK.out a' w' hs.1 fun hs2=>by rw [show l.toArray.setIfInBounds k true=(l.set k true).toArray by simp];exact zda hT hB hQ rk n true _ a' w' wk (fun _=>hs2) (hs.2 hs2))) AllReadyL.nil)))
 | .four i j k m ri rj rk rm,0,k_,l,a,w,hc,hS,h=>by simp [zPa] at hc
 | .four i j k m ri rj rk rm,n+1,k_,l,a,w,hc,hS,h=>by
  simp only [zPa,Bool.and_eq_true,beq_iff_eq] at hc
  obtain ⟨⟨⟨⟨⟨⟨⟨⟨h1,ci⟩,cj⟩,ck⟩,cm⟩,wi⟩,wj⟩,wk⟩,wm⟩:=hc
  obtain ⟨⟨oi,hoi,hri⟩,⟨oj,hoj,hrj⟩,⟨ok,hok,hrk⟩,⟨om,hom,hrm⟩⟩:=h
  refine zDa (rs:=[i,j,k,m]) (by rw [zlb,hT];exact h1) zq15 (AllReadyL.cons hoi (by simpa using ci) (fun K hK=>hri K (fun a' w' hs=>hK.out a' w' hs.1 fun hs2=>by rw [show l.toArray.setIfInBounds i true=(l.set i true).toArray by simp];exact zda hT hB hQ ri n true _ a' w' wi (fun _=>hs2) (hs.2 hs2))) (AllReadyL.cons hoj (by simpa using cj) (fun K hK=>hrj K (fun a' w' hs=>hK.out a' w' hs.1 fun hs2=>by rw [show l.toArray.setIfInBounds j true=(l.set j true).toArray by simp];exact zda hT hB hQ rj n true _ a' w' wj (fun _=>hs2) (hs.2 hs2))) (AllReadyL.cons hok (by simpa using ck) (fun K hK=>hrk K (fun a' w' hs=>hK.out a' w' hs.1 fun hs2=>by rw [show l.toArray.setIfInBounds k true=(l.set k true).toArray by simp];exact zda hT hB hQ rk n true _ a' w' wk (fun _=>hs2) (hs.2 hs2))) (AllReadyL.cons hom (by simpa using cm) (fun K hK=>hrm K (fun a' w' hs=>hK.out a' w' hs.1 fun hs2=>by rw [show l.toArray.setIfInBounds m true=(l.set m true).toArray by simp];exact zda hT hB hQ rm n true _ a' w' wm (fun _=>hs2) (hs.2 hs2))) AllReadyL.nil))))
theorem zgb {id:Nat} (hc:regT ops T B ds r=true) (hm:P.follows .mixedOrders=true) (hQ:∀c (a:Act) ts w,Q (.panic c) {a with tmps:=ts} w→Q (.panic c) a w) (hS:S w.drew) (h:S w.drew→zva P ops Q S r a w.drew):(Code.region id ops true).wp P Q a w:=by
 simp only [regT,Bool.and_eq_true,beq_iff_eq] at hc
 obtain ⟨⟨h1,h2⟩,h4⟩:=hc
 refine zBb (ds:=ds) (List.replicate ops.size false).toArray hm rfl zq15 hS (fun hs=> ?_)
 exact zda h1 h2 hQ r _ true _ a _ h4 (fun _=>hs) (h hs)
theorem zua (ho:ops[i]?=some o) (hN:o.dst=N) (hy:Yields P ops o v a) {a':Act} (ha:a.put N v=a') (h:zva P ops Q S r a' w):zva P ops Q S (.p i r) a w:=by
 subst hN;subst ha;exact ⟨o,v,ho,hy,h⟩
theorem tre_t (ho:ops[i]?=some o) (hN:o.dst=N) (hy:YieldsIf P ops S o v a) {a':Act} (ha:a.put N v=a') (h:zva P ops Q S r a' w):zva P ops Q S (.t i r) a w:=by
 subst hN;subst ha;exact ⟨o,v,ho,hy,h⟩
theorem zQa (ho:ops[i]?=some o) (h:Ev1 P o ops Q a w (fun a' w'=>S w'∧(S w'→zva P ops Q S r a' w'))):zva P ops Q S (.e i r) a w:=⟨o,ho,h⟩
theorem tre_l (ho:ops[i]?=some o) (h:Ev1 P o ops Q a w (fun a' w'=>zva P ops Q S r a' w')):zva P ops Q S (.l i r) a w:=⟨o,ho,h⟩
theorem zEb {oj:Oper} (ho:ops[i]?=some o) (hoj:ops[j]?=some oj) (h:Ev1 P o ops Q a w (fun a' w'=>S w'∧(S w'→zva P ops Q S ri a' w'))) (h2:Ev1 P oj ops Q a w (fun a' w'=>S w'∧(S w'→zva P ops Q S rj a' w'))):zva P ops Q S (.two i j ri rj) a w:=⟨⟨o,ho,h⟩,oj,hoj,h2⟩
theorem tre_three {k:Nat} {rk:Tre} {oj ok:Oper} (ho:ops[i]?=some o) (hoj:ops[j]?=some oj) (hok:ops[k]?=some ok) (h:Ev1 P o ops Q a w (fun a' w'=>S w'∧(S w'→zva P ops Q S ri a' w'))) (h2:Ev1 P oj ops Q a w (fun a' w'=>S w'∧(S w'→zva P ops Q S rj a' w'))) (h3:Ev1 P ok ops Q a w (fun a' w'=>S w'∧(S w'→zva P ops Q S rk a' w'))):zva P ops Q S (.three i j k ri rj rk) a w:=⟨⟨o,ho,h⟩,⟨oj,hoj,h2⟩,ok,hok,h3⟩
theorem tre_four {k m:Nat} {rk rm:Tre} {oj ok om:Oper} (ho:ops[i]?=some o) (hoj:ops[j]?=some oj) (hok:ops[k]?=some ok) (hom:ops[m]?=some om) (h:Ev1 P o ops Q a w (fun a' w'=>S w'∧(S w'→zva P ops Q S ri a' w'))) (h2:Ev1 P oj ops Q a w (fun a' w'=>S w'∧(S w'→zva P ops Q S rj a' w'))) (h3:Ev1 P ok ops Q a w (fun a' w'=>S w'∧(S w'→zva P ops Q S rk a' w'))) (h4:Ev1 P om ops Q a w (fun a' w'=>S w'∧(S w'→zva P ops Q S rm a' w'))):zva P ops Q S (.four i j k m ri rj rk rm) a w:=⟨⟨o,ho,h⟩,⟨oj,hoj,h2⟩,⟨ok,hok,h3⟩,om,hom,h4⟩
theorem zAa (h:Q .normal a w):zva P ops Q S .d a w:=h
theorem zK {a':Act} (ha:a=a') (h:zva P ops Q S r a' w):zva P ops Q S r a w:=by subst ha;exact h
theorem zZ {G:Act→World→Prop} {f:FuncId} {fn:Func} {aa:Array Operand} {ts:Array TypeId} (hN:o.dst=N) (hf:P.funcs[f]?=some fn) (hname:(fn.name== "runtime.NumGoroutine")=false) (hb:fn.body.isSome=true) (args:Array Value)
  (hw:Region.wanted o (yielded ops a.tmps)=true) (hop:o.op= .call {callee:= .value (.func f),args:=aa,argTypes:=ts}) (hargs:aa.map a.eval=args)
  (h:Calls P f args w fun e w'=>∃v,e= .returned v∧G (a.put N v) w'):Ev1 P o ops Q a w G:=by
 subst hN
 exact fun K hK=>goes_ hf hname hb args hw rfl hop hargs (h.mono fun e w' ⟨v,he,hk⟩=>⟨v,he,hK.out _ _ hk⟩)
theorem zCa {G:Act→World→Prop} (hN:o.dst=N) (hw:Region.wanted o (yielded ops a.tmps)=true) (ty:TypeId) (hop:o.op= .alloc ty) (cs:List Value) (hz:(zeroValue ty).run P w= .ok (.agg cs.toArray) w)
  (h:G (a.put N (.pointer (some ⟨w.heap.size,0,none⟩))) (w.alloc (.cells cs.toArray ty))):Ev1 P o ops Q a w G:=by
 intro K hK
 subst hN
 rw [if_pos hw]
 unfold Oper.wp execOp
 simp only [hop,Instr.alloc,Sem.run_bind,hz,Result.andThen_ok,newVar,Value.cells,Sem.run_pure]
 exact hK.out _ _ h
end
end Go.Proofs.YtonhdiemjgdcnaaGreatW.PrintLast
namespace Go.Proofs.YtonhdiemjgdcnaaGreat.PFnExactGivePage
open Go.RowKit Go.Proofs.YtonhdiemjgdcnaaGreatW.PrintWords Go.Proofs.YtonhdiemjgdcnaaGreatW.PrintLast Go.Proofs.YtonhdiemjgdcnaaGreatW.PrintMore
section
variable {P:Program} {ops:Array Oper} {Q:Exit→Act→World→Prop} {S:World→Prop} {G:Act→World→Prop} {N:Option Tmp} {o:Oper} {a:Act} {w:World} {i:Nat} {r:Tre}
theorem zNa (ho:ops[i]?=some o) (hN:o.dst=N) (hw:Region.wanted o (yielded ops a.tmps)=true) (ty:TypeId) (x:Operand) (hop:o.op= .load ty x) (g off:Nat) (pre mid post:List Value) {cs:List Value} {t:TypeId} (d:TypeDesc) (hx:a.eval x= .pointer (some ⟨g,off,none⟩)) (hg:∀w',S w'→w'.heap[g]?=some (.cells cs.toArray t (0,0))) (e:cs=pre++(mid++post)) (hp:pre.length=off)
  (hu:P.underlying ty=some d) (hd:d.isRow=true) (hi:(P.info? ty).map (·.size)=some mid.length) {a':Act} (ha:a.put N (.agg mid.toArray)=a') (h:zva P ops Q S r a' w):zva P ops Q S (.t i r) a w:=
 tre_t ho hN (.inl ⟨hw,fun w' hs=>run_loadpart ty x hop g off pre mid post d hx (hg w' hs) e hp hu hd hi⟩) ha h
theorem zza (ho:ops[i]?=some o) (hN:o.dst=N) (hw:Region.wanted o (yielded ops a.tmps)=true) (ty:TypeId) (x:Operand) (hop:o.op= .load ty x) (g off:Nat) (pre:List Value) (v:Value) (post:List Value) {cs:List Value} {t:TypeId} (d:TypeDesc) (hx:a.eval x= .pointer (some ⟨g,off,none⟩)) (hg:∀w',S w'→w'.heap[g]?=some (.cells cs.toArray t (0,0))) (e:cs=pre++([v]++post)) (hp:pre.length=off)
  (hu:P.underlying ty=some d) (hd:d.isRow=false) {a':Act} (ha:a.put N v=a') (h:zva P ops Q S r a' w):zva P ops Q S (.t i r) a w:=
 tre_t ho hN (.inl ⟨hw,fun w' hs=>run_loadcell ty x hop g off pre v post hx (hg w' hs) e hp hu hd⟩) ha h
theorem zT (hN:o.dst=none) (hw:Region.wanted o (yielded ops a.tmps)=true) (ty:TypeId) (x y:Operand) (hop:o.op= .store ty x y) (g off:Nat) (new pre mid post:List Value) {cs:List Value} {t:TypeId} (hx:a.eval x= .pointer (some ⟨g,off,none⟩)) (hy:a.eval y= .agg new.toArray) (hg:w.heap[g]?=some (.cells cs.toArray t (0,0))) (e:cs=pre++(mid++post)) (hp:pre.length=off)
  (hl:new.length=mid.length) (hi:(P.info? ty).map (·.size)=some new.length) (h1:∀v∈new,v.oneCell'=true)
  (h:∀W',Put1 w W' g→W'.heap[g]?=some (.cells (pre++(new++post)).toArray t (0,0))→G a W'):Ev1 P o ops Q a w G:=by
 intro K hK
 rw [if_pos hw]
 refine wp_store_mid ty x y hop g off new.toArray hx hy (by have:=part_there hg e hp;rw [List.size_toArray,hl];exact this) (by rw [List.size_toArray];exact hi) (Array.all_eq_true_iff_forall_mem.2 (fun v hv=>h1 v (by simpa using hv))) ?_
 rw [show a.put o.dst undef=a by rw [hN];rfl]
 refine hK.out _ _ (h _ (Put1.cells off _) ?_)
 subst e;subst hp
 exact part_set new mid pre post w hl hg
end
end Go.Proofs.YtonhdiemjgdcnaaGreat.PFnExactGivePage
namespace Go.Proofs.YtonhdiemjgdcnaaGreat.PFnExactGivePage
open Go.RowKit Go.Proofs.YtonhdiemjgdcnaaGreatW.PrintWords Go.Proofs.YtonhdiemjgdcnaaGreatW.PrintLast Go.Proofs.YtonhdiemjgdcnaaGreatW.PrintMore
attribute [local go_sem] zba zga zoa zna zW zV zfa zea
abbrev Z37:List Value:=[.slice none 0 0,.slice none 0 0]
abbrev Z44:List Value:=[.slice none 0 0,.slice none 0 0,.int .i64 0,.slice none 0 0,.slice none 0 0,.slice none 0 0]
abbrev Z40:List Value:=[.int .i64 0,.int .i64 0,.int .i64 0,.slice none 0 0]
abbrev Z46:List Value:=[.int .i64 0,.int .i64 0,.int .i64 0,.slice none 0 0,.slice none 0 0,.slice none 0 0,.int .i64 0,.slice none 0 0,.slice none 0 0,.slice none 0 0,.int .i64 0]
theorem Env.cell {w0 W:World} {top:Nat} {fs:List Fct} (E:Env w0 W top fs) {a:Addr} {v:Value} (h:w0.cell? a=some v):W.cell? a=some v:=(E.below.cell (World.block_lt_of_cell? w0 _ h)).trans h
theorem elem_at {α:Type} {d:Kd α} {w:World} {A:Option Addr} {n:Nat} {xs:List α} (h:Kd.C d w A n xs) {i:Nat} (hi:i<xs.length) (hz:0<d.sz):∃ad v cs,A=some ad∧d.K w xs[i] (v::cs)∧w.cell? (ad.add (i*d.sz))=some v∧w.rangeAt (ad.add (i*d.sz)).block ((ad.add (i*d.sz)).off+1) cs:=by
 obtain ⟨h1,h2,h3⟩:=h
 obtain ⟨ad,e,hc⟩:=h3 zq5
 obtain ⟨c,hs,hr,hcell⟩:=hc i _ (List.getElem?_eq_getElem hi)
 cases c with
 |nil=>rw [List.length_nil] at hs;omega
 |cons v cs=>
  refine ⟨ad,v,cs,e,hr,hcell 0 v rfl,fun j u hj=> ?_⟩
  have:=hcell (j+1) u (by simpa using hj)
  rw [add_field _ _ (j+1) zq5] at this
  rw [Nat.add_assoc,Nat.add_comm 1 j]
  exact this
section
variable {P:Program} {ops:Array Oper} {Q:Exit→Act→World→Prop} {S:World→Prop} {G:Act→World→Prop} {N:Option Tmp} {o:Oper} {a:Act} {w:World} {i:Nat} {r:Tre}
end
section
variable {P:Program} {ops:Array Oper} {rest:List Oper} {o:Oper} {a:Act} {Q:Exit→Act→World→Prop} {W:World}
theorem zEa (hw:Region.wanted o (yielded ops a.tmps)=true) (ty:TypeId) (x:Operand) (ho:o.op= .load ty x) (g off:Nat) (pre mid post:List Value) {cs:List Value} {t:TypeId} (d:TypeDesc) (hx:a.eval x= .pointer (some ⟨g,off,none⟩)) (hg:W.heap[g]?=some (.cells cs.toArray t (0,0))) (e:cs=pre++(mid++post)) (hp:pre.length=off)
  (hu:P.underlying ty=some d) (hd:d.isRow=true) (hi:(P.info? ty).map (·.size)=some mid.length) (h:wpList P ops Q rest (a.put o.dst (.agg mid.toArray)) W):wpList P ops Q (o::rest) a W:=by
 refine wpList_step fun K hK=> ?_
 rw [if_pos hw]
 unfold Oper.wp
 rw [run_loadpart ty x ho g off pre mid post d hx hg e hp hu hd hi]
 exact hK _ _ h
end
def Off2 (lo hi:Nat):List Fct→Nat→Prop
 |[],_=>True
 |_::fs,0=>Off2A lo hi fs
 |f::fs,n+1=>(f.hi≤lo∨hi≤f.lo)∧Off2 lo hi fs n
where Off2A (lo hi:Nat):List Fct→Prop
 |[]=>True
 |f::fs=>(f.hi≤lo∨hi≤f.lo)∧Off2A lo hi fs
theorem All.off2A {W W':World} {top top' lo hi:Nat} (hk:∀k,k<top→(k<lo∨hi≤k)→W'.heap[k]?=W.heap[k]?) (ht:top≤top'):∀{fs:List Fct},All W top fs→Off2.Off2A lo hi fs→All W' top' fs
 |[],_,_=>trivial
 |f::_,⟨⟨h1,h2⟩,h3⟩,⟨h4,h5⟩=>⟨⟨Nat.le_trans h1 ht,f.mv (fun k h6 h7=>hk k zq5 zq5) h2⟩,All.off2A hk ht h3 h5⟩
theorem All.off2 {W W':World} {top top' lo hi:Nat} (hk:∀k,k<top→(k<lo∨hi≤k)→W'.heap[k]?=W.heap[k]?) (ht:top≤top') {f':Fct} (h1':f'.hi≤top') (hf:f'.P W'):∀{fs:List Fct} (i:Nat),All W top fs→Off2 lo hi fs i→All W' top' (fs.set i f')
 |[],i,_,_=>by cases i<;>exact trivial
 |_::_,0,⟨_,h3⟩,h5=>⟨⟨h1',hf⟩,All.off2A hk ht h3 h5⟩
 |f::_,i+1,⟨⟨h1,h2⟩,h3⟩,⟨h4,h5⟩=>⟨⟨Nat.le_trans h1 ht,f.mv (fun k h6 h7=>hk k zq5 zq5) h2⟩,All.off2 hk ht h1' hf i h3 h5⟩
section
variable {P:Program} {ops:Array Oper} {Q:Exit→Act→World→Prop} {G:Act→World→Prop} {N:Option Tmp} {o:Oper} {a:Act}
end
def Fct.nil:Fct:=⟨0,0,fun _=>True,fun _ h=>h⟩
theorem All.set {W:World} {top:Nat} {f':Fct}:∀{fs:List Fct} (i:Nat),f'.hi≤top→f'.P W→All W top fs→All W top (fs.set i f')
 |[],i,_,_,_=>by cases i<;>exact trivial
 |_::_,0,h1,h2,⟨_,h3⟩=>⟨⟨h1,h2⟩,h3⟩
 |_::_,i+1,h1,h2,⟨h4,h3⟩=>⟨h4,All.set i h1 h2 h3⟩
theorem Env.nil_ {w0 W:World} {top:Nat} {fs:List Fct} (E:Env w0 W top fs):Env w0 W top (Fct.nil::fs):=⟨E.below,E.le,E.ge,⟨Nat.zero_le _,trivial⟩,E.all⟩
theorem arow_of_srow {α:Type} {d:Kd α} {e:Nat} {W:World} {base:Nat} {p:Nat→Prop} {xs:List α} {v:Value} (h:(Own.srow e d).M W base p xs [v]):(Own.arow e d).M W base p xs [v]:=by
 obtain ⟨v',hv,hS⟩:=h
 injection hv with hv
 subst hv
 exact Own.arow_of_S hS
theorem S_made0 {α:Type} (d:Kd α) (e base:Nat) (w:World) (ok:Nat→Prop) (hb:base≤w.heap.size) (hok:ok w.heap.size):Kd.S d e (w.alloc (.cells #[] e)) base ok (.slice (some ⟨w.heap.size,0,none⟩) 0 0) []:=
 ⟨fun _=>0,fun k hk=>by simp [Value.ownBlock] at hk;rw [←hk];exact hok,[],World.ownsRow_made w #[] 0 hb zq14 zq15,Reps.none _ _⟩
section
variable {P:Program} {ops:Array Oper} {Q:Exit→Act→World→Prop} {G:Act→World→Prop} {N:Option Tmp} {o:Oper} {a:Act} {w0 W:World} {top:Nat} {fs:List Fct}
theorem ev1_lit0 (E:Env w0 W top fs) (i:Nat) (hN:o.dst=N) (hw:Region.wanted o (yielded ops a.tmps)=true) (t e:TypeId) (hop:o.op= .buildSlice t 0 #[]) (hu:P.underlying t=some (.slice e)) (sz:Nat) (hs:(sizeOf e).run P W= .ok sz W) {α:Type} (d:Kd α)
  (h:∀g W',top≤g→Env w0 W' (g+1) (fs.set i (Fct.made (Own.srow e d) w0.heap.size g (g+1) (fun _=>True) [] [.slice (some ⟨g,0,none⟩) 0 0]))→G (a.put N (.slice (some ⟨g,0,none⟩) 0 0)) W'):Ev1 P o ops Q a W G:=by
 intro K hK
 subst hN
 rw [if_pos hw]
 have hz:(Array.range (0*sz)).map ((#[]:Array Value)[·%(#[]:Array Value).size]!)= #[]:=by simp
 have hle:¬0*sz>2^24:=by simp
 have h0:0*sz=0:=by simp
 have hr:Array.range 0= #[]:=rfl
 unfold Oper.wp execOp
 simp only [hop,Instr.buildSlice,Sem.run_bind,run_underlying hu,hs,Result.andThen_ok,List.map_toArray,List.map_nil,if_neg hle,h0,if_true,Instr.fill,Sem.run_pure,newRow,Sem.run_map,Functor.map,hr,Array.map_empty]
 refine hK.out _ _ (h W.heap.size (W.alloc (.cells #[] e)) E.le ?_)
 have E1:=E.call (zg (Below.refl W.heap.size W) (.cells #[] e))
 exact ⟨E1.below,by simp,Nat.le_succ_of_le E.below.size,All.set i (Nat.le_refl _) (show Fct.P _ _ from ⟨_,rfl,Kd.S_mono (S_made0 d e w0.heap.size W (fun k=>k=W.heap.size) E.below.size rfl) (fun k hk=>⟨trivial,by rw [hk];exact ⟨Nat.le_refl _,Nat.lt_succ_self _⟩⟩)⟩) (All.step (fun _ _=>rfl) (Nat.le_succ_of_le E.le) E1.all)⟩
theorem ev1_appendrow (E:Env w0 W top fs) (hN:o.dst=N) (hw:Region.wanted o (yielded ops a.tmps)=true) (s x:Operand) (t e:TypeId) (z:Value) (bytes:Nat)
  (ho:o.op= .call {callee:= .builtin .append,args:= #[s,x],argTypes:= #[t,t]}) {α:Type} (d:Kd α) (hE:d.E=[])
  (ht:P.underlying t=some (.slice e)) (hinfo:(P.info? e).map (fun i=>(i.zero,i.size,i.bytes))=some (some z,d.sz,bytes)) (hz:z.cells.size=d.sz) (hs0:0<d.sz) (hb0:0<bytes)
  (i:Nat) {g:Nat} {v:Value} (hf:fs[i]?=some (Fct.made (Own.srow e d) w0.heap.size g (g+1) (fun _=>True) [] [v])) {ys:List α} {A:Option Addr} {m c:Nat} (hR:d.C w0 A m ys) (hKM:∀x cs,d.K W x cs→d.M W w0.heap.size (fun _=>False) x cs)
  (hs:a.eval s=v) (hx:a.eval x= .slice A m c) (hl:m*bytes≤140737488355328) (hgt:g+1≤top) (hoff:Off2 g (g+1) fs i)
  (h:∀v1 w1 b t1,(b=g∨top≤b)∧b+1≤t1∧top≤t1→Env w0 w1 t1 (fs.set i (Fct.made (Own.srow e d) w0.heap.size b (b+1) (fun _=>True) ys [v1]))→G (a.put N v1) w1):Ev1 P o ops Q a W G:=by
 intro K hK
 subst hN
 obtain ⟨v',hv,hS⟩:=E.made i hf
 injection hv with hv
 subst hv
 have hown:∀k,v.ownBlock=some k→True∧Iv g (g+1) k:=hS.choose_spec.1
 have hC:=Kd.C_below hR E.below
 refine Kd.R_append_rows_step d (Rr:=d.K W) (w0:=w0) w0.heap.size hw s x t e z bytes ho ht hinfo hz hs0 hb0 v [] ys A m c (fun _=>True) (fun _=>False) hs hx (Kd.R_mono (Kd.S_R hS) (fun _ _=>trivial)) hC hKM (fun _ h=>h.elim) (fun _ _=>trivial) E.below E.below.size (by rw [List.length_nil,Nat.zero_add];exact hl) ?_
 intro v1 w1 hR1 hB hg hat
 rw [List.nil_append] at hR1
 have hM:=Own.srow_of_R hE hR1
 have fin:∀b,(b=g∨top≤b)→b+1≤w1.heap.size→(∀k,some k=v1.ownBlock→k=b)→K (a.put o.dst v1) w1:=fun b h1 h2 h3=>by
  refine hK.out _ _ (h v1 w1 b w1.heap.size ⟨h1,h2,Nat.le_trans E.le hg.size⟩ ⟨hB,Nat.le_refl _,hB.size,All.off2 (fun k hk hk2=>hg.block k (Nat.lt_of_lt_of_le hk E.le) (fun e=> ?_)) (Nat.le_trans E.le hg.size) (f':=Fct.made (Own.srow e d) w0.heap.size b (b+1) (fun _=>True) ys [v1]) h2 ?_ i E.all hoff⟩)
  ·have:=(hown k e.symm).2
   obtain ⟨q1,q2⟩:=this
   omega
  ·exact (Own.srow e d).M_mono (fun k hk=>⟨trivial,by rw [h3 k hk];exact ⟨Nat.le_refl _,Nat.lt_succ_self _⟩⟩) hM
 rcases hat with hat|⟨b,hb,hle⟩
 ·refine fin g (.inl rfl) (Nat.le_trans hgt (Nat.le_trans E.le hg.size)) (fun k hk=> ?_)
  rw [hat] at hk
  have:=(hown k hk.symm).2
  obtain ⟨q1,q2⟩:=this
  omega
 ·refine fin b (.inr (Nat.le_trans E.le hle)) (Kd.R_lt hR1 b hb) (fun k hk=> ?_)
  rw [hb] at hk
  injection hk
end
theorem Kpair {α β:Type} {a:Kd α} {b:Kd β} {w:World} {x:α} {y:β} {c0 c1:List Value} (ha:a.K w x c0) (hb:b.K w y c1):(Own.apair a b).K w (x,y) (c0++c1):=⟨c0,c1,rfl,ha,hb⟩
theorem kDisk_comb {W:World} {base:Nat} {p q:Nat→Prop} {l0:List ByteArray} {l1:List S110} {a b:Value} (ha:(Own.srow 9 Kd.string).M W base p l0 [a]) (hb:(Own.srow 110 k110).M W base q l1 [b]) (hd:∀k,p k→¬q k):kDisk.M W base (fun k=>p k∨q k) (l0,l1) [a,b]:=comb ha hb hd
theorem kWork_of2 {W:World} {base:Nat} {p p3 p4 p5:Nat→Prop} {l0:List ByteArray} {l1:List S110} {l2:Int} {l3 l4 l5:List Int} {c:List Value} {v3 v4 v5:Value} (h:kDisk.M W base p (l0,l1) c) (h3:(Own.arow 3 (Kd.int .i64)).M W base p3 l3 [v3]) (h4:(Own.arow 3 (Kd.int .i64)).M W base p4 l4 [v4]) (h5:(Own.arow 3 (Kd.int .i64)).M W base p5 l5 [v5]) (d0:∀k,p k→¬(p3 k∨p4 k∨p5 k)) (d1:∀k,p3 k→¬(p4 k∨p5 k)) (d2:∀k,p4 k→¬p5 k):kWork.M W base (fun k=>p k∨p3 k∨p4 k∨p5 k) (l0,l1,l2,l3,l4,l5) (c++([.int .i64 l2]++([v3]++([v4]++[v5])))):=by
 obtain ⟨c0,c1,okA,okB,rfl,ha,hb,hA,hB,hab⟩:=Own.apair_open h
 have t3:=comb h3 (comb h4 h5 d2) d1
 have t2:(Own.apair (Kd.int .i64) (Own.apair (Own.arow 3 (Kd.int .i64)) (Own.apair (Own.arow 3 (Kd.int .i64)) (Own.arow 3 (Kd.int .i64))))).M W base (fun k=>p3 k∨p4 k∨p5 k) (l2,l3,l4,l5) ([.int .i64 l2]++([v3]++([v4]++[v5]))):=Own.apair_mk (okA:=fun _=>False) (Mint (n:=l2)) t3 (fun _ h=>h.elim) (fun _ h=>h) (fun _ h=>h.elim)
 rw [List.append_assoc]
 exact Own.apair_mk (ok:=fun k=>p k∨p3 k∨p4 k∨p5 k) (okA:=okA) (okB:=fun k=>okB k∨p3 k∨p4 k∨p5 k) ha (Own.apair_mk (ok:=fun k=>okB k∨p3 k∨p4 k∨p5 k) (okA:=okB) (okB:=fun k=>p3 k∨p4 k∨p5 k) hb t2 (fun k h=>Or.inl h) (fun k h=>Or.inr h) (fun k h1 h3=>d0 k (hB k h1) h3)) (fun k h=>Or.inl (hA k h)) (fun k h=>h.elim (fun h=>Or.inl (hB k h)) Or.inr) (fun k h1 h3=>h3.elim (hab k h1) (d0 k (hA k h1)))
theorem ev1_gate {P:Program} {ops:Array Oper} {Q:Exit→Act→World→Prop} {G:Act→World→Prop} {o:Oper} {a:Act} {W:World} {N:Nat} (_h:o.dst=some N) (h:Ev1 P o ops Q a W G):Ev1 P o ops Q a W G:=h
theorem zta {w:World} {l0:List ByteArray} {l1:List S110} {a b:Value} (h0:(Own.srow 9 Kd.string).K w l0 [a]) (h1:(Own.srow 110 k110).K w l1 [b]):kDisk.K w (l0,l1) [a,b]:=Kpair h0 h1
def l03Copy_n_T1:Bool×List (List Nat×List Nat):=(true,[([],[]),([],[]),([1],[1]),([0,2],[0,2]),([],[]),([],[]),([5],[5]),([4,6,3],[4,6]),([3,7],[3,7]),([8,7,0,1,2,3,4,5,6,7,8],[8])])
def l03Copy_n_B1:List Nat:=[0,0,2,7,0,0,32,127,255,511]
theorem l03Copy_n_ok1_0:regT (zkb Tryz.f36 1) l03Copy_n_T1 l03Copy_n_B1 [9] (.p 1 (.t 2 (.p 5 (.t 6 (.two 0 4 (.two 3 4 (.e 4 (.e 7 (.p 8 (.l 9 .d)))) (.e 3 (.e 7 (.p 8 (.l 9 .d))))) (.e 0 (.e 3 (.e 7 (.p 8 (.l 9 .d))))))))))=true:=by kernel_rfl
theorem l03Copy_n (l0:List ByteArray) (l1:List S110) {cs:List Value} (w:World) (h:kDisk.K w (l0,l1) cs) (hl:l0.length≤2000000∧l1.length≤2000000):
  Calls Tryz.prog 36 #[.agg cs.toArray] w fun e w'=>∃ds:List Value,e= .returned (.agg ds.toArray)∧kDisk.M w' w.heap.size (Fr w w') (l0,l1) ds∧Below w.heap.size w w':=by
 obtain ⟨A0,c0,A1,c1,rfl,m0,r0,m1,r1⟩:=zma h
 have R0:=zz r0;have R1:=zz r1;have L0:=zz hl.1;have L1:=zz hl.2;clear h r0 r1 m0 m1 hl
 have O:=zz (Nat.le_refl w.heap.size)
 have E:=zz (Env.start w)
 go_enter Tryz.func36,Tryz.ntmps36
 go_upto_region 1 with (fail)
 replace O:=zz (And.intro E.out.le O.out)
 replace E:=zz (E.out.alloc [.slice A0 l0.length c0,.slice A1 l1.length c1] 37 (g:=w.heap.size) rfl)
 replace E:=zz (E.out.alloc [.slice none 0 0,.slice none 0 0] 37 (g:=(w.heap.size+1)) zq15)
 replace E:=zz E.out.nil_
 replace E:=zz E.out.nil_
 replace E:=zz E.out.drew
 refine zgb l03Copy_n_ok1_0 (S:=fun w'=>w'.heap[w.heap.size]?=some (.cells ([.slice A0 l0.length c0,.slice A1 l1.length c1]:List Value).toArray 37 (0,0))∧True) zq7 (fun _ _ _ _ h=>h) ⟨(E.out.box 3 rfl),trivial⟩ (fun hHeld=> ?_)
 generalize hq:World.drew _=w1_ at hHeld ⊢;replace E:=E.out.to hq;clear hq
 (refine zua (v:= ?_) (a':= ?_) rfl rfl (Or.inl ⟨by rfl,?_⟩) ?_ ?_;rotate_left;(· intro w';go_simp;with_reducible rfl);rotate_left;(· show Act.put _ (some _) _=_;simp only [Act.put,s_A,s_0,s_1,zA];try rfl))
 refine zza (a':= ?ax2_) rfl rfl zq19 25 _ rfl w.heap.size 0 [] (.slice A0 l0.length c0) [.slice A1 l1.length c1] _ rfl (fun w' hs=>hs.1) zq8 (rfl) Tryz.underlying25 rfl ?px2_ ?kx2_
 case px2_=>(show Act.put _ (some _) _=_;simp only [Act.put,s_A,s_0,s_1,zA];try rfl)
 (refine zua (v:= ?_) (a':= ?_) rfl rfl (Or.inl ⟨by rfl,?_⟩) ?_ ?_;rotate_left;(· intro w';go_simp;with_reducible rfl);rotate_left;(· show Act.put _ (some _) _=_;simp only [Act.put,s_A,s_0,s_1,zA];try rfl))
 refine zza (a':= ?ax3_) rfl rfl zq19 35 _ rfl w.heap.size 1 [.slice A0 l0.length c0] (.slice A1 l1.length c1) [] _ rfl (fun w' hs=>hs.1) zq8 (rfl) Tryz.underlying35 rfl ?px3_ ?kx3_
 case px3_=>(show Act.put _ (some _) _=_;simp only [Act.put,s_A,s_0,s_1,zA];try rfl)
 repeat' (first
  |(refine tre_four rfl rfl rfl rfl ?_ ?_ ?_ ?_)
  |(refine tre_three rfl rfl rfl ?_ ?_ ?_)
  |(refine zEb rfl rfl ?_ ?_)
  |(refine zQa rfl ?_)
  |((with_reducible refine ev1_gate (N:=3) rfl ?_);refine ev1_lit0 (N:=some 3) E.out 0 rfl zq19 25 9 rfl Tryz.underlying25 1 zq7 Kd.string ?_;intro g0 W hg hE;have q:=And.intro hg O.out;clear O E hg;have O:=zz q;have E:=zz hE;clear q hE;refine ⟨⟨E.out.box 3 rfl,trivial⟩,fun hHeld=> ?_⟩;refine zK (a':= ?_) ?_ ?_;rotate_left;(· show Act.put _ (some 3) _=_;simp only [Act.put,s_A,s_0,s_1,zA];try rfl))
  |((with_reducible refine ev1_gate (N:=6) rfl ?_);refine ev1_appendrow (N:=some 6) E.out rfl zq19 _ _ 25 9 (.string .empty) 16 rfl Kd.string rfl Tryz.underlying25 info9 rfl zq14 zq14 0 (g:=g0) rfl R0.out (fun _ _ h=>h) rfl rfl (by have:=L0.out;omega) (by have o:=O.out;omega) zq49 ?_;intro u W b0 t0 hg hE;have q:=And.intro hg O.out;clear O E hg;have O:=zz q;have E:=zz hE;clear q hE;obtain ⟨B0,e0,hv,-⟩:=E.out.mk_ 0 rfl;injection hv with hv;subst hv;refine ⟨⟨E.out.box 3 rfl,trivial⟩,fun hHeld=> ?_⟩;refine zK (a':= ?_) ?_ ?_;rotate_left;(· show Act.put _ (some 6) _=_;simp only [Act.put,s_A,s_0,s_1,zA];try rfl))
  |((with_reducible refine ev1_gate (N:=7) rfl ?_);refine ev1_lit0 (N:=some 7) E.out 1 rfl zq19 35 110 rfl Tryz.underlying35 2 zq7 k110 ?_;intro g1 W hg hE;have q:=And.intro hg O.out;clear O E hg;have O:=zz q;have E:=zz hE;clear q hE;refine ⟨⟨E.out.box 3 rfl,trivial⟩,fun hHeld=> ?_⟩;refine zK (a':= ?_) ?_ ?_;rotate_left;(· show Act.put _ (some 7) _=_;simp only [Act.put,s_A,s_0,s_1,zA];try rfl))
  |((with_reducible refine ev1_gate (N:=10) rfl ?_);refine ev1_appendrow (N:=some 10) E.out rfl zq19 _ _ 35 110 (.agg #[.int .i64 0,.string .empty]) 24 rfl k110 rfl Tryz.underlying35 info110 rfl zq14 zq14 1 (g:=g1) rfl R1.out (fun _ _ h=>h) rfl rfl (by have:=L1.out;omega) (by have o:=O.out;omega) zq49 ?_;intro u W b1 t1 hg hE;have q:=And.intro hg O.out;clear O E hg;have O:=zz q;have E:=zz hE;clear q hE;obtain ⟨B1,e1,hv,-⟩:=E.out.mk_ 1 rfl;injection hv with hv;subst hv;refine ⟨⟨E.out.box 3 rfl,trivial⟩,fun hHeld=> ?_⟩;refine zK (a':= ?_) ?_ ?_;rotate_left;(· show Act.put _ (some 10) _=_;simp only [Act.put,s_A,s_0,s_1,zA];try rfl)))
 all_goals
  (refine zua (v:= ?_) (a':= ?_) rfl rfl (Or.inl ⟨by rfl,?_⟩) ?_ ?_;rotate_left;(· intro w';go_simp;with_reducible rfl);rotate_left;(· show Act.put _ (some _) _=_;simp only [Act.put,s_A,s_0,s_1,zA];try rfl))
  refine tre_l rfl (zT rfl zq19 37 _ _ rfl (w.heap.size+1) 0 [.slice B0 l0.length e0,.slice B1 l1.length e1] [] Z37 [] rfl rfl (E.out.box 2 rfl) rfl rfl rfl zq7 (onesC rfl (onesC rfl onesN)) (fun W hp hn=> ?_))
  replace E:=E.out.put2 2 hp hn (by have o:=O.out;dsimp only [Off,OffA,Fct.box,Fct.made,Fct.nil,List.set];and_intros<;>first|trivial|omega)
  refine zAa ?_
  clear hHeld hp hn
  go_wp2_with fail
  refine bodyPost_ret (zY rfl _ _ (w.heap.size+1) 37 _ _ _ rfl (show _=some (Obj.cells ([.slice B0 l0.length e0,.slice B1 l1.length e1]:List Value).toArray 37 (0,0)) from E.out.box 2 rfl) Tryz.underlying37 rfl zq7) rfl ?_
  exact ⟨_,rfl,zjb (d:=kDisk) (kDisk_comb (E.out.made 0 rfl) (E.out.made 1 rfl) (fun k h1 h2=>by have o:=O.out;(try simp only [Iv,true_and,or_false,false_or] at h1 h2)<;>omega)) (Nat.le_refl _),E.out.below⟩
end Go.Proofs.YtonhdiemjgdcnaaGreat.PFnExactGivePage
namespace Go.Proofs.YtonhdiemjgdcnaaGreat.PFnExactGivePage
open Go.RowKit Go.Proofs.YtonhdiemjgdcnaaGreatW.PrintWords Go.Proofs.YtonhdiemjgdcnaaGreatW.PrintLast Go.Proofs.YtonhdiemjgdcnaaGreatW.PrintMore
attribute [local go_sem] zba zga zoa zna zW zV zfa zea
def SmallM (x:S40):Prop:=x.f3.length≤2000000∧∀f∈x.f3,f.f1.length≤2000000
theorem R_made0 {α:Type} (d:Kd α) (e base:Nat) (w:World) (ok:Nat→Prop) (hb:base≤w.heap.size) (hok:ok w.heap.size):Kd.R d e (w.alloc (.cells #[] e)) base ok (.slice (some ⟨w.heap.size,0,none⟩) 0 0) []:=
 ⟨fun k hk=>by simp [Value.ownBlock] at hk;rw [←hk];exact hok,[],World.ownsRow_made w #[] 0 hb zq14 zq15,Reps.none _ _⟩
theorem kDiskL_lit {w:World} {l0:List ByteArray} {l1:List S156} {a b:Value} (h0:(Own.srow 9 Kd.string).K w l0 [a]) (h1:(Own.srow 156 k156).K w l1 [b]):kDiskL.K w (l0,l1) [a,b]:=Kpair h0 h1
theorem made_of_R {α:Type} {d:Kd α} (hE:d.E=[]) {e:Nat} {w w':World} {v:Value} {xs:List α} {ok:Nat→Prop} (h:d.R e w' w.heap.size ok v xs):(Own.srow e d).M w' w.heap.size (Fr w w') xs [v]:=
 (Own.srow e d).M_mono (fun k hk=>⟨Kd.R_base h k hk.symm,Kd.R_lt h k hk.symm⟩) (Own.srow_of_R hE h)
theorem cloneDisk_c (z:(List ByteArray×List S110)) {cs:List Value} (w:World) (h:kDisk.K w z cs) (hl:z.1.length≤2000000∧z.2.length≤2000000):
  Calls Tryz.prog 46 #[.agg cs.toArray] w fun e w'=>∃ds:List Value,e= .returned (.agg ds.toArray)∧kDisk.M w' w.heap.size (Fr w w') z ds∧Below w.heap.size w w':=by
 obtain ⟨l0,l1⟩:=z
 obtain ⟨A0,c0,A1,c1,rfl,m0,r0,m1,r1⟩:=zma h
 refine (impl_cloneDisk.calls A0 c0 l0 A1 c1 l1 l0 l1 w r0 m0 r1 m1 (by
  have h1:l0.length≤2000000:=hl.1
  have h2:l1.length≤2000000:=hl.2
  unfold impl_cloneDisk.f slices_Clone_string_string.f impl_Put.f
  rw [if_pos zq5,if_pos zq5]
  rfl)).mono ?_
 rintro e w' ⟨v0,v1,rfl,R0,R1,hb⟩
 have T0:=Own.R_tightB rfl R0
 have T1:=Own.R_tightB rfl R1
 exact ⟨[v0,v1],rfl,zSa T0.1 T1.1 T0.2.1 T1.2.1 (Own.types_ne T0.2.2 T1.2.2 zq14),hb⟩
theorem cloneInts_c (z:List Int) {v:Value} (w:World) (h:(Own.arow 3 (Kd.int .i64)).K w z [v]) (hl:z.length≤2000000):
  Calls Tryz.prog 87 #[v] w fun e w'=>∃u:Value,e= .returned u∧(Own.srow 3 (Kd.int .i64)).M w' w.heap.size (Fr w w') z [u]∧Below w.heap.size w w':=by
 obtain ⟨A,c,hv,m,r⟩:=h
 injection hv with hv
 subst hv
 refine (slices_Clone_int_int.calls A c z z w r m (by unfold slices_Clone_int_int.f;rw [if_pos zq5])).mono ?_
 rintro e w' ⟨u,rfl,R,hb⟩
 exact ⟨u,rfl,made_of_R rfl R,hb⟩
theorem eqInts_c (k:Nat) (z:List Int) {v0:Value} {v1:Value} (w:World) (h0:(Own.arow 3 (Kd.int .i64)).K w z [v0]) (h1:(Own.arow 3 (Kd.int .i64)).K w z [v1]) (hf:laws_eqIntS.f k z z=some true):
  Calls Tryz.prog 99 #[v0,v1] w fun e w'=>e= .returned (.bool true)∧Below w.heap.size w w':=by
 obtain ⟨A0,c0,hv,m0,r0⟩:=h0
 injection hv with hv
 subst hv
 obtain ⟨A1,c1,hv,m1,r1⟩:=h1
 injection hv with hv
 subst hv
 refine (laws_eqIntS.calls k A0 c0 z A1 c1 z true w r0 m0 r1 m1 hf).mono ?_
 rintro e w' ⟨he,hb⟩
 exact ⟨he,by first|exact hb|exact hb.below⟩
theorem toInts_c (k:Nat) (z:List Int) (r:List Int) {v0:Value} (w:World) (h0:(Own.arow 3 (Kd.int .i64)).K w z [v0]) (hf:laws_toIntS.f k z=some r):
  Calls Tryz.prog 85 #[v0] w fun e w'=>∃u:Value,e= .returned u∧(Own.srow 3 (Kd.int .i64)).M w' w.heap.size (Fr w w') r [u]∧Below w.heap.size w w':=by
 obtain ⟨A0,c0,hv,m0,r0⟩:=h0
 injection hv with hv
 subst hv
 refine (laws_toIntS.calls k A0 c0 z r w r0 m0 hf).mono ?_
 rintro e w' ⟨u,rfl,R,hb⟩
 exact ⟨u,rfl,made_of_R rfl R,hb⟩
theorem toDisk_c (k:Nat) (a:(List ByteArray×List S156)) (z:(List ByteArray×List S110)) {cs:List Value} (w:World) (h:kDiskL.K w a cs) (hf:laws_toDisk.f k a.1 a.2=some (z.1,z.2)):
 Calls Tryz.prog 66 #[.agg cs.toArray] w fun e w'=>∃ds:List Value,e= .returned (.agg ds.toArray)∧kDisk.M w' w.heap.size (Fr w w') z ds∧Below w.heap.size w w':=toDisk_o k a.1 a.2 z.1 z.2 w h hf
def eqDisk_c_f (k:Nat) (z0:(List ByteArray×List S110)) (z1:(List ByteArray×List S110)):Option Bool:=laws_eqDisk.f k z0.1 z0.2 z1.1 z1.2
theorem eqDisk_c (k:Nat) (z0:(List ByteArray×List S110)) {cs0:List Value} (z1:(List ByteArray×List S110)) {cs1:List Value} (r:Bool) (w:World) (h0:kDisk.K w z0 cs0) (h1:kDisk.K w z1 cs1) (hf:eqDisk_c_f k z0 z1=some r):
  Calls Tryz.prog 10 #[.agg cs0.toArray,.agg cs1.toArray] w fun e w'=>e= .returned (.bool r)∧Below w.heap.size w w':=by
 obtain ⟨p_0,q_0⟩:=z0
 obtain ⟨A_00,c_00,A_01,c_01,rfl,m_00,r_00,m_01,r_01⟩:=zma h0
 obtain ⟨p_1,q_1⟩:=z1
 obtain ⟨A_10,c_10,A_11,c_11,rfl,m_10,r_10,m_11,r_11⟩:=zma h1
 exact laws_eqDisk.calls k A_00 c_00 p_0 A_01 c_01 q_0 A_10 c_10 p_1 A_11 c_11 q_1 r w r_00 m_00 r_01 m_01 r_10 m_10 r_11 m_11 hf
def heldDisk_c_f (k:Nat) (z0:(List ByteArray×List S110)) (a:Int):Option Int:=laws_heldDisk.f k z0.1 z0.2 a
theorem heldDisk_c (k:Nat) (z0:(List ByteArray×List S110)) {cs0:List Value} (a:Int) (r:Int) (w:World) (h0:kDisk.K w z0 cs0) (hf:heldDisk_c_f k z0 a=some r):
  Calls Tryz.prog 16 #[.agg cs0.toArray,.int .i64 a] w fun e w'=>e= .returned (.int .i64 r)∧Below w.heap.size w w':=by
 obtain ⟨p_0,q_0⟩:=z0
 obtain ⟨A_00,c_00,A_01,c_01,rfl,m_00,r_00,m_01,r_01⟩:=zma h0
 exact laws_heldDisk.calls k A_00 c_00 p_0 A_01 c_01 q_0 a r w r_00 m_00 r_01 m_01 hf
def eqMeta_c_f (k:Nat) (z0:S40) (z1:S40):Option Bool:=laws_eqMeta.f k z0.f0 z0.f1 z0.f2 z0.f3 z1.f0 z1.f1 z1.f2 z1.f3
theorem eqMeta_c (k:Nat) (z0:S40) {cs0:List Value} (z1:S40) {cs1:List Value} (r:Bool) (w:World) (h0:k40.K w z0 cs0) (h1:k40.K w z1 cs1) (hf:eqMeta_c_f k z0 z1=some r):
  Calls Tryz.prog 11 #[.agg cs0.toArray,.agg cs1.toArray] w fun e w'=>e= .returned (.bool r)∧Below w.heap.size w w':=by
 obtain ⟨x_0,rfl⟩:∃x,x=z0:=⟨_,rfl⟩
 obtain ⟨A_0,c_0,rfl,m_0,r_0⟩:=zMa h0
 obtain ⟨x_1,rfl⟩:∃x,x=z1:=⟨_,rfl⟩
 obtain ⟨A_1,c_1,rfl,m_1,r_1⟩:=zMa h1
 exact laws_eqMeta.calls k x_0.f0 x_0.f1 x_0.f2 A_0 c_0 x_0.f3 x_1.f0 x_1.f1 x_1.f2 A_1 c_1 x_1.f3 r w r_0 m_0 r_1 m_1 hf
def heldMeta_c_f (k:Nat) (z0:S40) (a:Int):Option Int:=laws_heldMeta.f k z0.f0 z0.f1 z0.f2 z0.f3 a
def EqWork (k:Nat) (z:(List ByteArray×List S110×Int×List Int×List Int×List Int)):Prop:=eqDisk_c_f k (z.1,z.2.1) (z.1,z.2.1)=some true∧laws_eqIntS.f k z.2.2.2.1 z.2.2.2.1=some true∧laws_eqIntS.f k z.2.2.2.2.1 z.2.2.2.2.1=some true∧laws_eqIntS.f k z.2.2.2.2.2 z.2.2.2.2.2=some true
theorem eqWork_c (k:Nat) (z:(List ByteArray×List S110×Int×List Int×List Int×List Int)) {cs ds:List Value} (w:World) (h:kWork.K w z cs) (h2:kWork.K w z ds) (hf:EqWork k z):
  Calls Tryz.prog 51 #[.agg cs.toArray,.agg ds.toArray] w fun e w'=>e= .returned (.bool true)∧Below w.heap.size w w':=by
 have hwp:=h
 obtain ⟨cp0,_,rfl,hp0,cp1,_,rfl,hp1,cp2,_,rfl,hp2,cp3,_,rfl,hp3,cp4,cp5,rfl,hp4,hp5⟩:=h
 have gp0:=hp0;obtain ⟨A_,k_,rfl,-,-⟩:=hp0;obtain ⟨vp0,hv⟩:∃v,v=Value.slice A_ (z.1).length k_:=⟨_,rfl⟩;rw [←hv] at gp0 hwp ⊢;clear hv
 have gp1:=hp1;obtain ⟨A_,k_,rfl,-,-⟩:=hp1;obtain ⟨vp1,hv⟩:∃v,v=Value.slice A_ (z.2.1).length k_:=⟨_,rfl⟩;rw [←hv] at gp1 hwp ⊢;clear hv
 obtain rfl:cp2=[.int .i64 z.2.2.1]:=hp2
 have gp3:=hp3;obtain ⟨A_,k_,rfl,-,-⟩:=hp3;obtain ⟨vp3,hv⟩:∃v,v=Value.slice A_ (z.2.2.2.1).length k_:=⟨_,rfl⟩;rw [←hv] at gp3 hwp ⊢;clear hv
 have gp4:=hp4;obtain ⟨A_,k_,rfl,-,-⟩:=hp4;obtain ⟨vp4,hv⟩:∃v,v=Value.slice A_ (z.2.2.2.2.1).length k_:=⟨_,rfl⟩;rw [←hv] at gp4 hwp ⊢;clear hv
 have gp5:=hp5;obtain ⟨A_,k_,rfl,-,-⟩:=hp5;obtain ⟨vp5,hv⟩:∃v,v=Value.slice A_ (z.2.2.2.2.2).length k_:=⟨_,rfl⟩;rw [←hv] at gp5 hwp ⊢;clear hv
 obtain ⟨ep,he⟩:∃cs,cs=[vp0]++([vp1]++([.int .i64 z.2.2.1]++([vp3]++([vp4]++([vp5]))))):=⟨_,rfl⟩;rw [←he] at hwp ⊢;have Ep:=zz he;have Wp:=zz hwp;have Np:=zz (show ep.length=6 from Kd.K_len _ hwp);clear he hwp
 have Kp0:=zz gp0;clear gp0
 have Kp1:=zz gp1;clear gp1
 have Kp3:=zz gp3;clear gp3
 have Kp4:=zz gp4;clear gp4
 have Kp5:=zz gp5;clear gp5
 have hwq:=h2
 obtain ⟨cq0,_,rfl,hq0,cq1,_,rfl,hq1,cq2,_,rfl,hq2,cq3,_,rfl,hq3,cq4,cq5,rfl,hq4,hq5⟩:=h2
 have gq0:=hq0;obtain ⟨A_,k_,rfl,-,-⟩:=hq0;obtain ⟨vq0,hv⟩:∃v,v=Value.slice A_ (z.1).length k_:=⟨_,rfl⟩;rw [←hv] at gq0 hwq ⊢;clear hv
 have gq1:=hq1;obtain ⟨A_,k_,rfl,-,-⟩:=hq1;obtain ⟨vq1,hv⟩:∃v,v=Value.slice A_ (z.2.1).length k_:=⟨_,rfl⟩;rw [←hv] at gq1 hwq ⊢;clear hv
 obtain rfl:cq2=[.int .i64 z.2.2.1]:=hq2
 have gq3:=hq3;obtain ⟨A_,k_,rfl,-,-⟩:=hq3;obtain ⟨vq3,hv⟩:∃v,v=Value.slice A_ (z.2.2.2.1).length k_:=⟨_,rfl⟩;rw [←hv] at gq3 hwq ⊢;clear hv
 have gq4:=hq4;obtain ⟨A_,k_,rfl,-,-⟩:=hq4;obtain ⟨vq4,hv⟩:∃v,v=Value.slice A_ (z.2.2.2.2.1).length k_:=⟨_,rfl⟩;rw [←hv] at gq4 hwq ⊢;clear hv
 have gq5:=hq5;obtain ⟨A_,k_,rfl,-,-⟩:=hq5;obtain ⟨vq5,hv⟩:∃v,v=Value.slice A_ (z.2.2.2.2.2).length k_:=⟨_,rfl⟩;rw [←hv] at gq5 hwq ⊢;clear hv
 obtain ⟨eq,he⟩:∃cs,cs=[vq0]++([vq1]++([.int .i64 z.2.2.1]++([vq3]++([vq4]++([vq5]))))):=⟨_,rfl⟩;rw [←he] at hwq ⊢;have Eq:=zz he;have Wq:=zz hwq;have Nq:=zz (show eq.length=6 from Kd.K_len _ hwq);clear he hwq
 have Kq0:=zz gq0;clear gq0
 have Kq1:=zz gq1;clear gq1
 have Kq3:=zz gq3;clear gq3
 have Kq4:=zz gq4;clear gq4
 have Kq5:=zz gq5;clear gq5
 obtain ⟨fF0,fF2,fF3,fF4⟩:=hf
 have F0:=zz fF0;clear fF0
 have F2:=zz fF2;clear fF2
 have F3:=zz fF3;clear fF3
 have F4:=zz fF4;clear fF4
 have O:=zz (Nat.le_refl w.heap.size)
 have E:=zz (Env.start w)
 go_enter Tryz.func51,Tryz.ntmps51
 go_wp2_with (first|((with_reducible refine zv (N:=6) rfl ?_);replace O:=zz (And.intro E.out.le O.out);replace E:=zz (E.out.alloc ep 44 (g:=w.heap.size) rfl);replace E:=zz (E.out.alloc eq 44 (g:=(w.heap.size+1)) zq15);refine zy rfl 37 _ rfl w.heap.size 0 [] [vp0,vp1] ([.int .i64 z.2.2.1]++([vp3]++([vp4]++[vp5]))) _ rfl (E.out.box 1 rfl) zq17 (rfl) Tryz.underlying37 rfl zq7 ?_)|((with_reducible refine zv (N:=8) rfl ?_);refine zy rfl 37 _ rfl (w.heap.size+1) 0 [] [vq0,vq1] ([.int .i64 z.2.2.1]++([vq3]++([vq4]++[vq5]))) _ rfl (E.out.box 0 rfl) zq38 (rfl) Tryz.underlying37 rfl zq7 ?_))
 ((with_reducible refine (eqDisk_c k (z.1,z.2.1) (z.1,z.2.1) true _ (zta (E.out.K Kp0.out) (E.out.K Kp1.out)) (zta (E.out.K Kq0.out) (E.out.K Kq1.out)) F0.out).mono ?_);rintro e w1_ ⟨rfl,hb⟩)
 replace E:=zz (E.out.call hb);clear hb
 go_wp2_with (first|((with_reducible refine zv (N:=12) rfl ?_);refine zaa rfl 3 _ rfl w.heap.size 2 ([vp0]++[vp1]) (.int .i64 z.2.2.1) ([vp3]++([vp4]++[vp5])) rfl (E.out.box 1 rfl) zq17 (rfl) Tryz.underlying3 rfl ?_)|((with_reducible refine zv (N:=14) rfl ?_);refine zaa rfl 3 _ rfl (w.heap.size+1) 2 ([vq0]++[vq1]) (.int .i64 z.2.2.1) ([vq3]++([vq4]++[vq5])) rfl (E.out.box 0 rfl) zq38 (rfl) Tryz.underlying3 rfl ?_)|((with_reducible refine zv (N:=17) rfl ?_);refine zaa rfl 29 _ rfl w.heap.size 3 ([vp0]++([vp1]++[.int .i64 z.2.2.1])) (vp3) ([vp4]++[vp5]) rfl (E.out.box 1 rfl) zq17 (rfl) Tryz.underlying29 rfl ?_)|((with_reducible refine zv (N:=19) rfl ?_);refine zaa rfl 29 _ rfl (w.heap.size+1) 3 ([vq0]++([vq1]++[.int .i64 z.2.2.1])) (vq3) ([vq4]++[vq5]) rfl (E.out.box 0 rfl) zq38 (rfl) Tryz.underlying29 rfl ?_))
 ((with_reducible refine (eqInts_c k z.2.2.2.1 _ (E.out.K Kp3.out) (E.out.K Kq3.out) F2.out).mono ?_);rintro e w2_ ⟨rfl,hb⟩)
 replace E:=zz (E.out.call hb);clear hb
 go_wp2_with (first|((with_reducible refine zv (N:=23) rfl ?_);refine zaa rfl 29 _ rfl w.heap.size 4 ([vp0]++([vp1]++([.int .i64 z.2.2.1]++[vp3]))) (vp4) [vp5] rfl (E.out.box 1 rfl) zq17 (rfl) Tryz.underlying29 rfl ?_)|((with_reducible refine zv (N:=25) rfl ?_);refine zaa rfl 29 _ rfl (w.heap.size+1) 4 ([vq0]++([vq1]++([.int .i64 z.2.2.1]++[vq3]))) (vq4) [vq5] rfl (E.out.box 0 rfl) zq38 (rfl) Tryz.underlying29 rfl ?_))
 ((with_reducible refine (eqInts_c k z.2.2.2.2.1 _ (E.out.K Kp4.out) (E.out.K Kq4.out) F3.out).mono ?_);rintro e w3_ ⟨rfl,hb⟩)
 replace E:=zz (E.out.call hb);clear hb
 go_wp2_with (first|((with_reducible refine zv (N:=29) rfl ?_);refine zaa rfl 29 _ rfl w.heap.size 5 ([vp0]++([vp1]++([.int .i64 z.2.2.1]++([vp3]++[vp4])))) (vp5) [] rfl (E.out.box 1 rfl) zq17 (rfl) Tryz.underlying29 rfl ?_)|((with_reducible refine zv (N:=31) rfl ?_);refine zaa rfl 29 _ rfl (w.heap.size+1) 5 ([vq0]++([vq1]++([.int .i64 z.2.2.1]++([vq3]++[vq4])))) (vq5) [] rfl (E.out.box 0 rfl) zq38 (rfl) Tryz.underlying29 rfl ?_))
 ((with_reducible refine (eqInts_c k z.2.2.2.2.2 _ (E.out.K Kp5.out) (E.out.K Kq5.out) F4.out).mono ?_);rintro e w4_ ⟨rfl,hb⟩)
 replace E:=zz (E.out.call hb);clear hb
 go_wp2_with fail
 go_ret
 exact ⟨rfl,E.out.below⟩
def ToWork (k:Nat) (a:(List ByteArray×List S156×Int×List Int×List Int×List Int)) (z:(List ByteArray×List S110×Int×List Int×List Int×List Int)):Prop:=laws_toDisk.f k a.1 a.2.1=some (z.1,z.2.1)∧z.2.2.1=a.2.2.1∧laws_toIntS.f k a.2.2.2.1=some z.2.2.2.1∧laws_toIntS.f k a.2.2.2.2.1=some z.2.2.2.2.1∧laws_toIntS.f k a.2.2.2.2.2=some z.2.2.2.2.2
theorem toWork_c (k:Nat) (a:(List ByteArray×List S156×Int×List Int×List Int×List Int)) (z:(List ByteArray×List S110×Int×List Int×List Int×List Int)) {cs:List Value} (w:World) (h:kWorkL.K w a cs) (hf:ToWork k a z):
  Calls Tryz.prog 41 #[.agg cs.toArray] w fun e w'=>∃ds:List Value,e= .returned (.agg ds.toArray)∧kWork.M w' w.heap.size (Fr w w') z ds∧Below w.heap.size w w':=by
 have hwp:=h
 obtain ⟨cp0,_,rfl,hp0,cp1,_,rfl,hp1,cp2,_,rfl,hp2,cp3,_,rfl,hp3,cp4,cp5,rfl,hp4,hp5⟩:=h
 have gp0:=hp0;obtain ⟨A_,k_,rfl,-,-⟩:=hp0;obtain ⟨vp0,hv⟩:∃v,v=Value.slice A_ (a.1).length k_:=⟨_,rfl⟩;rw [←hv] at gp0 hwp ⊢;clear hv
 have gp1:=hp1;obtain ⟨A_,k_,rfl,-,-⟩:=hp1;obtain ⟨vp1,hv⟩:∃v,v=Value.slice A_ (a.2.1).length k_:=⟨_,rfl⟩;rw [←hv] at gp1 hwp ⊢;clear hv
 obtain rfl:cp2=[.int .i64 a.2.2.1]:=hp2
 have gp3:=hp3;obtain ⟨A_,k_,rfl,-,-⟩:=hp3;obtain ⟨vp3,hv⟩:∃v,v=Value.slice A_ (a.2.2.2.1).length k_:=⟨_,rfl⟩;rw [←hv] at gp3 hwp ⊢;clear hv
 have gp4:=hp4;obtain ⟨A_,k_,rfl,-,-⟩:=hp4;obtain ⟨vp4,hv⟩:∃v,v=Value.slice A_ (a.2.2.2.2.1).length k_:=⟨_,rfl⟩;rw [←hv] at gp4 hwp ⊢;clear hv
 have gp5:=hp5;obtain ⟨A_,k_,rfl,-,-⟩:=hp5;obtain ⟨vp5,hv⟩:∃v,v=Value.slice A_ (a.2.2.2.2.2).length k_:=⟨_,rfl⟩;rw [←hv] at gp5 hwp ⊢;clear hv
 obtain ⟨ep,he⟩:∃cs,cs=[vp0]++([vp1]++([.int .i64 a.2.2.1]++([vp3]++([vp4]++([vp5]))))):=⟨_,rfl⟩;rw [←he] at hwp ⊢;have Ep:=zz he;have Wp:=zz hwp;have Np:=zz (show ep.length=6 from Kd.K_len _ hwp);clear he hwp
 have Kp0:=zz gp0;clear gp0
 have Kp1:=zz gp1;clear gp1
 have Kp3:=zz gp3;clear gp3
 have Kp4:=zz gp4;clear gp4
 have Kp5:=zz gp5;clear gp5
 obtain ⟨fF0,fF1,fF2,fF3,fF4⟩:=hf
 have F0:=zz fF0;clear fF0
 have F1:=zz fF1;clear fF1
 have F2:=zz fF2;clear fF2
 have F3:=zz fF3;clear fF3
 have F4:=zz fF4;clear fF4
 have O:=zz (Nat.le_refl w.heap.size)
 have E:=zz (Env.start w)
 go_enter Tryz.func41,Tryz.ntmps41
 go_wp2_with (first|((with_reducible refine zv (N:=5) rfl ?_);replace O:=zz (And.intro E.out.le O.out);replace E:=zz (E.out.alloc ep 31 (g:=w.heap.size) rfl);replace E:=zz (E.out.alloc Z44 44 (g:=(w.heap.size+1)) zq15);replace E:=zz (E.out.alloc Z44 44 (g:=(w.heap.size+1+1)) zq15);refine zy rfl 28 _ rfl w.heap.size 0 [] [vp0,vp1] ([.int .i64 a.2.2.1]++([vp3]++([vp4]++[vp5]))) _ rfl (E.out.box 2 rfl) zq17 (rfl) Tryz.underlying28 rfl zq7 ?_))
 ((with_reducible refine (toDisk_c k (a.1,a.2.1) (z.1,z.2.1) _ (kDiskL_lit (E.out.K Kp0.out) (E.out.K Kp1.out)) F0.out).mono ?_);rintro e w1_ ⟨d2_,rfl,Md2_,hb⟩)
 have q:=E.out.made4 O.out 2 rfl Md2_ hb;clear O E Md2_ hb;obtain ⟨n3_,m4_,Ld2_,Od2_,O,E⟩:=q
 go_wp2_with (first|((with_reducible refine zC (t:=37) (p:=7) rfl ?_);refine zD rfl 37 _ _ rfl rfl (w.heap.size+1+1) 0 d2_ [] [.slice none 0 0,.slice none 0 0] [.int .i64 0,.slice none 0 0,.slice none 0 0,.slice none 0 0] rfl rfl (E.out.box 1 rfl) zq8 (rfl) zq41 zq33 Od2_.out ?_;intro W5_ hp hn;replace E:=E.out.put2 1 hp hn zq10;clear hp hn)|((with_reducible refine zv (N:=9) rfl ?_);refine zaa rfl 3 _ rfl w.heap.size 2 ([vp0]++[vp1]) (.int .i64 a.2.2.1) ([vp3]++([vp4]++[vp5])) rfl (E.out.box 3 rfl) zq17 (rfl) Tryz.underlying3 rfl ?_)|((with_reducible refine zC (t:=3) (p:=10) rfl ?_);refine zia rfl 3 _ _ rfl rfl (w.heap.size+1+1) 2 (.int .i64 a.2.2.1) (.int .i64 0) d2_ [.slice none 0 0,.slice none 0 0,.slice none 0 0] rfl rfl (E.out.box 1 rfl) zq8 (Ld2_.out) zq7 rfl rfl ?_;intro W6_ hp hn;replace E:=E.out.put2 1 hp hn zq10;clear hp hn)|((with_reducible refine zv (N:=12) rfl ?_);refine zaa rfl 29 _ rfl w.heap.size 3 ([vp0]++([vp1]++[.int .i64 a.2.2.1])) (vp3) ([vp4]++[vp5]) rfl (E.out.box 3 rfl) zq17 (rfl) Tryz.underlying29 rfl ?_))
 ((with_reducible refine (toInts_c k a.2.2.2.1 z.2.2.2.1 _ (E.out.K Kp3.out) F2.out).mono ?_);rintro e w7_ ⟨d8_,rfl,Md8_,hb⟩)
 have q:=E.out.made4 O.out 1 rfl Md8_ hb;clear O E Md8_ hb;obtain ⟨n9_,m10_,Ld8_,Od8_,O,E⟩:=q
 obtain ⟨B11_,e12_,hv,-⟩:=E.out.mk_ 0 rfl;injection hv with hv;subst hv
 go_wp2_with (first|((with_reducible refine zC (t:=29) (p:=14) rfl ?_);refine zia rfl 29 _ _ rfl rfl (w.heap.size+1+1) 3 (.slice B11_ z.2.2.2.1.length e12_) (.slice none 0 0) (d2_++[.int .i64 a.2.2.1]) [.slice none 0 0,.slice none 0 0] rfl rfl (E.out.box 2 rfl) zq8 zq45 zq7 rfl rfl ?_;intro W13_ hp hn;replace E:=E.out.put2 2 hp hn zq10;clear hp hn)|((with_reducible refine zv (N:=16) rfl ?_);refine zaa rfl 29 _ rfl w.heap.size 4 ([vp0]++([vp1]++([.int .i64 a.2.2.1]++[vp3]))) (vp4) [vp5] rfl (E.out.box 4 rfl) zq17 (rfl) Tryz.underlying29 rfl ?_))
 ((with_reducible refine (toInts_c k a.2.2.2.2.1 z.2.2.2.2.1 _ (E.out.K Kp4.out) F3.out).mono ?_);rintro e w14_ ⟨d15_,rfl,Md15_,hb⟩)
 have q:=E.out.made4 O.out 1 rfl Md15_ hb;clear O E Md15_ hb;obtain ⟨n16_,m17_,Ld15_,Od15_,O,E⟩:=q
 obtain ⟨B18_,e19_,hv,-⟩:=E.out.mk_ 0 rfl;injection hv with hv;subst hv
 go_wp2_with (first|((with_reducible refine zC (t:=29) (p:=18) rfl ?_);refine zia rfl 29 _ _ rfl rfl (w.heap.size+1+1) 4 (.slice B18_ z.2.2.2.2.1.length e19_) (.slice none 0 0) (d2_++([.int .i64 a.2.2.1]++[.slice B11_ z.2.2.2.1.length e12_])) [.slice none 0 0] rfl rfl (E.out.box 3 rfl) zq8 zq45 zq7 rfl rfl ?_;intro W20_ hp hn;replace E:=E.out.put2 3 hp hn zq10;clear hp hn)|((with_reducible refine zv (N:=20) rfl ?_);refine zaa rfl 29 _ rfl w.heap.size 5 ([vp0]++([vp1]++([.int .i64 a.2.2.1]++([vp3]++[vp4])))) (vp5) [] rfl (E.out.box 5 rfl) zq17 (rfl) Tryz.underlying29 rfl ?_))
 ((with_reducible refine (toInts_c k a.2.2.2.2.2 z.2.2.2.2.2 _ (E.out.K Kp5.out) F4.out).mono ?_);rintro e w21_ ⟨d22_,rfl,Md22_,hb⟩)
 have q:=E.out.made4 O.out 1 rfl Md22_ hb;clear O E Md22_ hb;obtain ⟨n23_,m24_,Ld22_,Od22_,O,E⟩:=q
 obtain ⟨B25_,e26_,hv,-⟩:=E.out.mk_ 0 rfl;injection hv with hv;subst hv
 obtain ⟨c28_,Ec28_,Lc28_,Oc28_⟩:=lump_ (d2_++([.int .i64 a.2.2.1]++([.slice B11_ z.2.2.2.1.length e12_]++([.slice B18_ z.2.2.2.2.1.length e19_]++[.slice B25_ z.2.2.2.2.2.length e26_])))) 6 zq45 (ones_app Od2_.out (ones_app (ones1 rfl) (ones_app (ones1 rfl) (ones_app (ones1 rfl) (ones1 rfl)))))
 go_wp2_with (first|((with_reducible refine zC (t:=29) (p:=22) rfl ?_);refine zia rfl 29 _ _ rfl rfl (w.heap.size+1+1) 5 (.slice B25_ z.2.2.2.2.2.length e26_) (.slice none 0 0) (d2_++([.int .i64 a.2.2.1]++([.slice B11_ z.2.2.2.1.length e12_]++[.slice B18_ z.2.2.2.2.1.length e19_]))) [] rfl rfl (E.out.box 4 rfl) zq8 zq45 zq7 rfl rfl ?_;intro W27_ hp hn;replace E:=E.out.put2 4 hp hn zq10;clear hp hn)|((with_reducible refine zv (N:=23) rfl ?_);refine zy rfl 44 _ rfl (w.heap.size+1+1) 0 [] c28_ [] _ rfl (E.out.box 4 rfl) (by simp only [aA,aN,aL];rw [Ec28_.out];first|done|rfl|(simp only [aA,aN,aL];first|done|rfl)) (rfl) Tryz.underlying44 rfl (by rw [Lc28_.out];kernel_rfl) ?_)|((with_reducible refine zC (t:=44) (p:=2) rfl ?_);refine zD rfl 44 _ _ rfl rfl (w.heap.size+1) 0 c28_ [] Z44 [] rfl rfl (E.out.box 5 rfl) zq8 (rfl) (by rw [Lc28_.out];rfl) (by rw [Lc28_.out];kernel_rfl) Oc28_.out ?_;intro W29_ hp hn;replace E:=E.out.put2 5 hp hn zq10;clear hp hn))
 have BX:=zz (show _=some (Obj.cells (c28_:List Value).toArray 44 (0,0)) from by first|exact (E.out.box 5 rfl)|simpa only [aA,aN,aL] using (E.out.box 5 rfl))
 refine bodyPost_ret (zY rfl _ _ (w.heap.size+1) 44 _ _ _ rfl BX.out Tryz.underlying44 rfl (by rw [List.size_toArray,show (c28_:List Value).length=6 from Lc28_.out];kernel_rfl)) rfl ?_
 have e_:((z.1,z.2.1,a.2.2.1,z.2.2.2.1,z.2.2.2.2.1,z.2.2.2.2.2):(List ByteArray×List S110×Int×List Int×List Int×List Int))=z:=by (try simp only [←F1.out])<;>rfl
 rw [←e_]
 exact ⟨_,rfl,(by rw [Ec28_.out];exact zjb (d:=kWork) (kWork_of2 (E.out.made 3 rfl) (arow_of_srow (E.out.made 2 rfl)) (arow_of_srow (E.out.made 1 rfl)) (arow_of_srow (E.out.made 0 rfl)) (fun k h1 h2=>by have o:=O.out;(try simp only [Iv,true_and,or_false,false_or] at h1 h2)<;>omega) (fun k h1 h2=>by have o:=O.out;(try simp only [Iv,true_and,or_false,false_or] at h1 h2)<;>omega) (fun k h1 h2=>by have o:=O.out;(try simp only [Iv,true_and,or_false,false_or] at h1 h2)<;>omega)) (Nat.le_refl _)),E.out.below⟩
def EqTxn (k:Nat) (z:(S40×(List ByteArray×List S110×Int×List Int×List Int×List Int)×Int)):Prop:=eqMeta_c_f k z.1 z.1=some true∧EqWork k z.2.1
theorem eqTxn_c (k:Nat) (z:(S40×(List ByteArray×List S110×Int×List Int×List Int×List Int)×Int)) {cs ds:List Value} (w:World) (h:kTxn.K w z cs) (h2:kTxn.K w z ds) (hf:EqTxn k z):
  Calls Tryz.prog 12 #[.agg cs.toArray,.agg ds.toArray] w fun e w'=>e= .returned (.bool true)∧Below w.heap.size w w':=by
 have hwp:=h
 obtain ⟨cp0,_,rfl,hp0,cp1,cp2,rfl,hp1,hp2⟩:=h
 obtain rfl:cp2=[.int .i64 z.2.2]:=hp2
 obtain ⟨ep,he⟩:∃cs,cs=cp0++(cp1++([.int .i64 z.2.2])):=⟨_,rfl⟩;rw [←he] at hwp ⊢;have Ep:=zz he;have Wp:=zz hwp;have Np:=zz (show ep.length=11 from Kd.K_len _ hwp);clear he hwp
 have Kp0:=zz hp0;have Lp0:=zz (show cp0.length=4 from Kd.K_len _ hp0);clear hp0
 have Kp1:=zz hp1;have Lp1:=zz (show cp1.length=6 from Kd.K_len _ hp1);clear hp1
 have hwq:=h2
 obtain ⟨cq0,_,rfl,hq0,cq1,cq2,rfl,hq1,hq2⟩:=h2
 obtain rfl:cq2=[.int .i64 z.2.2]:=hq2
 obtain ⟨eq,he⟩:∃cs,cs=cq0++(cq1++([.int .i64 z.2.2])):=⟨_,rfl⟩;rw [←he] at hwq ⊢;have Eq:=zz he;have Wq:=zz hwq;have Nq:=zz (show eq.length=11 from Kd.K_len _ hwq);clear he hwq
 have Kq0:=zz hq0;have Lq0:=zz (show cq0.length=4 from Kd.K_len _ hq0);clear hq0
 have Kq1:=zz hq1;have Lq1:=zz (show cq1.length=6 from Kd.K_len _ hq1);clear hq1
 obtain ⟨fF0,fF1⟩:=hf
 have F0:=zz fF0;clear fF0
 have F1:=zz fF1;clear fF1
 have O:=zz (Nat.le_refl w.heap.size)
 have E:=zz (Env.start w)
 go_enter Tryz.func12,Tryz.ntmps12
 go_wp2_with (first|((with_reducible refine zv (N:=6) rfl ?_);replace O:=zz (And.intro E.out.le O.out);replace E:=zz (E.out.alloc ep 46 (g:=w.heap.size) rfl);replace E:=zz (E.out.alloc eq 46 (g:=(w.heap.size+1)) zq15);refine zy rfl 40 _ rfl w.heap.size 0 [] cp0 (cp1++[.int .i64 z.2.2]) _ rfl (E.out.box 1 rfl) zq17 (rfl) Tryz.underlying40 rfl (by rw [Lp0.out];kernel_rfl) ?_)|((with_reducible refine zv (N:=8) rfl ?_);refine zy rfl 40 _ rfl (w.heap.size+1) 0 [] cq0 (cq1++[.int .i64 z.2.2]) _ rfl (E.out.box 0 rfl) zq38 (rfl) Tryz.underlying40 rfl (by rw [Lq0.out];kernel_rfl) ?_))
 ((with_reducible refine (eqMeta_c k z.1 z.1 true _ (E.out.K Kp0.out) (E.out.K Kq0.out) F0.out).mono ?_);rintro e w1_ ⟨rfl,hb⟩)
 replace E:=zz (E.out.call hb);clear hb
 go_wp2_with (first|((with_reducible refine zv (N:=12) rfl ?_);refine zy rfl 44 _ rfl w.heap.size 4 cp0 cp1 [.int .i64 z.2.2] _ rfl (E.out.box 1 rfl) zq17 (Lp0.out) Tryz.underlying44 rfl (by rw [Lp1.out];kernel_rfl) ?_)|((with_reducible refine zv (N:=14) rfl ?_);refine zy rfl 44 _ rfl (w.heap.size+1) 4 cq0 cq1 [.int .i64 z.2.2] _ rfl (E.out.box 0 rfl) zq38 (Lq0.out) Tryz.underlying44 rfl (by rw [Lq1.out];kernel_rfl) ?_))
 ((with_reducible refine (eqWork_c k z.2.1 _ (E.out.K Kp1.out) (E.out.K Kq1.out) F1.out).mono ?_);rintro e w2_ ⟨rfl,hb⟩)
 replace E:=zz (E.out.call hb);clear hb
 go_wp2_with (first|((with_reducible refine zv (N:=18) rfl ?_);refine zaa rfl 3 _ rfl w.heap.size 10 (cp0++cp1) (.int .i64 z.2.2) [] rfl (E.out.box 1 rfl) zq17 (by simp only [List.length_append,List.length_cons,List.length_nil,Lp0.out,Lp1.out]) Tryz.underlying3 rfl ?_)|((with_reducible refine zv (N:=20) rfl ?_);refine zaa rfl 3 _ rfl (w.heap.size+1) 10 (cq0++cq1) (.int .i64 z.2.2) [] rfl (E.out.box 0 rfl) zq38 (by simp only [List.length_append,List.length_cons,List.length_nil,Lq0.out,Lq1.out]) Tryz.underlying3 rfl ?_))
 go_ret
 exact ⟨rfl,E.out.below⟩
def ToTxn (k:Nat) (a:(S24×(List ByteArray×List S156×Int×List Int×List Int×List Int)×Int)) (z:(S40×(List ByteArray×List S110×Int×List Int×List Int×List Int)×Int)):Prop:=laws_toMeta.f k a.1.f0 a.1.f1 a.1.f2 a.1.f3=some (z.1.f0,z.1.f1,z.1.f2,z.1.f3)∧ToWork k a.2.1 z.2.1∧z.2.2=a.2.2
theorem toTxn_c (k:Nat) (a:(S24×(List ByteArray×List S156×Int×List Int×List Int×List Int)×Int)) (z:(S40×(List ByteArray×List S110×Int×List Int×List Int×List Int)×Int)) {cs:List Value} (w:World) (h:kTxnL.K w a cs) (hf:ToTxn k a z):
  Calls Tryz.prog 8 #[.agg cs.toArray] w fun e w'=>∃ds:List Value,e= .returned (.agg ds.toArray)∧kTxn.M w' w.heap.size (Fr w w') z ds∧Below w.heap.size w w':=by
 have hwp:=h
 obtain ⟨cp0,_,rfl,hp0,cp1,cp2,rfl,hp1,hp2⟩:=h
 obtain rfl:cp2=[.int .i64 a.2.2]:=hp2
 obtain ⟨ep,he⟩:∃cs,cs=cp0++(cp1++([.int .i64 a.2.2])):=⟨_,rfl⟩;rw [←he] at hwp ⊢;have Ep:=zz he;have Wp:=zz hwp;have Np:=zz (show ep.length=11 from Kd.K_len _ hwp);clear he hwp
 have Kp0:=zz hp0;have Lp0:=zz (show cp0.length=4 from Kd.K_len _ hp0);clear hp0
 have Kp1:=zz hp1;have Lp1:=zz (show cp1.length=6 from Kd.K_len _ hp1);clear hp1
 obtain ⟨fF0,fF1,fF2⟩:=hf
 have F0:=zz fF0;clear fF0
 have F1:=zz fF1;clear fF1
 have F2:=zz fF2;clear fF2
 have O:=zz (Nat.le_refl w.heap.size)
 have E:=zz (Env.start w)
 go_enter Tryz.func8,Tryz.ntmps8
 go_wp2_with (first|((with_reducible refine zv (N:=5) rfl ?_);replace O:=zz (And.intro E.out.le O.out);replace E:=zz (E.out.alloc ep 33 (g:=w.heap.size) rfl);replace E:=zz (E.out.alloc Z46 46 (g:=(w.heap.size+1)) zq15);replace E:=zz (E.out.alloc Z46 46 (g:=(w.heap.size+1+1)) zq15);refine zy rfl 24 _ rfl w.heap.size 0 [] cp0 (cp1++[.int .i64 a.2.2]) _ rfl (E.out.box 2 rfl) zq17 (rfl) Tryz.underlying24 rfl (by rw [Lp0.out];kernel_rfl) ?_))
 ((with_reducible refine (toMeta_o k a.1 z.1 _ (E.out.K Kp0.out) F0.out).mono ?_);rintro e w1_ ⟨d2_,rfl,Md2_,hb⟩)
 have q:=E.out.made4 O.out 4 rfl Md2_ hb;clear O E Md2_ hb;obtain ⟨n3_,m4_,Ld2_,Od2_,O,E⟩:=q
 go_wp2_with (first|((with_reducible refine zC (t:=40) (p:=7) rfl ?_);refine zD rfl 40 _ _ rfl rfl (w.heap.size+1+1) 0 d2_ [] [.int .i64 0,.int .i64 0,.int .i64 0,.slice none 0 0] [.slice none 0 0,.slice none 0 0,.int .i64 0,.slice none 0 0,.slice none 0 0,.slice none 0 0,.int .i64 0] rfl rfl (E.out.box 1 rfl) zq8 (rfl) zq41 zq33 Od2_.out ?_;intro W5_ hp hn;replace E:=E.out.put2 1 hp hn zq10;clear hp hn)|((with_reducible refine zv (N:=9) rfl ?_);refine zy rfl 31 _ rfl w.heap.size 4 cp0 cp1 [.int .i64 a.2.2] _ rfl (E.out.box 3 rfl) zq17 (Lp0.out) Tryz.underlying31 rfl (by rw [Lp1.out];kernel_rfl) ?_))
 ((with_reducible refine (toWork_c k a.2.1 z.2.1 _ (E.out.K Kp1.out) F1.out).mono ?_);rintro e w6_ ⟨d7_,rfl,Md7_,hb⟩)
 have q:=E.out.made4 O.out 6 rfl Md7_ hb;clear O E Md7_ hb;obtain ⟨n8_,m9_,Ld7_,Od7_,O,E⟩:=q
 obtain ⟨c12_,Ec12_,Lc12_,Oc12_⟩:=lump_ (d2_++(d7_++[.int .i64 a.2.2])) 11 (by simp only [List.length_append,List.length_cons,List.length_nil,Ld2_.out,Ld7_.out]) (ones_app Od2_.out (ones_app Od7_.out (ones1 rfl)))
 go_wp2_with (first|((with_reducible refine zC (t:=44) (p:=11) rfl ?_);refine zD rfl 44 _ _ rfl rfl (w.heap.size+1+1) 4 d7_ d2_ [.slice none 0 0,.slice none 0 0,.int .i64 0,.slice none 0 0,.slice none 0 0,.slice none 0 0] [.int .i64 0] rfl rfl (E.out.box 2 rfl) zq8 (Ld2_.out) (by rw [Ld7_.out];rfl) (by rw [Ld7_.out];kernel_rfl) Od7_.out ?_;intro W10_ hp hn;replace E:=E.out.put2 2 hp hn zq10;clear hp hn)|((with_reducible refine zv (N:=13) rfl ?_);refine zaa rfl 3 _ rfl w.heap.size 10 (cp0++cp1) (.int .i64 a.2.2) [] rfl (E.out.box 4 rfl) zq17 (by simp only [List.length_append,List.length_cons,List.length_nil,Lp0.out,Lp1.out]) Tryz.underlying3 rfl ?_)|((with_reducible refine zC (t:=3) (p:=14) rfl ?_);refine zia rfl 3 _ _ rfl rfl (w.heap.size+1+1) 10 (.int .i64 a.2.2) (.int .i64 0) (d2_++d7_) [] rfl rfl (E.out.box 2 rfl) zq8 (by simp only [List.length_append,List.length_cons,List.length_nil,Ld2_.out,Ld7_.out]) zq7 rfl rfl ?_;intro W11_ hp hn;replace E:=E.out.put2 2 hp hn zq10;clear hp hn)|((with_reducible refine zv (N:=15) rfl ?_);refine zy rfl 46 _ rfl (w.heap.size+1+1) 0 [] c12_ [] _ rfl (E.out.box 2 rfl) (by simp only [aA,aN,aL];rw [Ec12_.out];first|done|rfl|(simp only [aA,aN,aL];first|done|rfl)) (rfl) Tryz.underlying46 rfl (by rw [Lc12_.out];kernel_rfl) ?_)|((with_reducible refine zC (t:=46) (p:=2) rfl ?_);refine zD rfl 46 _ _ rfl rfl (w.heap.size+1) 0 c12_ [] Z46 [] rfl rfl (E.out.box 3 rfl) zq8 (rfl) (by rw [Lc12_.out];rfl) (by rw [Lc12_.out];kernel_rfl) Oc12_.out ?_;intro W13_ hp hn;replace E:=E.out.put2 3 hp hn zq10;clear hp hn))
 have BX:=zz (show _=some (Obj.cells (c12_:List Value).toArray 46 (0,0)) from by first|exact (E.out.box 3 rfl)|simpa only [aA,aN,aL] using (E.out.box 3 rfl))
 refine bodyPost_ret (zY rfl _ _ (w.heap.size+1) 46 _ _ _ rfl BX.out Tryz.underlying46 rfl (by rw [List.size_toArray,show (c12_:List Value).length=11 from Lc12_.out];kernel_rfl)) rfl ?_
 have e_:((z.1,z.2.1,a.2.2):(S40×(List ByteArray×List S110×Int×List Int×List Int×List Int)×Int))=z:=by (try simp only [←F2.out])<;>rfl
 rw [←e_]
 exact ⟨_,rfl,(by rw [Ec12_.out];exact zjb (d:=kTxn) (comb (E.out.made 1 rfl) (comb (E.out.made 0 rfl) Mint (fun k h1 h2=>by have o:=O.out;(try simp only [Iv,true_and,or_false,false_or] at h1 h2)<;>omega)) (fun k h1 h2=>by have o:=O.out;(try simp only [Iv,true_and,or_false,false_or] at h1 h2)<;>omega)) (Nat.le_refl _)),E.out.below⟩
end Go.Proofs.YtonhdiemjgdcnaaGreat.PFnExactGivePage
