import Derived.Test.YtonhdiemjgdcnaaOA3
import Derived.Outline
import Derived.Deep.MidRow
set_option maxHeartbeats 64000000
set_option maxRecDepth 100000
set_option linter.unusedVariables false
set_option linter.unusedSimpArgs false
namespace Go.Proofs
theorem zq14{P:Prop}(h:P:=by first|rfl|(simp only [aA,aN,aL];first|done|rfl)):P:=h
theorem zq21{P:Prop}(h:P:=by show Act.put _ (some _) _=_;simp only [Act.put,s_A,s_0,s_1,zxa];try rfl):P:=h
theorem zq73{P:Prop}(h:P:=by have o:=O.1;dsimp only [Off2,Off2.Off2A,Fct.box,Fct.made,Fct.nil,List.set];and_intros<;>first|trivial|omega):P:=h
theorem zq153{P:Prop}(h:P:=by
 rw [if_neg c3] at H
 have c3b:=z7 c3
 obtain ⟨rfl,rfl⟩:x1=r∧xs=r2:=by simpa using H
 go_wp2
 go_ret
 exact ⟨rfl,HO.1,HB.1,HK.1⟩):P:=h
theorem zq154{P:Prop}(h:P:=by
 clear n0 n1 n2 hR hB2 hK2 HH H2 RI
 go_wp2
 go_roundg k1
 case measure=>have:=HK1.1;omega
 case rel=>exact ⟨_,_,_,rfl,rfl,H',⟨zq37 HK1.1⟩,HS,HK,HB⟩):P:=h
theorem zq163{P:Prop}(h:P:=by
 simp only [Bool.and_eq_true]
 exact ⟨h1,by simp⟩):P:=h
theorem zq165{P:Prop}(h:P:=by
 go_roundg k1
 case measure=>have:=HK1.1;omega
 case rel=>exact ⟨(t0),(wrap64 (x1+1)),zq10,zq10,H',⟨zq37 HK1.1⟩,zq15⟩):P:=h
end Go.Proofs
namespace Go.Proofs.Ytonhdiemjgdcnaa.PFnExactGivePage
open Go.RowKit Go.Proofs.YtonhdiemjgdcnaaW.PrintWords Go.Proofs.YtonhdiemjgdcnaaW.PrintLast Go.Proofs.YtonhdiemjgdcnaaW.PrintMore
attribute [local go_sem] zV zU zia zha zP zN zS zT
def laws_eqFreeS.l0:Nat→List (S122)→List (S122)→Int→Option (Bool)
 |0,_,_,_=>none
 |k+1,x0,x1,x5=>if x5<(x0.length:Int) then (if 0≤x5 then (if x5<(x1.length:Int) then ((laws_eqFree.f k ((zJ x0 x5).f0) ((zJ x0 x5).f1) ((zJ x1 x5).f0) ((zJ x1 x5).f1)).bind fun t119=>(if t119=true then (laws_eqFreeS.l0 k x0 x1 (wrap64 (x5+1))) else (none))) else (none)) else (none)) else (some true)
def laws_eqFreeS.f (k:Nat) (l0:List (S122)) (l1:List (S122)):Option (Bool):=if (l0.length:Int)=(l1.length:Int) then (laws_eqFreeS.l0 k l0 l1 0) else (none)
def laws_eqFreeS.T6:Bool×List (List Nat×List Nat):=(true,[([],[]),([],[]),([0,1],[0,1]),([2],[2]),([],[]),([],[]),([4,5],[4,5]),([6],[6]),([3,7],[3,7]),([8],[8])])
def laws_eqFreeS.B6:List Nat:=[0,0,3,7,0,0,48,112,255,511]
theorem laws_eqFreeS.tab6:rtab .any (zgb Try.f100 6)=laws_eqFreeS.T6:=zq8
theorem laws_eqFreeS.bits6:zqa laws_eqFreeS.T6.2 laws_eqFreeS.B6=true:=zq8
theorem laws_eqFreeS.calls (k:Nat) (A0:Option Addr) (c0:Nat) (l0:List (S122)) (A1:Option Addr) (c1:Nat) (l1:List (S122)) (r:Bool) (w:World) (hr0:Kd.C k122 w A0 l0.length l0) (hc0:l0.length≤c0) (hr1:Kd.C k122 w A1 l1.length l1) (hc1:l1.length≤c1) (h:laws_eqFreeS.f k l0 l1=some r):
  Calls Try.prog 100 #[.slice A0 l0.length c0,.slice A1 l1.length c1] w fun e w'=>e= .returned (.bool r)∧Below w.heap.size w w':=by
 have hu122:=Try.underlying122
 have HR0:=zz hr0
 clear hr0 hc0
 have HR1:=zz hr1
 clear hr1 hc1
 have HB:=zz (z0a w.heap.size w)
 have H:(if (l0.length:Int)=(l1.length:Int) then (laws_eqFreeS.l0 k l0 l1 0) else (none))=some r:=h
 clear h
 by_cases c3:(l0.length:Int)=(l1.length:Int)
 ·rw [if_pos c3] at H
  have c3b0:((l0.length:Int)==(l1.length:Int))=true:=beq_iff_eq.mpr c3
  have c3b1:((l0.length:Int) !=(l1.length:Int))=false:=bne_eq_false_iff_eq.mpr c3
  have c3b2:(l0.length==l1.length)=true:=zq71
  clear c3
  have H':=zz H
  clear H
  go_enter Try.func100,Try.ntmps100
  go_wp2
  go_loopg [5] k (fun kq v5 w'=>∃(x0:Int),v5= .int .i64 x0∧Z0 (laws_eqFreeS.l0 kq l0 l1 x0=some r)∧Z0 (kq≤k)∧Z0 (Below w.heap.size w w'))
  case atStart=>exact ⟨(0),zq10,H',⟨z2a _⟩,⟨zq0⟩⟩
  case round=>
   clear H'
   try clear c1
   try clear c3
   try clear c3b0
   try clear c3b1
   try clear c3b2
   obtain ⟨x0,rfl,HA,HK1,HB⟩:=hrel
   cases gk with
   |zero=>exact absurd HA.1 (by simp [laws_eqFreeS.l0])
   |succ k1=>
    have H:=HA.1
    clear HA
    simp only [laws_eqFreeS.l0] at H
    by_cases c4:x0<(l0.length:Int)
    ·rw [if_pos c4] at H
     have c4b0:=z6 c4
     clear c4
     by_cases c5:0≤x0
     ·rw [if_pos c5] at H
      have c5b0:=z6 c5
      clear c5
      by_cases c6:x0<(l1.length:Int)
      ·rw [if_pos c6] at H
       have c6b0:=z6 c6
       clear c6
       replace H:=z1a H
       obtain ⟨t0,A2,H⟩:=H
       replace H:(if t0=true then (laws_eqFreeS.l0 k1 l0 l1 (wrap64 (x0+1))) else (none))=some r:=H
       have A7:=zz A2
       clear A2
       by_cases c8:t0=true
       ·subst c8
        rw [if_pos rfl] at H
        have H':=zz H
        clear H
        try go_wp2
        have n0:=zz (zx HB.1)
        clear HB
        have HB:=n0
        clear n0
        have p0:0≤(x0:Int):=z8 zq11
        have q0:x0<(l0.length:Int):=z8 zq11
        obtain ⟨b0,A3,c11,e0,k0,k2,hl117_1,hi117_1⟩:=at_T122 HR0.1 x0 p0 q0
        have h0:=k2
        have h2:=k0
        cases e0
        replace k0:=(HB.1.cell (z9 w _ k0)).trans k0
        replace k2:=(HB.1.cell (z9 w _ k2)).trans k2
        have R0:=zz hi117_1
        have C0:=zz hl117_1
        clear hi117_1 hl117_1
        replace p0:=eq_true p0
        replace q0:=eq_true q0
        have p1:0≤(x0:Int):=z8 zq11
        have q1:x0<(l1.length:Int):=z8 zq11
        obtain ⟨b1,A4,c12,e1,k3,k4,hl118_1,hi118_1⟩:=at_T122 HR1.1 x0 p1 q1
        have h3:=k4
        have h4:=k3
        cases e1
        replace k3:=(HB.1.cell (z9 w _ k3)).trans k3
        replace k4:=(HB.1.cell (z9 w _ k4)).trans k4
        have R1:=zz hi118_1
        have C1:=zz hl118_1
        clear hi118_1 hl118_1
        replace p1:=eq_true p1
        replace q1:=eq_true q1
        refine zGa (n:=10) (S:=fun w'=>w'.cell? (b0.add ((x0).toNat*2))=some (.int .i64 ((zJ l0 x0).f0))∧w'.cell? ⟨(b0.add ((x0).toNat*2)).block,(b0.add ((x0).toNat*2)).off+1,none⟩=some (.slice A3 ((zJ l0 x0).f1).length c11)∧w'.cell? (b1.add ((x0).toNat*2))=some (.int .i64 ((zJ l1 x0).f0))∧w'.cell? ⟨(b1.add ((x0).toNat*2)).block,(b1.add ((x0).toNat*2)).off+1,none⟩=some (.slice A4 ((zJ l1 x0).f1).length c12)) (ds:=[]) #[false,false,false,false,false,false,false,false,false,false] zq8 rfl rfl ⟨((HB.1.cell (z9 w _ h2)).trans h2),((HB.1.cell (z9 w _ h0)).trans h0),((HB.1.cell (z9 w _ h4)).trans h4),((HB.1.cell (z9 w _ h3)).trans h3)⟩ (fun hHeld=> ?_);refine zW laws_eqFreeS.tab6 laws_eqFreeS.bits6 (fun HT_ HW_=> ?_)
        generalize wr.drew=w9 at HB R0 R1 k0 k2 k3 k4 hHeld ⊢
        refine zr (i:=0) (N:=some 17) (v:= ?_) (a':= ?_) #[true,false,false,false,false,false,false,false,false,false] rfl rfl (zk HT_.1 zq8) (fun _ _ _ h=>h) (Or.inl ⟨zq19,zq5⟩) zq1 ?_
        refine zr (i:=1) (N:=some 18) (v:= ?_) (a':= ?_) #[true,true,false,false,false,false,false,false,false,false] rfl rfl (zk HT_.1 zq8) (fun _ _ _ h=>h) (Or.inl ⟨zq19,zq5⟩) zq1 ?_
        refine zr (i:=2) (N:=some 19) (v:= ?_) (a':= ?_) #[true,true,true,false,false,false,false,false,false,false] rfl rfl (zk HT_.1 zq8) (fun _ _ _ h=>h) (Or.inl ⟨zq19,zq5⟩) zq1 ?_
        refine zr (i:=4) (N:=some 21) (v:= ?_) (a':= ?_) #[true,true,true,false,true,false,false,false,false,false] rfl rfl (zk HT_.1 zq8) (fun _ _ _ h=>h) (Or.inl ⟨zq19,zq5⟩) zq1 ?_
        refine zr (i:=5) (N:=some 22) (v:= ?_) (a':= ?_) #[true,true,true,false,true,true,false,false,false,false] rfl rfl (zk HT_.1 zq8) (fun _ _ _ h=>h) (Or.inl ⟨zq19,zq5⟩) zq1 ?_
        refine zr (i:=6) (N:=some 23) (v:= ?_) (a':= ?_) #[true,true,true,false,true,true,true,false,false,false] rfl rfl (zk HT_.1 zq8) (fun _ _ _ h=>h) (Or.inl ⟨zq19,zq5⟩) zq1 ?_
        refine take_ (i:=3) (N:=some 20) (v:= ?_) (a':= ?_) #[true,true,true,true,true,true,true,false,false,false] rfl rfl (zFa HT_.1 HW_.1 zq8) (fun _ _ _ h=>h) (Or.inl ⟨zq19,zq35⟩) hHeld zq1 ?_
        refine take_ (i:=7) (N:=some 24) (v:= ?_) (a':= ?_) #[true,true,true,true,true,true,true,true,false,false] rfl rfl (zFa HT_.1 HW_.1 zq8) (fun _ _ _ h=>h) (Or.inl ⟨zq19,zq35⟩) hHeld zq1 ?_
        refine one_ (i:=8) (N:=some 25) #[true,true,true,true,true,true,true,true,true,false] rfl rfl (zpa HT_.1 zq8) zq32 (fun K hK=> ?_)
        refine zjb Try.func146 zq8 rfl #[.agg #[.int .i64 ((zJ l0 x0).f0),.slice A3 ((zJ l0 x0).f1).length c11],.agg #[.int .i64 ((zJ l1 x0).f0),.slice A4 ((zJ l1 x0).f1).length c12]] zq19 rfl rfl zq6 ?_
        with_reducible refine (laws_eqFree.calls k1 ((zJ l0 x0).f0) _ _ ((zJ l0 x0).f1) ((zJ l1 x0).f0) _ _ ((zJ l1 x0).f1) true _ ?side1 ?side2 ?side3 ?side4 A7.1).mono ?_
        (case side1=>repeat (first|exact (Kd.C_below R0.1 HB.1)|(with_reducible refine Kd.C_alloc ?_ _)|(with_reducible refine Kd.C_drewN ?_ _)|(with_reducible refine Kd.C_drew ?_)))
        (case side2=>exact C0.1)
        (case side3=>repeat (first|exact (Kd.C_below R1.1 HB.1)|(with_reducible refine Kd.C_alloc ?_ _)|(with_reducible refine Kd.C_drewN ?_ _)|(with_reducible refine Kd.C_drew ?_)))
        (case side4=>exact C1.1)
        rintro e w10 ⟨rfl,hb⟩
        exact zq126
       ·replace c8:=Bool.eq_false_iff.mpr c8
        subst c8
        exact zq112
      ·exact zq145
     ·exact zq105
    ·exact zq114
 ·exact zq131
def laws_eqMeta.f (k:Nat) (a0_0:Int) (a0_1:Int) (a0_2:Int) (l0_3:List (S122)) (a1_0:Int) (a1_1:Int) (a1_2:Int) (l1_3:List (S122)):Option (Bool):=if a0_0=a1_0 then (if a0_1=a1_1 then (if a0_2=a1_2 then ((laws_eqFreeS.f k l0_3 l1_3).bind fun t122=>(if t122=true then (some true) else (none))) else (none)) else (none)) else (none)
theorem laws_eqMeta.calls (k:Nat) (a0:Int) (a1:Int) (a2:Int) (A0:Option Addr) (c0:Nat) (l2:List (S122)) (a3:Int) (a4:Int) (a5:Int) (A1:Option Addr) (c1:Nat) (l3:List (S122)) (r:Bool) (w:World) (r0:Kd.C k122 w A0 l2.length l2) (h0:l2.length≤c0) (r1:Kd.C k122 w A1 l3.length l3) (h2:l3.length≤c1) (h:laws_eqMeta.f k a0 a1 a2 l2 a3 a4 a5 l3=some r):
  Calls Try.prog 41 #[.agg #[.int .i64 a0,.int .i64 a1,.int .i64 a2,.slice A0 l2.length c0],.agg #[.int .i64 a3,.int .i64 a4,.int .i64 a5,.slice A1 l3.length c1]] w fun e w'=>e= .returned (.bool r)∧Below w.heap.size w w':=by
 have hu53:=Try.underlying53
 have R0:=zz r0
 have C0:=zz h0
 clear r0 h0
 have R1:=zz r1
 have C1:=zz h2
 clear r1 h2
 have HB:=zz (z0a w.heap.size w)
 have H:(if a0=a3 then (if a1=a4 then (if a2=a5 then ((laws_eqFreeS.f k l2 l3).bind fun t0=>(if t0=true then (some true) else (none))) else (none)) else (none)) else (none))=some r:=h
 clear h
 by_cases c3:a0=a3
 ·rw [if_pos c3] at H
  have c3b0:(a0==a3)=true:=beq_iff_eq.mpr c3
  have c3b1:(a0 !=a3)=false:=bne_eq_false_iff_eq.mpr c3
  clear c3
  by_cases c4:a1=a4
  ·rw [if_pos c4] at H
   have c4b0:(a1==a4)=true:=beq_iff_eq.mpr c4
   have c4b1:(a1 !=a4)=false:=bne_eq_false_iff_eq.mpr c4
   clear c4
   by_cases c5:a2=a5
   ·rw [if_pos c5] at H
    have c5b0:(a2==a5)=true:=beq_iff_eq.mpr c5
    have c5b1:(a2 !=a5)=false:=bne_eq_false_iff_eq.mpr c5
    clear c5
    replace H:=z1a H
    obtain ⟨t0,A2,H⟩:=H
    replace H:(if t0=true then (some true) else (none))=some r:=H
    have A6:=zz A2
    clear A2
    by_cases c7:t0=true
    ·subst c7
     rw [if_pos rfl] at H
     obtain rfl:=z5a H
     go_enter Try.func41,Try.ntmps41
     go_wp2_with (first|((with_reducible refine zg (N:=2) rfl ?_);refine zA rfl (N:=2) rfl (cs:= #[.int .i64 a0,.int .i64 a1,.int .i64 a2,.slice A0 l2.length c0]) (t:=53) zq26 ?_;intro g0 hg w8 hbox hb;have B0:=zz hbox;have G0:=zz (zq12:w.heap.size≤g0);replace HB:=zz (zf zq0 hb);clear hb hbox hg)|((with_reducible refine zg (N:=3) rfl ?_);refine zA rfl (N:=3) rfl (cs:= #[.int .i64 a3,.int .i64 a4,.int .i64 a5,.slice A1 l3.length c1]) (t:=53) zq26 ?_;intro g1 hg w9 hbox hb;have B4:=zz hbox;have G1:=zz (zq24 G0.1:w.heap.size≤g1);have N0:=zz (by rw [hg];exact Nat.ne_of_lt (zE (g:=g0) (o:= .cells #[.int .i64 a0,.int .i64 a1,.int .i64 a2,.slice A0 l2.length c0] 53 (0,0)) (zq7 B0.1)):g0≠g1);have N1:=zz (by rw [hg];exact Nat.ne_of_gt (zE (g:=g0) (o:= .cells #[.int .i64 a0,.int .i64 a1,.int .i64 a2,.slice A0 l2.length c0] 53 (0,0)) (zq7 B0.1)):g1≠g0);replace B0:=zz (zj (g:=g0) (o:= .cells #[.int .i64 a0,.int .i64 a1,.int .i64 a2,.slice A0 l2.length c0] 53 (0,0)) (zq7 B0.1) hb);replace HB:=zz (zf (zq4 G0.1) hb);clear hb hbox hg;have hnb10:=N0.1;have hnc10:=N1.1;obtain ⟨_,_,_,_,_,_,_,_⟩:=zcell4 B0.1;obtain ⟨_,_,_,_,_,_,_,_⟩:=zcell4 B4.1)|((with_reducible refine zn (f:=100) rfl ?_);refine zQ (some 24) rfl rfl Try.func100 zq8 rfl #[.slice A0 l2.length c0,.slice A1 l3.length c1] rfl zq6 ?_;(with_reducible refine (laws_eqFreeS.calls k _ _ l2 _ _ l3 true _ ?side1 ?side2 ?side3 ?side4 A6.1).mono ?_);(case side1=>repeat (first|exact (Kd.C_below R0.1 HB.1)|(with_reducible refine Kd.C_alloc ?_ _)|(with_reducible refine Kd.C_drewN ?_ _)|(with_reducible refine Kd.C_drew ?_)));(case side2=>exact C0.1);(case side3=>repeat (first|exact (Kd.C_below R1.1 HB.1)|(with_reducible refine Kd.C_alloc ?_ _)|(with_reducible refine Kd.C_drewN ?_ _)|(with_reducible refine Kd.C_drew ?_)));(case side4=>exact C1.1);rintro e w13 ⟨rfl,hb⟩;refine ⟨_,rfl,?_⟩;replace B0:=zz (zj (g:=g0) (o:= .cells #[.int .i64 a0,.int .i64 a1,.int .i64 a2,.slice A0 l2.length c0] 53 (0,0)) (zq7 B0.1) hb);replace B4:=zz (zj (g:=g1) (o:= .cells #[.int .i64 a3,.int .i64 a4,.int .i64 a5,.slice A1 l3.length c1] 53 (0,0)) (zq7 B4.1) hb);replace HB:=zz (zf (zq13 G0.1 G1.1) hb);(try clear hb);(try clear hb2);(try clear hk);(try clear hi)))
     exact zq162
    ·replace c7:=Bool.eq_false_iff.mpr c7
     subst c7
     exact zq112
   ·exact zq105
  ·exact zq110
 ·exact zq131
def laws_eqReader.f (k:Nat) (a0_0:Int) (a0_1:Int) (a0_2:Int) (a0_3:Int) (l0_4:List (S122)) (a1_0:Int) (a1_1:Int) (a1_2:Int) (a1_3:Int) (l1_4:List (S122)):Option (Bool):=if a0_0=a1_0 then ((laws_eqMeta.f k a0_1 a0_2 a0_3 l0_4 a1_1 a1_2 a1_3 l1_4).bind fun t135=>(if t135=true then (some true) else (none))) else (none)
theorem laws_eqReader.calls (k:Nat) (a0:Int) (a1:Int) (a2:Int) (a3:Int) (A0:Option Addr) (c0:Nat) (l2:List (S122)) (a4:Int) (a5:Int) (a6:Int) (a7:Int) (A1:Option Addr) (c1:Nat) (l3:List (S122)) (r:Bool) (w:World) (r0:Kd.C k122 w A0 l2.length l2) (h0:l2.length≤c0) (r1:Kd.C k122 w A1 l3.length l3) (h2:l3.length≤c1) (h:laws_eqReader.f k a0 a1 a2 a3 l2 a4 a5 a6 a7 l3=some r):
  Calls Try.prog 128 #[.agg #[.int .i64 a0,.int .i64 a1,.int .i64 a2,.int .i64 a3,.slice A0 l2.length c0],.agg #[.int .i64 a4,.int .i64 a5,.int .i64 a6,.int .i64 a7,.slice A1 l3.length c1]] w fun e w'=>e= .returned (.bool r)∧Below w.heap.size w w':=by
 have hu118:=Try.underlying118
 have hu53:=Try.underlying53
 have R0:=zz r0
 have C0:=zz h0
 clear r0 h0
 have R1:=zz r1
 have C1:=zz h2
 clear r1 h2
 have HB:=zz (z0a w.heap.size w)
 have H:(if a0=a4 then ((laws_eqMeta.f k a1 a2 a3 l2 a5 a6 a7 l3).bind fun t0=>(if t0=true then (some true) else (none))) else (none))=some r:=h
 clear h
 by_cases c3:a0=a4
 ·rw [if_pos c3] at H
  have c3b0:(a0==a4)=true:=beq_iff_eq.mpr c3
  have c3b1:(a0 !=a4)=false:=bne_eq_false_iff_eq.mpr c3
  clear c3
  replace H:=z1a H
  obtain ⟨t0,A2,H⟩:=H
  replace H:(if t0=true then (some true) else (none))=some r:=H
  have A4:=zz A2
  clear A2
  by_cases c5:t0=true
  ·subst c5
   rw [if_pos rfl] at H
   obtain rfl:=z5a H
   go_enter Try.func128,Try.ntmps128
   go_wp2_with (first|((with_reducible refine zg (N:=2) rfl ?_);refine zA rfl (N:=2) rfl (cs:= #[.int .i64 a0,.int .i64 a1,.int .i64 a2,.int .i64 a3,.slice A0 l2.length c0]) (t:=118) zq26 ?_;intro g0 hg w6 hbox hb;have B0:=zz hbox;have G0:=zz (zq12:w.heap.size≤g0);replace HB:=zz (zf zq0 hb);clear hb hbox hg)|((with_reducible refine zg (N:=3) rfl ?_);refine zA rfl (N:=3) rfl (cs:= #[.int .i64 a4,.int .i64 a5,.int .i64 a6,.int .i64 a7,.slice A1 l3.length c1]) (t:=118) zq26 ?_;intro g1 hg w7 hbox hb;have B4:=zz hbox;have G1:=zz (zq24 G0.1:w.heap.size≤g1);have N0:=zz (by rw [hg];exact Nat.ne_of_lt (zE (g:=g0) (o:= .cells #[.int .i64 a0,.int .i64 a1,.int .i64 a2,.int .i64 a3,.slice A0 l2.length c0] 118 (0,0)) (zq7 B0.1)):g0≠g1);have N1:=zz (by rw [hg];exact Nat.ne_of_gt (zE (g:=g0) (o:= .cells #[.int .i64 a0,.int .i64 a1,.int .i64 a2,.int .i64 a3,.slice A0 l2.length c0] 118 (0,0)) (zq7 B0.1)):g1≠g0);replace B0:=zz (zj (g:=g0) (o:= .cells #[.int .i64 a0,.int .i64 a1,.int .i64 a2,.int .i64 a3,.slice A0 l2.length c0] 118 (0,0)) (zq7 B0.1) hb);replace HB:=zz (zf (zq4 G0.1) hb);clear hb hbox hg;have hnb8:=N0.1;have hnc8:=N1.1;obtain ⟨_,_,_,_,_,_,_,_,_,_⟩:=zcell5 B0.1;obtain ⟨_,_,_,_,_,_,_,_,_,_⟩:=zcell5 B4.1)|((with_reducible refine zn (f:=41) rfl ?_);refine zQ (some 14) rfl rfl Try.func41 zq8 rfl #[.agg #[.int .i64 a1,.int .i64 a2,.int .i64 a3,.slice A0 l2.length c0],.agg #[.int .i64 a5,.int .i64 a6,.int .i64 a7,.slice A1 l3.length c1]] rfl zq6 ?_;(with_reducible refine (laws_eqMeta.calls k a1 a2 a3 _ _ l2 a5 a6 a7 _ _ l3 true _ ?side1 ?side2 ?side3 ?side4 A4.1).mono ?_);(case side1=>repeat (first|exact (Kd.C_below R0.1 HB.1)|(with_reducible refine Kd.C_alloc ?_ _)|(with_reducible refine Kd.C_drewN ?_ _)|(with_reducible refine Kd.C_drew ?_)));(case side2=>exact C0.1);(case side3=>repeat (first|exact (Kd.C_below R1.1 HB.1)|(with_reducible refine Kd.C_alloc ?_ _)|(with_reducible refine Kd.C_drewN ?_ _)|(with_reducible refine Kd.C_drew ?_)));(case side4=>exact C1.1);rintro e w11 ⟨rfl,hb⟩;refine ⟨_,rfl,?_⟩;replace B0:=zz (zj (g:=g0) (o:= .cells #[.int .i64 a0,.int .i64 a1,.int .i64 a2,.int .i64 a3,.slice A0 l2.length c0] 118 (0,0)) (zq7 B0.1) hb);replace B4:=zz (zj (g:=g1) (o:= .cells #[.int .i64 a4,.int .i64 a5,.int .i64 a6,.int .i64 a7,.slice A1 l3.length c1] 118 (0,0)) (zq7 B4.1) hb);replace HB:=zz (zf (zq13 G0.1 G1.1) hb);(try clear hb);(try clear hb2);(try clear hk);(try clear hi)))
   exact zq162
  ·replace c5:=Bool.eq_false_iff.mpr c5
   subst c5
   exact zq112
 ·exact zq131
def laws_eqReaderS.l0:Nat→List (S118)→List (S118)→Int→Option (Bool)
 |0,_,_,_=>none
 |k+1,x0,x1,x5=>if x5<(x0.length:Int) then (if 0≤x5 then (if x5<(x1.length:Int) then ((laws_eqReader.f k ((zu x0 x5).f0) ((zu x0 x5).f1.f0) ((zu x0 x5).f1.f1) ((zu x0 x5).f1.f2) ((zu x0 x5).f1.f3) ((zu x1 x5).f0) ((zu x1 x5).f1.f0) ((zu x1 x5).f1.f1) ((zu x1 x5).f1.f2) ((zu x1 x5).f1.f3)).bind fun t138=>(if t138=true then (laws_eqReaderS.l0 k x0 x1 (wrap64 (x5+1))) else (none))) else (none)) else (none)) else (some true)
def laws_eqReaderS.f (k:Nat) (l0:List (S118)) (l1:List (S118)):Option (Bool):=if (l0.length:Int)=(l1.length:Int) then (laws_eqReaderS.l0 k l0 l1 0) else (none)
def laws_eqReaderS.T6:Bool×List (List Nat×List Nat):=(true,[([],[]),([],[]),([0,1],[0,1]),([2],[2]),([],[]),([],[]),([4,5],[4,5]),([6],[6]),([3,7],[3,7]),([8],[8])])
def laws_eqReaderS.B6:List Nat:=[0,0,3,7,0,0,48,112,255,511]
theorem laws_eqReaderS.tab6:rtab .any (zgb Try.f70 6)=laws_eqReaderS.T6:=zq8
theorem laws_eqReaderS.bits6:zqa laws_eqReaderS.T6.2 laws_eqReaderS.B6=true:=zq8
theorem laws_eqReaderS.calls (k:Nat) (A0:Option Addr) (c0:Nat) (l0:List (S118)) (A1:Option Addr) (c1:Nat) (l1:List (S118)) (r:Bool) (w:World) (hr0:Kd.C k118 w A0 l0.length l0) (hc0:l0.length≤c0) (hr1:Kd.C k118 w A1 l1.length l1) (hc1:l1.length≤c1) (h:laws_eqReaderS.f k l0 l1=some r):
  Calls Try.prog 70 #[.slice A0 l0.length c0,.slice A1 l1.length c1] w fun e w'=>e= .returned (.bool r)∧Below w.heap.size w w':=by
 have hu118:=Try.underlying118
 have HR0:=zz hr0
 clear hr0 hc0
 have HR1:=zz hr1
 clear hr1 hc1
 have HB:=zz (z0a w.heap.size w)
 have H:(if (l0.length:Int)=(l1.length:Int) then (laws_eqReaderS.l0 k l0 l1 0) else (none))=some r:=h
 clear h
 by_cases c3:(l0.length:Int)=(l1.length:Int)
 ·rw [if_pos c3] at H
  have c3b0:((l0.length:Int)==(l1.length:Int))=true:=beq_iff_eq.mpr c3
  have c3b1:((l0.length:Int) !=(l1.length:Int))=false:=bne_eq_false_iff_eq.mpr c3
  have c3b2:(l0.length==l1.length)=true:=zq71
  clear c3
  have H':=zz H
  clear H
  go_enter Try.func70,Try.ntmps70
  go_wp2
  go_loopg [5] k (fun kq v5 w'=>∃(x0:Int),v5= .int .i64 x0∧Z0 (laws_eqReaderS.l0 kq l0 l1 x0=some r)∧Z0 (kq≤k)∧Z0 (Below w.heap.size w w'))
  case atStart=>exact ⟨(0),zq10,H',⟨z2a _⟩,⟨zq0⟩⟩
  case round=>
   clear H'
   try clear c1
   try clear c3
   try clear c3b0
   try clear c3b1
   try clear c3b2
   obtain ⟨x0,rfl,HA,HK1,HB⟩:=hrel
   cases gk with
   |zero=>exact absurd HA.1 (by simp [laws_eqReaderS.l0])
   |succ k1=>
    have H:=HA.1
    clear HA
    simp only [laws_eqReaderS.l0] at H
    by_cases c4:x0<(l0.length:Int)
    ·rw [if_pos c4] at H
     have c4b0:=z6 c4
     clear c4
     by_cases c5:0≤x0
     ·rw [if_pos c5] at H
      have c5b0:=z6 c5
      clear c5
      by_cases c6:x0<(l1.length:Int)
      ·rw [if_pos c6] at H
       have c6b0:=z6 c6
       clear c6
       replace H:=z1a H
       obtain ⟨t0,A2,H⟩:=H
       replace H:(if t0=true then (laws_eqReaderS.l0 k1 l0 l1 (wrap64 (x0+1))) else (none))=some r:=H
       have A7:=zz A2
       clear A2
       by_cases c8:t0=true
       ·subst c8
        rw [if_pos rfl] at H
        have H':=zz H
        clear H
        try go_wp2
        have n0:=zz (zx HB.1)
        clear HB
        have HB:=n0
        clear n0
        have p0:0≤(x0:Int):=z8 zq11
        have q0:x0<(l0.length:Int):=z8 zq11
        obtain ⟨b0,A3,c11,e0,k0,k2,k3,k4,k5,hl136_4,hi136_4⟩:=at_T118 HR0.1 x0 p0 q0
        have h0:=k5
        have h2:=k4
        have h3:=k3
        have h4:=k2
        have h5:=k0
        cases e0
        replace k0:=(HB.1.cell (z9 w _ k0)).trans k0
        replace k2:=(HB.1.cell (z9 w _ k2)).trans k2
        replace k3:=(HB.1.cell (z9 w _ k3)).trans k3
        replace k4:=(HB.1.cell (z9 w _ k4)).trans k4
        replace k5:=(HB.1.cell (z9 w _ k5)).trans k5
        have R0:=zz hi136_4
        have C0:=zz hl136_4
        clear hi136_4 hl136_4
        replace p0:=eq_true p0
        replace q0:=eq_true q0
        have p1:0≤(x0:Int):=z8 zq11
        have q1:x0<(l1.length:Int):=z8 zq11
        obtain ⟨b1,A4,c12,e1,k6,k7,k8,k9,k10,hl137_4,hi137_4⟩:=at_T118 HR1.1 x0 p1 q1
        have h6:=k10
        have h7:=k9
        have h8:=k8
        have h9:=k7
        have h10:=k6
        cases e1
        replace k6:=(HB.1.cell (z9 w _ k6)).trans k6
        replace k7:=(HB.1.cell (z9 w _ k7)).trans k7
        replace k8:=(HB.1.cell (z9 w _ k8)).trans k8
        replace k9:=(HB.1.cell (z9 w _ k9)).trans k9
        replace k10:=(HB.1.cell (z9 w _ k10)).trans k10
        have R1:=zz hi137_4
        have C1:=zz hl137_4
        clear hi137_4 hl137_4
        replace p1:=eq_true p1
        replace q1:=eq_true q1
        refine zGa (n:=10) (S:=fun w'=>w'.cell? (b0.add ((x0).toNat*5))=some (.int .i64 ((zu l0 x0).f0))∧w'.cell? ⟨(b0.add ((x0).toNat*5)).block,(b0.add ((x0).toNat*5)).off+1,none⟩=some (.int .i64 ((zu l0 x0).f1.f0))∧w'.cell? ⟨(b0.add ((x0).toNat*5)).block,(b0.add ((x0).toNat*5)).off+2,none⟩=some (.int .i64 ((zu l0 x0).f1.f1))∧w'.cell? ⟨(b0.add ((x0).toNat*5)).block,(b0.add ((x0).toNat*5)).off+3,none⟩=some (.int .i64 ((zu l0 x0).f1.f2))∧w'.cell? ⟨(b0.add ((x0).toNat*5)).block,(b0.add ((x0).toNat*5)).off+4,none⟩=some (.slice A3 ((zu l0 x0).f1.f3).length c11)∧w'.cell? (b1.add ((x0).toNat*5))=some (.int .i64 ((zu l1 x0).f0))∧w'.cell? ⟨(b1.add ((x0).toNat*5)).block,(b1.add ((x0).toNat*5)).off+1,none⟩=some (.int .i64 ((zu l1 x0).f1.f0))∧w'.cell? ⟨(b1.add ((x0).toNat*5)).block,(b1.add ((x0).toNat*5)).off+2,none⟩=some (.int .i64 ((zu l1 x0).f1.f1))∧w'.cell? ⟨(b1.add ((x0).toNat*5)).block,(b1.add ((x0).toNat*5)).off+3,none⟩=some (.int .i64 ((zu l1 x0).f1.f2))∧w'.cell? ⟨(b1.add ((x0).toNat*5)).block,(b1.add ((x0).toNat*5)).off+4,none⟩=some (.slice A4 ((zu l1 x0).f1.f3).length c12)) (ds:=[]) #[false,false,false,false,false,false,false,false,false,false] zq8 rfl rfl ⟨((HB.1.cell (z9 w _ h5)).trans h5),((HB.1.cell (z9 w _ h4)).trans h4),((HB.1.cell (z9 w _ h3)).trans h3),((HB.1.cell (z9 w _ h2)).trans h2),((HB.1.cell (z9 w _ h0)).trans h0),((HB.1.cell (z9 w _ h10)).trans h10),((HB.1.cell (z9 w _ h9)).trans h9),((HB.1.cell (z9 w _ h8)).trans h8),((HB.1.cell (z9 w _ h7)).trans h7),((HB.1.cell (z9 w _ h6)).trans h6)⟩ (fun hHeld=> ?_);refine zW laws_eqReaderS.tab6 laws_eqReaderS.bits6 (fun HT_ HW_=> ?_)
        generalize wr.drew=w9 at HB R0 R1 k0 k2 k3 k4 k5 k6 k7 k8 k9 k10 hHeld ⊢
        refine zr (i:=0) (N:=some 17) (v:= ?_) (a':= ?_) #[true,false,false,false,false,false,false,false,false,false] rfl rfl (zk HT_.1 zq8) (fun _ _ _ h=>h) (Or.inl ⟨zq19,zq5⟩) zq1 ?_
        refine zr (i:=1) (N:=some 18) (v:= ?_) (a':= ?_) #[true,true,false,false,false,false,false,false,false,false] rfl rfl (zk HT_.1 zq8) (fun _ _ _ h=>h) (Or.inl ⟨zq19,zq5⟩) zq1 ?_
        refine zr (i:=2) (N:=some 19) (v:= ?_) (a':= ?_) #[true,true,true,false,false,false,false,false,false,false] rfl rfl (zk HT_.1 zq8) (fun _ _ _ h=>h) (Or.inl ⟨zq19,zq5⟩) zq1 ?_
        refine zr (i:=4) (N:=some 21) (v:= ?_) (a':= ?_) #[true,true,true,false,true,false,false,false,false,false] rfl rfl (zk HT_.1 zq8) (fun _ _ _ h=>h) (Or.inl ⟨zq19,zq5⟩) zq1 ?_
        refine zr (i:=5) (N:=some 22) (v:= ?_) (a':= ?_) #[true,true,true,false,true,true,false,false,false,false] rfl rfl (zk HT_.1 zq8) (fun _ _ _ h=>h) (Or.inl ⟨zq19,zq5⟩) zq1 ?_
        refine zr (i:=6) (N:=some 23) (v:= ?_) (a':= ?_) #[true,true,true,false,true,true,true,false,false,false] rfl rfl (zk HT_.1 zq8) (fun _ _ _ h=>h) (Or.inl ⟨zq19,zq5⟩) zq1 ?_
        refine take_ (i:=3) (N:=some 20) (v:= ?_) (a':= ?_) #[true,true,true,true,true,true,true,false,false,false] rfl rfl (zFa HT_.1 HW_.1 zq8) (fun _ _ _ h=>h) (Or.inl ⟨zq19,by rintro w' ⟨s0,s1,s2,s3,s4,s5,s6,s7,s8,s9⟩;go_simp;with_reducible rfl⟩) hHeld zq1 ?_
        refine take_ (i:=7) (N:=some 24) (v:= ?_) (a':= ?_) #[true,true,true,true,true,true,true,true,false,false] rfl rfl (zFa HT_.1 HW_.1 zq8) (fun _ _ _ h=>h) (Or.inl ⟨zq19,by rintro w' ⟨s0,s1,s2,s3,s4,s5,s6,s7,s8,s9⟩;go_simp;with_reducible rfl⟩) hHeld zq1 ?_
        refine one_ (i:=8) (N:=some 25) #[true,true,true,true,true,true,true,true,true,false] rfl rfl (zpa HT_.1 zq8) zq32 (fun K hK=> ?_)
        refine zjb Try.func128 zq8 rfl #[.agg #[.int .i64 ((zu l0 x0).f0),.int .i64 ((zu l0 x0).f1.f0),.int .i64 ((zu l0 x0).f1.f1),.int .i64 ((zu l0 x0).f1.f2),.slice A3 ((zu l0 x0).f1.f3).length c11],.agg #[.int .i64 ((zu l1 x0).f0),.int .i64 ((zu l1 x0).f1.f0),.int .i64 ((zu l1 x0).f1.f1),.int .i64 ((zu l1 x0).f1.f2),.slice A4 ((zu l1 x0).f1.f3).length c12]] zq19 rfl rfl zq6 ?_
        with_reducible refine (laws_eqReader.calls k1 ((zu l0 x0).f0) ((zu l0 x0).f1.f0) ((zu l0 x0).f1.f1) ((zu l0 x0).f1.f2) _ _ ((zu l0 x0).f1.f3) ((zu l1 x0).f0) ((zu l1 x0).f1.f0) ((zu l1 x0).f1.f1) ((zu l1 x0).f1.f2) _ _ ((zu l1 x0).f1.f3) true _ ?side1 ?side2 ?side3 ?side4 A7.1).mono ?_
        (case side1=>repeat (first|exact (Kd.C_below R0.1 HB.1)|(with_reducible refine Kd.C_alloc ?_ _)|(with_reducible refine Kd.C_drewN ?_ _)|(with_reducible refine Kd.C_drew ?_)))
        (case side2=>exact C0.1)
        (case side3=>repeat (first|exact (Kd.C_below R1.1 HB.1)|(with_reducible refine Kd.C_alloc ?_ _)|(with_reducible refine Kd.C_drewN ?_ _)|(with_reducible refine Kd.C_drew ?_)))
        (case side4=>exact C1.1)
        rintro e w10 ⟨rfl,hb⟩
        refine ⟨_,rfl,?_⟩
        have n0:=zz (zf zq0 hb)
        clear HB
        have HB:=n0
        clear n0
        (try clear hb)
        (try clear hb2)
        (try clear hk)
        (try clear hi)
        refine hK.out _ _ ⟨((HB.1.cell (z9 w _ h5)).trans h5),((HB.1.cell (z9 w _ h4)).trans h4),((HB.1.cell (z9 w _ h3)).trans h3),((HB.1.cell (z9 w _ h2)).trans h2),((HB.1.cell (z9 w _ h0)).trans h0),((HB.1.cell (z9 w _ h10)).trans h10),((HB.1.cell (z9 w _ h9)).trans h9),((HB.1.cell (z9 w _ h8)).trans h8),((HB.1.cell (z9 w _ h7)).trans h7),((HB.1.cell (z9 w _ h6)).trans h6)⟩ (fun hHeld=> ?_)
        clear hK K
        refine norm_ (a':= ?_) ?_ ?_
        rotate_left
        ·show Act.put _ (some 25) _=_
         exact zq86
        exact zq100
       ·replace c8:=Bool.eq_false_iff.mpr c8
        subst c8
        exact zq112
      ·exact zq145
     ·exact zq105
    ·exact zq114
 ·exact zq131
def laws_heldFreeS.l0:Nat→List (S122)→Int→Int→Option (Int)
 |0,_,_,_=>none
 |k+1,x0,x1,x5=>if x5<(x0.length:Int) then (if 0≤x5 then (if ((zJ x0 x5).f0)=x1 then ((laws_heldIntS.f k ((zJ x0 x5).f1) (wrap64 (x1+1))).bind fun t172=>(if t172<0 then (none) else (laws_heldFreeS.l0 k x0 t172 (wrap64 (x5+1))))) else (none)) else (none)) else (some x1)
def laws_heldFreeS.f (k:Nat) (l0:List (S122)) (a1:Int):Option (Int):=laws_heldFreeS.l0 k l0 a1 0
theorem laws_heldFreeS.calls (k:Nat) (A0:Option Addr) (c0:Nat) (l0:List (S122)) (a1:Int) (r:Int) (w:World) (hr0:Kd.C k122 w A0 l0.length l0) (hc0:l0.length≤c0) (h:laws_heldFreeS.f k l0 a1=some r):
  Calls Try.prog 102 #[.slice A0 l0.length c0,.int .i64 a1] w fun e w'=>e= .returned (.int .i64 r)∧Drawn0 w w':=by
 have HR0:=zz hr0
 clear hr0 hc0
 have H:(laws_heldFreeS.l0 k l0 a1 0)=some r:=h
 clear h
 have H':=zz H
 clear H
 go_enter Try.func102,Try.ntmps102
 go_wp2
 go_loopg [1,5] k (fun kq v1 v5 w'=>∃(x0:Int) (x1:Int),v1= .int .i64 x0∧v5= .int .i64 x1∧Z0 (laws_heldFreeS.l0 kq l0 x0 x1=some r)∧Z0 (kq≤k)∧Drawn0 w w')
 case atStart=>exact ⟨(a1),(0),zq10,zq10,H',⟨z2a _⟩,zq15⟩
 case round=>
  clear H'
  obtain ⟨x0,x1,rfl,rfl,HA,HK1,⟨m1,rfl⟩⟩:=hrel
  cases gk with
  |zero=>exact absurd HA.1 (by simp [laws_heldFreeS.l0])
  |succ k1=>
   have H:=HA.1
   clear HA
   simp only [laws_heldFreeS.l0] at H
   by_cases c3:x1<(l0.length:Int)
   ·rw [if_pos c3] at H
    have c3b0:=z6 c3
    clear c3
    by_cases c4:0≤x1
    ·rw [if_pos c4] at H
     have c4b0:=z6 c4
     clear c4
     by_cases c5:((zJ l0 x1).f0)=x0
     ·rw [if_pos c5] at H
      have c5b0:(((zJ l0 x1).f0)==x0)=true:=beq_iff_eq.mpr c5
      have c5b1:(((zJ l0 x1).f0) !=x0)=false:=bne_eq_false_iff_eq.mpr c5
      clear c5
      replace H:=z1a H
      obtain ⟨t0,A1,H⟩:=H
      replace H:(if t0<0 then (none) else (laws_heldFreeS.l0 k1 l0 t0 (wrap64 (x1+1))))=some r:=H
      have A6:=zz A1
      clear A1
      by_cases c7:t0<0
      ·rw [if_pos c7] at H
       exact absurd H zq29
      ·rw [if_neg c7] at H
       have c7b0:=z7 c7
       clear c7
       have H':=zz H
       clear H
       have p0:0≤(x1:Int):=z8 zq11
       have q0:x1<(l0.length:Int):=z8 zq11
       obtain ⟨b0,A2,c1,e0,hx170_0,k0,hl170_1,hi170_1⟩:=at_T122 HR0.1 x1 p0 q0
       cases e0
       clear hi170_1 hl170_1
       replace p0:=eq_true p0
       replace q0:=eq_true q0
       have p1:0≤(x1:Int):=z8 zq11
       have q1:x1<(l0.length:Int):=z8 zq11
       obtain ⟨b1,A171_1,c171_1,e1,hx171_0,k2,hl171_1,hi171_1⟩:=at_T122 HR0.1 x1 p1 q1
       obtain rfl:b0=b1:=(by injection e1)
       have R0:=zz hi171_1
       have C0:=zz hl171_1
       clear hi171_1 hl171_1
       replace p1:=eq_true p1
       replace q1:=eq_true q1
       have ea_:=z5a (k0.symm.trans k2)
       injection ea_ with ea_ en_ ec_
       subst ea_
       subst ec_
       clear en_
       go_wp2_with (first|((with_reducible refine zn (f:=53) rfl ?_);refine zQ (some 27) rfl rfl Try.func53 zq8 rfl #[.slice A2 ((zJ l0 x1).f1).length c1,.int .i64 (wrap64 (x0+1))] rfl zq6 ?_;(with_reducible refine (laws_heldIntS.calls k1 _ _ ((zJ l0 x1).f1) (wrap64 (x0+1)) t0 _ ?side1 ?side2 A6.1).mono ?_);(case side1=>repeat (first|exact R0.1|(with_reducible refine Kd.C_alloc ?_ _)|(with_reducible refine Kd.C_drewN ?_ _)|(with_reducible refine Kd.C_drew ?_)));(case side2=>exact C0.1);rintro e w' ⟨rfl,⟨nd,rfl⟩⟩;refine ⟨_,rfl,?_⟩))
       exact zq165
     ·exact zq105
    ·exact zq110
   ·exact zq103
def laws_heldMeta.f (k:Nat) (a0_0:Int) (a0_1:Int) (a0_2:Int) (l0_3:List (S122)) (a1:Int):Option (Int):=(laws_heldFreeS.f k l0_3 a1).bind fun t174=>(if t174<0 then (none) else (some t174))
theorem laws_heldMeta.calls (k:Nat) (a0:Int) (a2:Int) (a3:Int) (A0:Option Addr) (c0:Nat) (l2:List (S122)) (a1:Int) (r:Int) (w:World) (r0:Kd.C k122 w A0 l2.length l2) (h0:l2.length≤c0) (h:laws_heldMeta.f k a0 a2 a3 l2 a1=some r):
  Calls Try.prog 45 #[.agg #[.int .i64 a0,.int .i64 a2,.int .i64 a3,.slice A0 l2.length c0],.int .i64 a1] w fun e w'=>e= .returned (.int .i64 r)∧Below w.heap.size w w':=by
 have hu53:=Try.underlying53
 have R0:=zz r0
 have C0:=zz h0
 clear r0 h0
 have HB:=zz (z0a w.heap.size w)
 have H:((laws_heldFreeS.f k l2 a1).bind fun t0=>(if t0<0 then (none) else (some t0)))=some r:=h
 clear h
 replace H:=z1a H
 obtain ⟨t0,A1,H⟩:=H
 replace H:(if t0<0 then (none) else (some t0))=some r:=H
 have A3:=zz A1
 clear A1
 by_cases c4:t0<0
 ·rw [if_pos c4] at H
  exact absurd H zq29
 ·rw [if_neg c4] at H
  have c4b0:=z7 c4
  clear c4
  obtain rfl:=z5a H
  go_enter Try.func45,Try.ntmps45
  go_wp2_with (first|((with_reducible refine zg (N:=2) rfl ?_);refine zA rfl (N:=2) rfl (cs:= #[.int .i64 a0,.int .i64 a2,.int .i64 a3,.slice A0 l2.length c0]) (t:=53) zq26 ?_;intro g0 hg w5 hbox hb;have B0:=zz hbox;have G0:=zz (zq12:w.heap.size≤g0);replace HB:=zz (zf zq0 hb);clear hb hbox hg;obtain ⟨_,_,_,_,_,_,_,_⟩:=zcell4 B0.1)|((with_reducible refine zn (f:=102) rfl ?_);refine zQ (some 8) rfl rfl Try.func102 zq8 rfl #[.slice A0 l2.length c0,.int .i64 a1] rfl zq6 ?_;(with_reducible refine (laws_heldFreeS.calls k _ _ l2 a1 t0 _ ?side1 ?side2 A3.1).mono ?_);(case side1=>repeat (first|exact (Kd.C_below R0.1 HB.1)|(with_reducible refine Kd.C_alloc ?_ _)|(with_reducible refine Kd.C_drewN ?_ _)|(with_reducible refine Kd.C_drew ?_)));(case side2=>exact C0.1);rintro e w' ⟨rfl,⟨nd,rfl⟩⟩;refine ⟨_,rfl,?_⟩))
  exact zq115
theorem markIntS_Q (k:Nat) (P0_:Nat→Prop) (u0:Value) (l0:List Int) (a1:Int) (r1:Int) (r2:List Int) (w0 w:World) (hB:Below w0.heap.size w0 w) (ho0:Kd.Q (Kd.int .i64) 3 w w0.heap.size P0_ u0 l0) (h:laws_markIntS.f k l0 a1=some (r1,r2)):
  Calls Try.prog 51 #[u0,.int .i64 a1] w fun e w'=>e= .returned (.int .i64 r1)∧Kd.Q (Kd.int .i64) 3 w' w0.heap.size (fun k_=>(P0_ k_∨w.heap.size≤k_)) u0 r2∧Below w0.heap.size w0 w'∧Kept w w' (fun k_=>P0_ k_):=by
 have HO0:=zz (show Kd.Q (Kd.int .i64) 3 w w0.heap.size (fun k_=>(P0_ k_∨w.heap.size≤k_)) u0 l0 from Kd.Q_mono ho0 (fun k_ hk=>(.inl hk)))
 have HK:=zz (Kept.refl w (fun k_=>P0_ k_))
 have HB:=zz hB
 clear hB
 have H:(laws_markIntS.l0 k l0 a1 0)=some (r1,r2):=h
 clear h
 have H':=zz H
 clear H
 go_enter Try.func51,Try.ntmps51
 go_wp2
 go_loopg [1,5] k (fun kq v1 v5 w'=>∃(x0:List Int) (x1:Int) (x2:Int),v1= .int .i64 x1∧v5= .int .i64 x2∧Z0 (laws_markIntS.l0 kq x0 x1 x2=some (r1,r2))∧Z0 (kq≤k)∧Z0 (Kd.Q (Kd.int .i64) 3 w' w0.heap.size (fun k_=>(P0_ k_∨w.heap.size≤k_)) u0 x0)∧Z0 (Kept w w' (fun k_=>P0_ k_))∧Z0 (Below w0.heap.size w0 w'))
 case atStart=>exact ⟨(l0),(a1),(0),zq10,zq10,H',⟨z2a _⟩,⟨by (with_reducible repeat (first|apply Kd.Q_alloc|apply Kd.Q_drewN|apply Kd.Q_drew));exact HO0.1⟩,⟨zq17⟩,⟨zq0⟩⟩
 case round=>
  clear H'
  obtain ⟨x0,x1,x2,rfl,rfl,HA,HK1,O0,HK,HB⟩:=hrel
  cases gk with
  |zero=>exact absurd HA.1 (by simp [laws_markIntS.l0])
  |succ k1=>
   have H:=HA.1
   clear HA
   simp only [laws_markIntS.l0] at H
   by_cases c3:x2<(x0.length:Int)
   ·rw [if_pos c3] at H
    have c3b0:=z6 c3
    clear c3
    by_cases c4:0≤x2
    ·rw [if_pos c4] at H
     have c4b0:=z6 c4
     clear c4
     obtain ⟨y0,i0⟩:∃y_:List Int,y_=(x0.set (x2:Int).toNat x1):=⟨_,rfl⟩
     replace H:(laws_markIntS.l0 k1 y0 (wrap64 (x1+1)) (wrap64 (x2+1)))=some (r1,r2):=zq16
     have Y0:=zz i0
     clear i0
     have H':=zz H
     clear H
     obtain ⟨Ao6,co6,eo6,_⟩:=Kd.Q_slice O0.1
     subst eo6
     have p5:0≤(x2:Int):=z8 zq11
     have q5:(x2:Int)<((x0.length:Int):Int):=z8 zq11
     obtain ⟨go5,oo5,co5,eo5,gb5,gl5,cl5,HG5⟩:=Kd.Q_form O0.1 zq3
     (first|cases eo5|(injection eo5 with ea_ en_ ec_;(first|subst ea_|(injection ea_ with ea_;subst ea_));subst ec_;clear en_))
     have GB5:=zz gb5
     clear gb5 gl5 HG5
     obtain ⟨hx5_0,hf5_0⟩:=Kd.Q_cell 0 O0.1 (x2:Int) p5 q5
     have p5q:=p5
     have q5q:=q5
     replace p5:=eq_true p5
     replace q5:=eq_true q5
     have HP7:=Kd.Q_putg O0.1 (x2:Int) p5q q5q x1
     go_wp2_with (first|((with_reducible refine zI (t:=3) (p:=15) rfl ?_);refine zwa (t:=3) (p:=15) (v:= ?vo_w8) (w1:=(wr.setCell ⟨go5,oo5+(x2:Int).toNat,none⟩ (.int .i64 x1))) ?hg ?ho ?hn ?hr ?_;(case ho=>rfl);(case hg=>rfl);(case hn=>rfl);(case hr=>first|(go_simp;done)|(go_simp;rfl));intro w8 hw;have hg:wr.grownBy w8 (some go5):=(by rw [hw];exact HP7.2);have hp_:Kd.Q (Kd.int .i64) 3 w8 w0.heap.size (fun k_=>(P0_ k_∨w.heap.size≤k_)) (.slice (some ⟨go5,oo5,none⟩) x0.length co6) y0:=(by rw [hw,Y0.1];exact HP7.1);clear HP7;replace HB:=zz (zq72 GB5.1:Below w0.heap.size w0 w8);replace HK:=zz (Kept.of_grown (S:=(fun k_=>P0_ k_)) hg zq17 (fun k_ e_=>(O0.1.1 k_ e_)));replace O0:=zz hp_;clear hg hw hp_))
     go_roundg k1
     case measure=>have:=HK1.1;omega
     case rel=>exact ⟨(y0),(wrap64 (x1+1)),(wrap64 (x2+1)),zq10,zq10,H',⟨zq37 HK1.1⟩,⟨by (with_reducible repeat (first|apply Kd.Q_alloc|apply Kd.Q_drewN|apply Kd.Q_drew));exact O0.1⟩,⟨zq17⟩,⟨zq0⟩⟩
    ·exact zq110
   ·rw [if_neg c3] at H
    have c3b0:=z7 c3
    clear c3
    simp only [Option.some.injEq,Prod.mk.injEq] at H
    obtain ⟨rfl,rfl⟩:=H
    obtain ⟨Ao9,co9,eo9,_⟩:=Kd.Q_slice O0.1
    subst eo9
    go_wp2
    go_ret
    exact ⟨zq9,by (with_reducible repeat (first|apply Kd.Q_alloc|apply Kd.Q_drewN|apply Kd.Q_drew));exact O0.1,zq0,zq17⟩
def markF.l0:Nat→List S122→Int→Int→Option (Int×List S122)
 |0,_,_,_=>none
 |k+1,xs,a,i=>if i<(xs.length:Int) then (if 0≤i then (laws_markIntS.f k (zJ xs i).f1 (wrap64 (a+1))).bind fun b=>markF.l0 k (xs.set i.toNat (⟨a,b.2⟩:S122)) b.1 (wrap64 (i+1)) else none) else some (a,xs)
theorem markFreeS_o (k:Nat) (ok:Nat→Prop) (v:Value) (l0:List S122) (a r:Int) (r2:List S122) (w0 w:World) (hB:Below w0.heap.size w0 w) (hS:Kd.S k122 122 w w0.heap.size ok v l0) (h:markF.l0 k l0 a 0=some (r,r2)):
  Calls Try.prog 101 #[v,.int .i64 a] w fun e w'=>e= .returned (.int .i64 r)∧Kd.S k122 122 w' w0.heap.size ok v r2∧Below w0.heap.size w0 w'∧Kept w w' ok:=by
 obtain ⟨A,cc,rfl⟩:=Kd.S_slice hS
 have HO:=zz hS
 have HK:=zz (Kept.refl w ok)
 have HB:=zz hB
 have H':=zz h
 clear h hB hS
 go_enter Try.func101,Try.ntmps101
 go_wp2
 go_loopg [1,5] k (fun kq v1 v5 w'=>∃(xs:List S122) (x1:Int) (x5:Int),v1= .int .i64 x1∧v5= .int .i64 x5∧Z0 (markF.l0 kq xs x1 x5=some (r,r2))∧Z0 (kq≤k)∧Z0 (Kd.S k122 122 w' w0.heap.size ok (.slice A l0.length cc) xs)∧Z0 (Kept w w' ok)∧Z0 (Below w0.heap.size w0 w'))
 case atStart=>exact ⟨l0,a,0,rfl,rfl,H',⟨z2a _⟩,HO,HK,HB⟩
 case round=>
  clear H' HO HK HB
  obtain ⟨xs,x1,x5,rfl,rfl,HA,HK1,HO,HK,HB⟩:=hrel
  have hlen:=zz (Kd.S_reads' HO.1).1
  cases gk with
  |zero=>exact absurd HA.1 (by simp [markF.l0])
  |succ k1=>
   have H:=HA.1
   clear HA
   simp only [markF.l0,←hlen.out] at H
   by_cases c3:x5<(l0.length:Int)
   ·rw [if_pos c3] at H
    by_cases c4:0≤x5
    ·rw [if_pos c4] at H
     obtain ⟨⟨t,ys⟩,A0,H⟩:=z1a H
     have MA:=zz A0
     have H':=zz H
     clear A0 H
     have c3b:=z6 c3
     have c4b:=z6 c4
     have c3x:x5<(xs.length:Int):=by rw [←hlen.out];exact c3
     obtain ⟨g,cap,hv,gb,gl,cl,HG⟩:=Kd.S_form HO.1 zq3
     injection hv with hA hn hc;subst hA;subst hc;clear hn
     obtain ⟨oki,c,hcl,hM,hcc,hfr,hoki,hH⟩:=Kd.S_elem HO.1 z122 x5 c4 c3
     obtain ⟨el,hel⟩:∃el,el=xs.getD x5.toNat z122:=⟨_,rfl⟩
     rw [←hel] at hM
     have hel2:zJ xs x5=el:=hel.symm
     rw [hel2] at MA
     clear hel hel2
     obtain ⟨v1,rfl,R1⟩:=k122_openM hM
     obtain ⟨A1,c1,rfl⟩:=Kd.R_slice R1
     have hx0:=hcc 0 _ rfl
     have hx1:=hcc 1 _ rfl
     have hf0:=hfr 0
     have hf1:=hfr 1
     rw [show k122.sz=2 from rfl,Nat.add_zero] at hx0 hf0
     rw [show k122.sz=2 from rfl] at hx1 hf1
     have hP:=Kd.H_seg hH c4 c3 (seg:=[.int .i64 x1]) (j:=0) (show 0+1≤2 from by decide) (by intro q hq;rw [List.mem_singleton.1 hq];rfl)
     rw [show k122.sz=2 from rfl,Nat.add_zero] at hP
     have HH:=zz (show Kd.H k122 122 (wr.setCell ⟨g,x5.toNat*2,none⟩ (.int .i64 x1)) w0.heap.size ok (.slice (some ⟨g,0,none⟩) l0.length cc) xs x5 oki [.int .i64 x1,.slice A1 el.f1.length c1] from hP.1)
     have HGr:=zz (show wr.grownBy (wr.setCell ⟨g,x5.toNat*2,none⟩ (.int .i64 x1)) (some g) from hP.2)
     have hok:=HO.1.choose_spec.1 g rfl
     have OKI:=zz hoki
     have RI:=zz R1
     have GB:=zz gb
     have OG:=zz hok
     clear hcc hfr hoki hH hM R1 hcl hP HO c3x hok gb H
     go_wp2_with fail
     clear hx0 hx1 hf0 hf1
     obtain ⟨W1,hW1⟩:∃W,W=wr.setCell ⟨g,x5.toNat*2,none⟩ (.int .i64 x1):=⟨_,rfl⟩
     rw [←hW1] at HH HGr
     rw [←hW1]
     clear hW1
     have n0:=zz (Kept.of_grown HGr.1 HK.1 (fun k e=>by injection e with e;subst e;exact .inl OG.1))
     have n1:=zz (Below.grown HB.1 HGr.1 (Below.size HB.1) (fun k e=>by injection e with e;subst e;exact GB.1))
     have n2:=zz (Kd.R_grown RI.1 HGr.1 (fun k hk e=>by injection e with e;exact (OKI.1 k hk).2 e))
     clear HK HB RI HGr
     ((with_reducible refine (laws_markIntS.calls k1 oki _ el.f1 (wrap64 (x1+1)) t ys w0 _ n1.out n2.out MA.1).mono ?_);rintro e w2 ⟨rfl,hR,hB2,hK2⟩)
     have HB:=zz hB2
     have HK:=zz (Kept.then_ n0.out hK2 (fun k h=> .inl (OKI.1 k h).1))
     have RI:=zz (Own.R_tight2 rfl hR n2.out.1)
     have H2:=zz (Kd.H_step HH.1 (fun k h1 h2 h3=>hK2.2 k h3 h2))
     have HS:=zz (Kd.H_back H2.1 (x':=(⟨x1,ys⟩:S122)) (okp:=oki) (by
      have hl:=(Kd.R_reads' RI.1).1
      rw [hl]
      have h3:=RI.1
      rw [hl] at h3
      exact k122_mkM _ _ _ (⟨x1,ys⟩:S122) h3) (fun _ h=>h))
     exact zq154
    ·exact zq110
   ·exact zq153
def markR.l0:Nat→List S118→Int→Int→Option (Int×List S118)
 |0,_,_,_=>none
 |k+1,xs,x1,i=>if i<(xs.length:Int) then (if 0≤i then (markF.l0 k (zu xs i).f1.f3 (wrap64 (wrap64 (wrap64 (wrap64 (x1+1)+1)+1)+1)) 0).bind fun b=>markR.l0 k (xs.set i.toNat (⟨x1,(⟨(wrap64 (x1+1)),(wrap64 (wrap64 (x1+1)+1)),(wrap64 (wrap64 (wrap64 (x1+1)+1)+1)),b.2⟩:S53)⟩:S118)) b.1 (wrap64 (i+1)) else none) else some (x1,xs)
theorem markReaderS_o (k:Nat) (ok:Nat→Prop) (v:Value) (l0:List S118) (a r:Int) (r2:List S118) (w0 w:World) (hB:Below w0.heap.size w0 w) (hS:Kd.S k118 118 w w0.heap.size ok v l0) (h:markR.l0 k l0 a 0=some (r,r2)):
  Calls Try.prog 73 #[v,.int .i64 a] w fun e w'=>e= .returned (.int .i64 r)∧Kd.S k118 118 w' w0.heap.size ok v r2∧Below w0.heap.size w0 w'∧Kept w w' ok:=by
 obtain ⟨A,cc,rfl⟩:=Kd.S_slice hS
 have HO:=zz hS
 have HK:=zz (Kept.refl w ok)
 have HB:=zz hB
 have H':=zz h
 clear h hB hS
 go_enter Try.func73,Try.ntmps73
 go_wp2
 go_loopg [1,5] k (fun kq v1 v5 w'=>∃(xs:List S118) (x1:Int) (x5:Int),v1= .int .i64 x1∧v5= .int .i64 x5∧Z0 (markR.l0 kq xs x1 x5=some (r,r2))∧Z0 (kq≤k)∧Z0 (Kd.S k118 118 w' w0.heap.size ok (.slice A l0.length cc) xs)∧Z0 (Kept w w' ok)∧Z0 (Below w0.heap.size w0 w'))
 case atStart=>exact ⟨l0,a,0,rfl,rfl,H',⟨z2a _⟩,HO,HK,HB⟩
 case round=>
  clear H' HO HK HB
  obtain ⟨xs,x1,x5,rfl,rfl,HA,HK1,HO,HK,HB⟩:=hrel
  have hlen:=zz (Kd.S_reads' HO.1).1
  cases gk with
  |zero=>exact absurd HA.1 (by simp [markR.l0])
  |succ k1=>
   have H:=HA.1
   clear HA
   simp only [markR.l0,←hlen.out] at H
   by_cases c3:x5<(l0.length:Int)
   ·rw [if_pos c3] at H
    by_cases c4:0≤x5
    ·rw [if_pos c4] at H
     obtain ⟨⟨t,ys⟩,A0,H⟩:=z1a H
     have MA:=zz A0
     have H':=zz H
     clear A0 H
     have c3b:=z6 c3
     have c4b:=z6 c4
     have c3x:x5<(xs.length:Int):=by rw [←hlen.out];exact c3
     obtain ⟨g,cap,hv,gb,gl,cl,HG⟩:=Kd.S_form HO.1 zq3
     injection hv with hA hn hc;subst hA;subst hc;clear hn
     obtain ⟨oki,c,hcl,hM,hcc,hfr,hoki,hH⟩:=Kd.S_elem HO.1 z118 x5 c4 c3
     obtain ⟨el,hel⟩:∃el,el=xs.getD x5.toNat z118:=⟨_,rfl⟩
     rw [←hel] at hM
     have hel2:zu xs x5=el:=hel.symm
     rw [hel2] at MA
     clear hel hel2
     obtain ⟨v1,rfl,R1⟩:=k118_openM hM
     obtain ⟨A1,c1,rfl⟩:=Kd.S_slice R1
     have hx0:=hcc 0 _ rfl
     have hf0:=hfr 0
     have hx1:=hcc 1 _ rfl
     have hf1:=hfr 1
     have hx2:=hcc 2 _ rfl
     have hf2:=hfr 2
     have hx3:=hcc 3 _ rfl
     have hf3:=hfr 3
     have hx4:=hcc 4 _ rfl
     have hf4:=hfr 4
     rw [show k118.sz=5 from rfl,Nat.add_zero] at hx0 hf0
     rw [show k118.sz=5 from rfl] at hx1 hf1 hx2 hf2 hx3 hf3 hx4 hf4
     have hP:=Kd.H_seg hH c4 c3 (seg:=[.int .i64 x1,.int .i64 (wrap64 (x1+1)),.int .i64 (wrap64 (wrap64 (x1+1)+1)),.int .i64 (wrap64 (wrap64 (wrap64 (x1+1)+1)+1))]) (j:=0) (show 0+4≤5 from by decide) (by intro q hq;simp only [List.mem_cons,List.not_mem_nil,or_false] at hq;rcases hq with rfl|rfl|rfl|rfl<;>rfl)
     rw [show k118.sz=5 from rfl,Nat.add_zero] at hP
     have HH:=zz (show Kd.H k118 118 ((((wr.setCell ⟨g,x5.toNat*5,none⟩ (.int .i64 x1)).setCell ⟨g,x5.toNat*5+1,none⟩ (.int .i64 (wrap64 (x1+1)))).setCell ⟨g,x5.toNat*5+2,none⟩ (.int .i64 (wrap64 (wrap64 (x1+1)+1)))).setCell ⟨g,x5.toNat*5+3,none⟩ (.int .i64 (wrap64 (wrap64 (wrap64 (x1+1)+1)+1)))) w0.heap.size ok (.slice (some ⟨g,0,none⟩) l0.length cc) xs x5 oki [.int .i64 x1,.int .i64 (wrap64 (x1+1)),.int .i64 (wrap64 (wrap64 (x1+1)+1)),.int .i64 (wrap64 (wrap64 (wrap64 (x1+1)+1)+1)),.slice A1 el.f1.f3.length c1] from hP.1)
     have HGr:=zz (show wr.grownBy ((((wr.setCell ⟨g,x5.toNat*5,none⟩ (.int .i64 x1)).setCell ⟨g,x5.toNat*5+1,none⟩ (.int .i64 (wrap64 (x1+1)))).setCell ⟨g,x5.toNat*5+2,none⟩ (.int .i64 (wrap64 (wrap64 (x1+1)+1)))).setCell ⟨g,x5.toNat*5+3,none⟩ (.int .i64 (wrap64 (wrap64 (wrap64 (x1+1)+1)+1)))) (some g) from hP.2)
     have hok:=HO.1.choose_spec.1 g rfl
     have OKI:=zz hoki
     have RI:=zz R1
     have GB:=zz gb
     have OG:=zz hok
     clear hcc hfr hoki hH hM R1 hcl hP HO c3x hok gb H
     go_wp2_with fail
     clear hx0 hx1 hx2 hx3 hx4 hf0 hf1 hf2 hf3 hf4
     obtain ⟨W1,hW1⟩:∃W,W=((((wr.setCell ⟨g,x5.toNat*5,none⟩ (.int .i64 x1)).setCell ⟨g,x5.toNat*5+1,none⟩ (.int .i64 (wrap64 (x1+1)))).setCell ⟨g,x5.toNat*5+2,none⟩ (.int .i64 (wrap64 (wrap64 (x1+1)+1)))).setCell ⟨g,x5.toNat*5+3,none⟩ (.int .i64 (wrap64 (wrap64 (wrap64 (x1+1)+1)+1)))):=⟨_,rfl⟩
     rw [←hW1] at HH HGr
     rw [←hW1]
     clear hW1
     have n0:=zz (Kept.of_grown HGr.1 HK.1 (fun k e=>by injection e with e;subst e;exact .inl OG.1))
     have n1:=zz (Below.grown HB.1 HGr.1 (Below.size HB.1) (fun k e=>by injection e with e;subst e;exact GB.1))
     have n2:=zz (Kd.S_grown RI.1 HGr.1 (fun k hk e=>by injection e with e;exact (OKI.1 k hk).2 e))
     clear HK HB RI HGr
     ((with_reducible refine (markFreeS_o k1 oki _ el.f1.f3 (wrap64 (wrap64 (wrap64 (wrap64 (x1+1)+1)+1)+1)) t ys w0 _ n1.out n2.out MA.1).mono ?_);rintro e w2 ⟨rfl,hR,hB2,hK2⟩)
     have HB:=zz hB2
     have HK:=zz (Kept.then_ n0.out hK2 (fun k h=> .inl (OKI.1 k h).1))
     have RI:=zz hR
     have H2:=zz (Kd.H_step HH.1 (fun k h1 h2 h3=>hK2.2 k h3 h2))
     have HS:=zz (Kd.H_back H2.1 (x':=(⟨x1,(⟨(wrap64 (x1+1)),(wrap64 (wrap64 (x1+1)+1)),(wrap64 (wrap64 (wrap64 (x1+1)+1)+1)),ys⟩:S53)⟩:S118)) (okp:=oki) (by
      have hl:=(Kd.S_reads' RI.1).1
      rw [hl]
      have h3:=RI.1
      rw [hl] at h3
      exact k118_mkM _ _ _ (⟨x1,(⟨(wrap64 (x1+1)),(wrap64 (wrap64 (x1+1)+1)),(wrap64 (wrap64 (wrap64 (x1+1)+1)+1)),ys⟩:S53)⟩:S118) h3) (fun _ h=>h))
     exact zq154
    ·exact zq110
   ·exact zq153
def kDisk:Kd ((List ByteArray)×(List S135)):=Own.apair (Own.srow 9 Kd.string) (Own.srow 135 k135)
theorem zma {w:World} {l0:List ByteArray} {l1:List S135} {cs:List Value} (h:kDisk.K w (l0,l1) cs):∃A0 c0 A1 c1,cs=[.slice A0 l0.length c0,.slice A1 l1.length c1]∧l0.length≤c0∧Kd.C Kd.string w A0 l0.length l0∧l1.length≤c1∧Kd.C k135 w A1 l1.length l1:=by
 obtain ⟨y0,_,rfl,⟨A0,c0,rfl,m0,r0⟩,⟨A1,c1,rfl,m1,r1⟩⟩:=h
 exact ⟨A0,c0,A1,c1,rfl,m0,r0,m1,r1⟩
theorem kDisk_openM {w:World} {base:Nat} {ok:Nat→Prop} {l0:List ByteArray} {l1:List S135} {cs:List Value} (h:kDisk.M w base ok (l0,l1) cs):∃v0 v1,∃P0 P1:Nat→Prop,cs=[v0,v1]∧Kd.R Kd.string 9 w base P0 v0 l0∧Kd.R k135 135 w base P1 v1 l1∧(∀k,P0 k→ok k)∧(∀k,P1 k→ok k)∧(∀k,P0 k→¬P1 k):=by
 obtain ⟨c0,d0,P0,B0,rfl,h0,h,a0,b0,x0⟩:=Own.apair_open h
 have h1:=h
 obtain ⟨v0,e0,h0⟩:=h0
 subst e0
 obtain ⟨v1,e1,h1⟩:=h1
 subst e1
 exact ⟨v0,v1,P0,B0,rfl,Kd.S_R h0,Kd.S_R h1,fun k h2=>a0 k h2,fun k h2=>b0 k (h2),fun k h1 h2=>x0 k h1 (h2)⟩
theorem kDisk_mkM {w:World} {base:Nat} {ok:Nat→Prop} {l0:List ByteArray} {l1:List S135} {v0:Value} {P0:Nat→Prop} {v1:Value} {P1:Nat→Prop} (r0:Kd.R Kd.string 9 w base P0 v0 l0) (r1:Kd.R k135 135 w base P1 v1 l1) (o0:∀k,P0 k→ok k) (o1:∀k,P1 k→ok k) (x0:∀k,P0 k→¬P1 k):kDisk.M w base ok (l0,l1) [v0,v1]:=by
 have t1:=(show (Own.srow 135 k135).M w base P1 l1 [v1] from ((Own.srow 135 k135).M_mono (fun k hk=>(r1.1 k hk.symm)) (Own.srow_of_R rfl r1)))
 have t0:=Own.apair_mk (ok:=ok) (okA:=fun k=>P0 k) (okB:=fun k=>P1 k) (show (Own.srow 9 Kd.string).M w base P0 l0 [v0] from ((Own.srow 9 Kd.string).M_mono (fun k hk=>(r0.1 k hk.symm)) (Own.srow_of_R rfl r0))) t1 (fun k h=>o0 k h) (fun k h=>o1 k h) (fun k h1 h2=>x0 k h1 h2)
 exact t0
def kDiskL:Kd ((List ByteArray)×(List S140)):=Own.apair (Own.srow 9 Kd.string) (Own.srow 140 k140)
theorem kDiskL_open {w:World} {l0:List ByteArray} {l1:List S140} {cs:List Value} (h:kDiskL.K w (l0,l1) cs):∃A0 c0 A1 c1,cs=[.slice A0 l0.length c0,.slice A1 l1.length c1]∧l0.length≤c0∧Kd.C Kd.string w A0 l0.length l0∧l1.length≤c1∧Kd.C k140 w A1 l1.length l1:=by
 obtain ⟨y0,_,rfl,⟨A0,c0,rfl,m0,r0⟩,⟨A1,c1,rfl,m1,r1⟩⟩:=h
 exact ⟨A0,c0,A1,c1,rfl,m0,r0,m1,r1⟩
def kWork:Kd ((List ByteArray)×(List S135)×Int×(List Int)×(List Int)×(List Int)):=Own.apair (Own.srow 9 Kd.string) (Own.apair (Own.srow 135 k135) (Own.apair (Kd.int .i64) (Own.apair (Own.arow 3 (Kd.int .i64)) (Own.apair (Own.arow 3 (Kd.int .i64)) (Own.arow 3 (Kd.int .i64))))))
theorem kWork_openM {w:World} {base:Nat} {ok:Nat→Prop} {l0:List ByteArray} {l1:List S135} {l2:Int} {l3:List Int} {l4:List Int} {l5:List Int} {cs:List Value} (h:kWork.M w base ok (l0,l1,l2,l3,l4,l5) cs):∃v0 v1 v3 v4 v5,∃P0 P1 P3 P4 P5:Nat→Prop,cs=[v0,v1,.int .i64 l2,v3,v4,v5]∧Kd.R Kd.string 9 w base P0 v0 l0∧Kd.R k135 135 w base P1 v1 l1∧Kd.Q (Kd.int .i64) 3 w base P3 v3 l3∧Kd.Q (Kd.int .i64) 3 w base P4 v4 l4∧Kd.Q (Kd.int .i64) 3 w base P5 v5 l5∧(∀k,P0 k→ok k)∧(∀k,P1 k→ok k)∧(∀k,P3 k→ok k)∧(∀k,P4 k→ok k)∧(∀k,P5 k→ok k)∧(∀k,P0 k→¬P1 k)∧(∀k,P0 k→¬P3 k)∧(∀k,P0 k→¬P4 k)∧(∀k,P0 k→¬P5 k)∧(∀k,P1 k→¬P3 k)∧(∀k,P1 k→¬P4 k)∧(∀k,P1 k→¬P5 k)∧(∀k,P3 k→¬P4 k)∧(∀k,P3 k→¬P5 k)∧(∀k,P4 k→¬P5 k):=by
 obtain ⟨c0,d0,P0,B0,rfl,h0,h,a0,b0,x0⟩:=Own.apair_open h
 obtain ⟨c1,d1,P1,B1,rfl,h1,h,a1,b1,x1⟩:=Own.apair_open h
 obtain ⟨c2,d2,P2,B2,rfl,h2,h,a2,b2,x2⟩:=Own.apair_open h
 obtain ⟨c3,d3,P3,B3,rfl,h3,h,a3,b3,x3⟩:=Own.apair_open h
 obtain ⟨c4,d4,P4,B4,rfl,h4,h,a4,b4,x4⟩:=Own.apair_open h
 have h5:=h
 obtain ⟨v0,e0,h0⟩:=h0
 subst e0
 obtain ⟨v1,e1,h1⟩:=h1
 subst e1
 obtain rfl:c2=[.int .i64 l2]:=h2
 obtain ⟨v3,f3,e3,h3⟩:=h3
 subst e3
 obtain ⟨v4,f4,e4,h4⟩:=h4
 subst e4
 obtain ⟨v5,f5,e5,h5⟩:=h5
 subst e5
 exact ⟨v0,v1,v3,v4,v5,P0,P1,P3,P4,B4,rfl,Kd.S_R h0,Kd.S_R h1,Own.tagQ h3,Own.tagQ h4,Own.tagQ h5,fun k h2=>a0 k h2,fun k h2=>b0 k (a1 k h2),fun k h2=>b0 k (b1 k (b2 k (a3 k h2))),fun k h2=>b0 k (b1 k (b2 k (b3 k (a4 k h2)))),fun k h2=>b0 k (b1 k (b2 k (b3 k (b4 k (h2))))),fun k h1 h2=>x0 k h1 (a1 k h2),fun k h1 h2=>x0 k h1 (b1 k (b2 k (a3 k h2))),fun k h1 h2=>x0 k h1 (b1 k (b2 k (b3 k (a4 k h2)))),fun k h1 h2=>x0 k h1 (b1 k (b2 k (b3 k (b4 k (h2))))),fun k h1 h2=>x1 k h1 (b2 k (a3 k h2)),fun k h1 h2=>x1 k h1 (b2 k (b3 k (a4 k h2))),fun k h1 h2=>x1 k h1 (b2 k (b3 k (b4 k (h2)))),fun k h1 h2=>x3 k h1 (a4 k h2),fun k h1 h2=>x3 k h1 (b4 k (h2)),fun k h1 h2=>x4 k h1 (h2)⟩
theorem kWork_mkM {w:World} {base:Nat} {ok:Nat→Prop} {l0:List ByteArray} {l1:List S135} {l2:Int} {l3:List Int} {l4:List Int} {l5:List Int} {v0:Value} {P0:Nat→Prop} {v1:Value} {P1:Nat→Prop} {v3:Value} {P3:Nat→Prop} {v4:Value} {P4:Nat→Prop} {v5:Value} {P5:Nat→Prop} (r0:Kd.R Kd.string 9 w base P0 v0 l0) (r1:Kd.R k135 135 w base P1 v1 l1) (r3:Kd.Q (Kd.int .i64) 3 w base P3 v3 l3) (r4:Kd.Q (Kd.int .i64) 3 w base P4 v4 l4) (r5:Kd.Q (Kd.int .i64) 3 w base P5 v5 l5) (o0:∀k,P0 k→ok k) (o1:∀k,P1 k→ok k) (o3:∀k,P3 k→ok k) (o4:∀k,P4 k→ok k) (o5:∀k,P5 k→ok k) (x0:∀k,P0 k→¬P1 k) (x1:∀k,P0 k→¬P3 k) (x2:∀k,P0 k→¬P4 k) (x3:∀k,P0 k→¬P5 k) (x4:∀k,P1 k→¬P3 k) (x5:∀k,P1 k→¬P4 k) (x6:∀k,P1 k→¬P5 k) (x7:∀k,P3 k→¬P4 k) (x8:∀k,P3 k→¬P5 k) (x9:∀k,P4 k→¬P5 k):kWork.M w base ok (l0,l1,l2,l3,l4,l5) [v0,v1,.int .i64 l2,v3,v4,v5]:=by
 have t5:=(show (Own.arow 3 (Kd.int .i64)).M w base P5 l5 [v5] from Own.arow_of_Q rfl r5)
 have t4:=Own.apair_mk (ok:=fun k=>P4 k∨P5 k) (okA:=fun k=>P4 k) (okB:=fun k=>P5 k) (show (Own.arow 3 (Kd.int .i64)).M w base P4 l4 [v4] from Own.arow_of_Q rfl r4) t5 (fun k h=> .inl h) (fun k h=> .inr h) (fun k h1 h2=>x9 k h1 h2)
 have t3:=Own.apair_mk (ok:=fun k=>P3 k∨P4 k∨P5 k) (okA:=fun k=>P3 k) (okB:=fun k=>P4 k∨P5 k) (show (Own.arow 3 (Kd.int .i64)).M w base P3 l3 [v3] from Own.arow_of_Q rfl r3) t4 (fun k h=> .inl h) (fun k h=> .inr h) (fun k h1 h=>by
  rcases h with h|h
  ·exact x7 k h1 h
  ·exact x8 k h1 h)
 have t2:=Own.apair_mk (ok:=fun k=>P3 k∨P4 k∨P5 k) (okA:=fun _=>False) (okB:=fun k=>P3 k∨P4 k∨P5 k) (show (Kd.int .i64).M w base (fun _=>False) l2 [.int .i64 l2] from rfl) t3 (fun k h=>h.elim) (fun k h=>h) (fun k h1 _=>h1.elim)
 have t1:=Own.apair_mk (ok:=fun k=>P1 k∨P3 k∨P4 k∨P5 k) (okA:=fun k=>P1 k) (okB:=fun k=>P3 k∨P4 k∨P5 k) (show (Own.srow 135 k135).M w base P1 l1 [v1] from ((Own.srow 135 k135).M_mono (fun k hk=>(r1.1 k hk.symm)) (Own.srow_of_R rfl r1))) t2 (fun k h=> .inl h) (fun k h=> .inr h) (fun k h1 h=>by
  rcases h with h|h|h
  ·exact x4 k h1 h
  ·exact x5 k h1 h
  ·exact x6 k h1 h)
 have t0:=Own.apair_mk (ok:=ok) (okA:=fun k=>P0 k) (okB:=fun k=>P1 k∨P3 k∨P4 k∨P5 k) (show (Own.srow 9 Kd.string).M w base P0 l0 [v0] from ((Own.srow 9 Kd.string).M_mono (fun k hk=>(r0.1 k hk.symm)) (Own.srow_of_R rfl r0))) t1 (fun k h=>o0 k h) (fun k h=>by
  rcases h with h|h|h|h
  ·exact o1 k h
  ·exact o3 k h
  ·exact o4 k h
  ·exact o5 k h) (fun k h1 h=>by
  rcases h with h|h|h|h
  ·exact x0 k h1 h
  ·exact x1 k h1 h
  ·exact x2 k h1 h
  ·exact x3 k h1 h)
 exact t0
theorem markWork_o (k:Nat) (l0:List ByteArray) (l1:List S135) (l2:Int) (l3:List Int) (l4:List Int) (l5:List Int) (q0:List ByteArray) (q1:List S135) (q3:List Int) (q4:List Int) (q5:List Int) (a t1 t2 t3 r:Int) (ok:Nat→Prop) {cs:List Value} (w0 w:World) (hB:Below w0.heap.size w0 w) (hk:∀k,ok k→k<w.heap.size) (h:kWork.M w w0.heap.size ok (l0,l1,l2,l3,l4,l5) cs)
  (f1:laws_markDisk.f k l0 l1 a=some (t1,q0,q1)) (f2:laws_markIntS.f k l3 t1=some (t2,q3)) (f3:laws_markIntS.f k l4 t2=some (t3,q4)) (f4:laws_markIntS.f k l5 t3=some (r,q5)):
  Calls Try.prog 14 #[.agg cs.toArray,.int .i64 a] w fun e w'=>e= .returned (.int .i64 r)∧kWork.M w' w0.heap.size ok (q0,q1,l2,q3,q4,q5) cs∧Below w0.heap.size w0 w'∧Kept w w' ok:=by
 obtain ⟨v0,v1,v3,v4,v5,P0,P1,P3,P4,P5,rfl,R0,R1,R3,R4,R5,o0,o1,o3,o4,o5,x0,x1,x2,x3,x4,x5,x6,x7,x8,x9⟩:=kWork_openM h
 have bd0:∀k,P0 k→k<w.heap.size:=fun k h=>hk k (o0 k h)
 have bd1:∀k,P1 k→k<w.heap.size:=fun k h=>hk k (o1 k h)
 have bd3:∀k,P3 k→k<w.heap.size:=fun k h=>hk k (o3 k h)
 have bd4:∀k,P4 k→k<w.heap.size:=fun k h=>hk k (o4 k h)
 have bd5:∀k,P5 k→k<w.heap.size:=fun k h=>hk k (o5 k h)
 clear h
 obtain ⟨A0,c0,rfl⟩:=Kd.R_slice R0
 obtain ⟨A1,c1,rfl⟩:=Kd.R_slice R1
 obtain ⟨A3,c3,rfl,_⟩:=Kd.Q_slice R3
 obtain ⟨A4,c4,rfl,_⟩:=Kd.Q_slice R4
 obtain ⟨A5,c5,rfl,_⟩:=Kd.Q_slice R5
 have e0:=R0.1
 have e1:=R1.1
 have e3:=R3.1
 have e4:=R4.1
 have e5:=R5.1
 have K1:=zz f1
 have K2:=zz f2
 have K3:=zz f3
 have K4:=zz f4
 clear f1 f2 f3 f4
 replace R0:=zz (Kd.R_alloc R0 (.cells #[.slice A0 l0.length c0,.slice A1 l1.length c1,.int .i64 l2,.slice A3 l3.length c3,.slice A4 l4.length c4,.slice A5 l5.length c5] 34))
 replace R1:=zz (Kd.R_alloc R1 (.cells #[.slice A0 l0.length c0,.slice A1 l1.length c1,.int .i64 l2,.slice A3 l3.length c3,.slice A4 l4.length c4,.slice A5 l5.length c5] 34))
 replace R3:=zz (Kd.Q_alloc R3 (.cells #[.slice A0 l0.length c0,.slice A1 l1.length c1,.int .i64 l2,.slice A3 l3.length c3,.slice A4 l4.length c4,.slice A5 l5.length c5] 34))
 replace R4:=zz (Kd.Q_alloc R4 (.cells #[.slice A0 l0.length c0,.slice A1 l1.length c1,.int .i64 l2,.slice A3 l3.length c3,.slice A4 l4.length c4,.slice A5 l5.length c5] 34))
 replace R5:=zz (Kd.Q_alloc R5 (.cells #[.slice A0 l0.length c0,.slice A1 l1.length c1,.int .i64 l2,.slice A3 l3.length c3,.slice A4 l4.length c4,.slice A5 l5.length c5] 34))
 have HB:=zz (Own.below_more hB (.cells #[.slice A0 l0.length c0,.slice A1 l1.length c1,.int .i64 l2,.slice A3 l3.length c3,.slice A4 l4.length c4,.slice A5 l5.length c5] 34))
 have BX:=zz (zM w (.cells #[.slice A0 l0.length c0,.slice A1 l1.length c1,.int .i64 l2,.slice A3 l3.length c3,.slice A4 l4.length c4,.slice A5 l5.length c5] 34))
 have HK:=zz (Kept.alloc (Kept.refl w ok) (.cells #[.slice A0 l0.length c0,.slice A1 l1.length c1,.int .i64 l2,.slice A3 l3.length c3,.slice A4 l4.length c4,.slice A5 l5.length c5] 34))
 clear hB
 have O0:=zz o0
 have O1:=zz o1
 have O3:=zz o3
 have O4:=zz o4
 have O5:=zz o5
 have X01:=zz x0
 have X03:=zz x1
 have X04:=zz x2
 have X05:=zz x3
 have X13:=zz x4
 have X14:=zz x5
 have X15:=zz x6
 have X34:=zz x7
 have X35:=zz x8
 have X45:=zz x9
 clear o0 o1 o3 o4 o5 x0 x1 x2 x3 x4 x5 x6 x7 x8 x9
 have bx:∀k,P0 k∨P1 k∨P3 k∨P4 k∨P5 k→k<(w.alloc (.cells #[.slice A0 l0.length c0,.slice A1 l1.length c1,.int .i64 l2,.slice A3 l3.length c3,.slice A4 l4.length c4,.slice A5 l5.length c5] 34)).heap.size→True:=fun _ _ _=>trivial
 clear bx
 have nb0:¬P0 w.heap.size:=fun h=>Nat.lt_irrefl _ (bd0 _ h)
 have nb1:¬P1 w.heap.size:=fun h=>Nat.lt_irrefl _ (bd1 _ h)
 have nb3:¬P3 w.heap.size:=fun h=>Nat.lt_irrefl _ (bd3 _ h)
 have nb4:¬P4 w.heap.size:=fun h=>Nat.lt_irrefl _ (bd4 _ h)
 have nb5:¬P5 w.heap.size:=fun h=>Nat.lt_irrefl _ (bd5 _ h)
 go_enter Try.func14,Try.ntmps14
 have hx0:(w.alloc (.cells #[.slice A0 l0.length c0,.slice A1 l1.length c1,.int .i64 l2,.slice A3 l3.length c3,.slice A4 l4.length c4,.slice A5 l5.length c5] 34)).cell? ⟨w.heap.size,0,none⟩=some (.slice A0 l0.length c0):=(zd BX.1 0).trans rfl
 have hx1:(w.alloc (.cells #[.slice A0 l0.length c0,.slice A1 l1.length c1,.int .i64 l2,.slice A3 l3.length c3,.slice A4 l4.length c4,.slice A5 l5.length c5] 34)).cell? ⟨w.heap.size,1,none⟩=some (.slice A1 l1.length c1):=(zd BX.1 1).trans rfl
 go_wp2_with fail
 clear hx0 hx1
 ((with_reducible refine (laws_markDisk.calls k P0 _ l0 P1 _ l1 a t1 q0 q1 w0 _ HB.1 R0.1 R1.1 K1.1).mono ?_);rintro e w1 ⟨rfl,G0,G1,hB1,hK1⟩)
 clear HB R0 R1
 have HB:=zz hB1
 have hK2:=zz hK1
 have R0:=zz G0
 have R1:=zz G1
 replace R3:=zz (Kd.Q_kept R3.1 hK1 (fun k hk h=>h.elim (fun h=>X03.1 k h hk) (fun h=>X13.1 k h hk)))
 replace R4:=zz (Kd.Q_kept R4.1 hK1 (fun k hk h=>h.elim (fun h=>X04.1 k h hk) (fun h=>X14.1 k h hk)))
 replace R5:=zz (Kd.Q_kept R5.1 hK1 (fun k hk h=>h.elim (fun h=>X05.1 k h hk) (fun h=>X15.1 k h hk)))
 replace BX:=zz (zua BX.1 hK1 (fun h=>h.elim (fun h=>nb0 h) (fun h=>nb1 h)))
 replace HK:=zz (HK.1.then_ hK1 (fun k h=> .inl (h.elim (O0.1 k) (O1.1 k))))
 clear G0 G1 hB1 hK1 hK2
 have hx:w1.cell? ⟨w.heap.size,3,none⟩=some (.slice A3 l3.length c3):=(zd BX.1 3).trans rfl
 go_wp2_with fail
 clear hx
 ((with_reducible refine (markIntS_Q k P3 _ l3 t1 t2 q3 w0 _ HB.1 R3.1 K2.1).mono ?_);rintro e w2 ⟨rfl,G3,hB1,hK1⟩)
 clear HB R3
 have HB:=zz hB1
 have R3:=zz G3
 replace R0:=zz (Kd.R_kept (Kd.R_mono (Own.R_tight2 rfl R0.1 e0) (fun k hk=>hk)) hK1 (fun k hk=>fun h=>X03.1 k hk h))
 replace R1:=zz (Kd.R_kept (Kd.R_mono (Own.R_tight2 rfl R1.1 e1) (fun k hk=>hk)) hK1 (fun k hk=>fun h=>X13.1 k hk h))
 replace R4:=zz (Kd.Q_kept R4.1 hK1 (fun k hk=>fun h=>X34.1 k h hk))
 replace R5:=zz (Kd.Q_kept R5.1 hK1 (fun k hk=>fun h=>X35.1 k h hk))
 replace BX:=zz (zua BX.1 hK1 nb3)
 replace HK:=zz (HK.1.then_ hK1 (fun k h=> .inl (O3.1 k h)))
 clear G3 hB1 hK1
 have hx:w2.cell? ⟨w.heap.size,4,none⟩=some (.slice A4 l4.length c4):=(zd BX.1 4).trans rfl
 go_wp2_with fail
 clear hx
 ((with_reducible refine (markIntS_Q k P4 _ l4 t2 t3 q4 w0 _ HB.1 R4.1 K3.1).mono ?_);rintro e w3 ⟨rfl,G4,hB1,hK1⟩)
 clear HB R4
 have HB:=zz hB1
 have R4:=zz G4
 replace R0:=zz (Kd.R_kept (Kd.R_mono (Own.R_tight2 rfl R0.1 e0) (fun k hk=>hk)) hK1 (fun k hk=>fun h=>X04.1 k hk h))
 replace R1:=zz (Kd.R_kept (Kd.R_mono (Own.R_tight2 rfl R1.1 e1) (fun k hk=>hk)) hK1 (fun k hk=>fun h=>X14.1 k hk h))
 replace R3:=zz (Kd.Q_kept (Own.Q_tight2 rfl R3.1 e3) hK1 (fun k hk=>fun h=>X34.1 k hk h))
 replace R5:=zz (Kd.Q_kept R5.1 hK1 (fun k hk=>fun h=>X45.1 k h hk))
 replace BX:=zz (zua BX.1 hK1 nb4)
 replace HK:=zz (HK.1.then_ hK1 (fun k h=> .inl (O4.1 k h)))
 clear G4 hB1 hK1
 have hx:w3.cell? ⟨w.heap.size,5,none⟩=some (.slice A5 l5.length c5):=(zd BX.1 5).trans rfl
 go_wp2_with fail
 clear hx
 ((with_reducible refine (markIntS_Q k P5 _ l5 t3 r q5 w0 _ HB.1 R5.1 K4.1).mono ?_);rintro e w4 ⟨rfl,G5,hB1,hK1⟩)
 clear HB R5
 have HB:=zz hB1
 have R5:=zz G5
 replace R0:=zz (Kd.R_kept (Kd.R_mono (Own.R_tight2 rfl R0.1 e0) (fun k hk=>hk)) hK1 (fun k hk=>fun h=>X05.1 k hk h))
 replace R1:=zz (Kd.R_kept (Kd.R_mono (Own.R_tight2 rfl R1.1 e1) (fun k hk=>hk)) hK1 (fun k hk=>fun h=>X15.1 k hk h))
 replace R3:=zz (Kd.Q_kept (Own.Q_tight2 rfl R3.1 e3) hK1 (fun k hk=>fun h=>X35.1 k hk h))
 replace R4:=zz (Kd.Q_kept (Own.Q_tight2 rfl R4.1 e4) hK1 (fun k hk=>fun h=>X45.1 k hk h))
 replace BX:=zz (zua BX.1 hK1 nb5)
 replace HK:=zz (HK.1.then_ hK1 (fun k h=> .inl (O5.1 k h)))
 clear G5 hB1 hK1
 go_wp2
 go_ret
 refine ⟨rfl,?_,HB.1,HK.1⟩
 exact kWork_mkM (Own.R_tight2 rfl R0.1 e0) (Own.R_tight2 rfl R1.1 e1) (Own.Q_tight2 rfl R3.1 e3) (Own.Q_tight2 rfl R4.1 e4) (Own.Q_tight2 rfl R5.1 e5) O0.1 O1.1 O3.1 O4.1 O5.1 X01.1 X03.1 X04.1 X05.1 X13.1 X14.1 X15.1 X34.1 X35.1 X45.1
section
variable {W:World} {g t o:Nat} {cs pre mid post new:List Value}
theorem zob (h:W.heap[g]?=some (.cells cs.toArray t (0,0))) (e:cs=pre++(mid++post)) (ho:pre.length=o):W.rangeAt g o mid:=by
 subst e;subst ho
 intro j v hv
 have hj:=(List.getElem?_eq_some_iff.1 hv).1
 have:(pre++(mid++post))[pre.length+j]?=some v:=by
  rw [List.getElem?_append_right (Nat.le_add_right _ _),Nat.add_sub_cancel_left,List.getElem?_append_left hj]
  exact hv
 simp [World.cell?,h,this]
theorem part_cell {v:Value} (h:W.heap[g]?=some (.cells cs.toArray t (0,0))) (e:cs=pre++([v]++post)) (ho:pre.length=o):W.cell? ⟨g,o,none⟩=some v:=by
 have:=zob h e ho 0 v rfl
 simpa using this
theorem part_there (h:W.heap[g]?=some (.cells cs.toArray t (0,0))) (e:cs=pre++(mid++post)) (ho:pre.length=o):W.there g o mid.length:=by
 intro j hj
 refine ⟨?_,zh h _⟩
 rw [zob h e ho j _ (List.getElem?_eq_getElem hj)]
 rfl
theorem part_set:∀(new mid pre post:List Value) (W:World),new.length=mid.length→W.heap[g]?=some (.cells (pre++(mid++post)).toArray t (0,0))→(W.setCells g pre.length new).heap[g]?=some (.cells (pre++(new++post)).toArray t (0,0))
 |[],[],pre,post,W,_,h=>h
 |[],m::ms,pre,post,W,hl,h=>by simp at hl
 |n::ns,[],pre,post,W,hl,h=>by simp at hl
 |n::ns,m::ms,pre,post,W,hl,h=>by
  have h1:(W.setCell ⟨g,pre.length,none⟩ n).heap[g]?=some (.cells ((pre++[n])++(ms++post)).toArray t (0,0)):=
   zv (cs':=((pre++[n])++(ms++post)).toArray) h pre.length n zq29
  have ih:=part_set ns ms (pre++[n]) post _ (by simpa using hl) h1
  show ((W.setCell ⟨g,pre.length,none⟩ n).setCells g (pre.length+1) ns).heap[g]?=_
  rw [List.length_append,List.length_singleton] at ih
  rw [ih]
  simp
theorem setCells_below {w:World} (hg:w.heap.size≤g):∀(vs:List Value) (W:World) (i:Nat),Below w.heap.size w W→Below w.heap.size w (W.setCells g i vs)
 |[],W,i,h=>h
 |u::vs,W,i,h=>setCells_below hg vs _ _ (zD h hg)
theorem setCells_kept:∀(vs:List Value) (W:World) (i:Nat),Kept W (W.setCells g i vs) (fun k=>k=g)
 |[],W,i=>Kept.refl W _
 |u::vs,W,i=>(Kept.setCell (Kept.refl W (fun k=>k=g)) (p:=⟨g,i,none⟩) (.inl rfl) u).then_ (setCells_kept vs _ _) (fun k h=> .inl h)
end
def kTxn:Kd (S53×(List ByteArray×List S135×Int×List Int×List Int×List Int)×Int):=Own.apair k53 (Own.apair kWork (Kd.int .i64))
def kStore:Kd ((List ByteArray×List S135)×S53×List S118×(S53×(List ByteArray×List S135×Int×List Int×List Int×List Int)×Int)×Bool×Bool):=Own.apair kDisk (Own.apair k53 (Own.apair (Own.srow 118 k118) (Own.apair kTxn (Own.apair Kd.bool Kd.bool))))
theorem markMeta_o (k:Nat) (x:S53) (a r:Int) (fr:List S122) (ok:Nat→Prop) {cs:List Value} (w0 w:World) (hB:Below w0.heap.size w0 w) (hk:∀k,ok k→k<w.heap.size) (h:k53.M w w0.heap.size ok x cs) (hf:markF.l0 k x.f3 a 0=some (r,fr)):
  Calls Try.prog 44 #[.agg cs.toArray,.int .i64 a] w fun e w'=>e= .returned (.int .i64 r)∧k53.M w' w0.heap.size ok (⟨x.f0,x.f1,x.f2,fr⟩:S53) cs∧Below w0.heap.size w0 w'∧Kept w w' ok:=by
 obtain ⟨v3,rfl,R⟩:=k53_openM h
 clear h
 obtain ⟨A3,c3,rfl⟩:=Kd.S_slice R
 have K1:=zz hf
 have hn:¬ok w.heap.size:=fun h=>Nat.lt_irrefl _ (hk _ h)
 have R1:=zz (Kd.S_alloc R (.cells #[.int .i64 x.f0,.int .i64 x.f1,.int .i64 x.f2,.slice A3 x.f3.length c3] 53))
 have HB:=zz (Own.below_more hB (.cells #[.int .i64 x.f0,.int .i64 x.f1,.int .i64 x.f2,.slice A3 x.f3.length c3] 53))
 have BX:=zz (zM w (.cells #[.int .i64 x.f0,.int .i64 x.f1,.int .i64 x.f2,.slice A3 x.f3.length c3] 53))
 have HK:=zz (Kept.alloc (Kept.refl w ok) (.cells #[.int .i64 x.f0,.int .i64 x.f1,.int .i64 x.f2,.slice A3 x.f3.length c3] 53))
 clear R hB hf hk
 go_enter Try.func44,Try.ntmps44
 have hx:(w.alloc (.cells #[.int .i64 x.f0,.int .i64 x.f1,.int .i64 x.f2,.slice A3 x.f3.length c3] 53)).cell? ⟨w.heap.size,3,none⟩=some (.slice A3 x.f3.length c3):=(zd BX.1 3).trans rfl
 go_wp2_with fail
 clear hx
 ((with_reducible refine (markFreeS_o k ok _ x.f3 a r fr w0 _ HB.1 R1.1 K1.1).mono ?_);rintro e w1 ⟨rfl,hS,hB1,hK1⟩)
 go_wp2
 go_ret
 have hl:=(Kd.S_reads' hS).1
 refine ⟨rfl,?_,hB1,HK.1.then_ hK1 (fun k h=> .inl h)⟩
 have h3:=hS
 rw [hl] at h3
 show k53.M w1 w0.heap.size ok _ [.int .i64 x.f0,.int .i64 x.f1,.int .i64 x.f2,.slice A3 x.f3.length c3]
 rw [hl]
 exact k53_mkM _ _ _ (⟨x.f0,x.f1,x.f2,fr⟩:S53) h3
structure Put1 (W W':World) (g:Nat):Prop where
 kept:Kept W W' (fun k=>k=g)
 below:∀w:World,w.heap.size≤g→Below w.heap.size w W→Below w.heap.size w W'
 size:W'.heap.size=W.heap.size
theorem setCells_size {g:Nat}:∀(vs:List Value) (W:World) (i:Nat),(W.setCells g i vs).heap.size=W.heap.size
 |[],W,i=>rfl
 |u::vs,W,i=>(setCells_size vs _ _).trans (by simp [World.setCell])
theorem Put1.cells {W:World} {g:Nat} (i:Nat) (vs:List Value):Put1 W (W.setCells g i vs) g:=⟨setCells_kept vs W i,fun w hg h=>setCells_below hg vs W i h,setCells_size vs W i⟩
section
variable {P:Program} {ops:Array Oper} {rest:List Oper} {o:Oper} {a:Act} {Q:Exit→Act→World→Prop} {W:World}
theorem run_loadpart (ty:TypeId) (x:Operand) (ho:o.op= .load ty x) (g off:Nat) (pre mid post:List Value) {cs:List Value} {t:TypeId} (d:TypeDesc) (hx:a.eval x= .pointer (some ⟨g,off,none⟩)) (hg:W.heap[g]?=some (.cells cs.toArray t (0,0))) (e:cs=pre++(mid++post)) (hp:pre.length=off)
  (hu:P.underlying ty=some d) (hd:d.isRow=true) (hi:(P.info? ty).map (·.size)=some mid.length):(execOp a.eval o).run P W= .ok (.value (.agg mid.toArray)) W:=by
 unfold execOp
 simp only [ho,hx,Instr.loadAt,Instr.sureAddr,Sem.run_bind,Sem.run_pure,Result.andThen_ok,run_loadVar_mid W g off ty mid d (zob hg e hp) hu hd hi]
theorem zl (hgd:o.guard=none) (ty:TypeId) (x:Operand) (ho:o.op= .load ty x) (g off:Nat) (pre mid post:List Value) {cs:List Value} {t:TypeId} (d:TypeDesc) (hx:a.eval x= .pointer (some ⟨g,off,none⟩)) (hg:W.heap[g]?=some (.cells cs.toArray t (0,0))) (e:cs=pre++(mid++post)) (hp:pre.length=off)
  (hu:P.underlying ty=some d) (hd:d.isRow=true) (hi:(P.info? ty).map (·.size)=some mid.length) (h:wpList P ops Q rest (a.put o.dst (.agg mid.toArray)) W):wpList P ops Q (o::rest) a W:=
 wpList_load_mid hgd ty x ho g off hx mid d (zob hg e hp) hu hd hi h
theorem zK (hgd:o.guard=none) (ty:TypeId) (x y:Operand) (ho:o.op= .store ty x y) (hN:o.dst=none) (g off:Nat) (new pre mid post:List Value) {cs:List Value} {t:TypeId} (hx:a.eval x= .pointer (some ⟨g,off,none⟩)) (hy:a.eval y= .agg new.toArray) (hg:W.heap[g]?=some (.cells cs.toArray t (0,0))) (e:cs=pre++(mid++post)) (hp:pre.length=off)
  (hl:new.length=mid.length) (hi:(P.info? ty).map (·.size)=some new.length) (h1:∀v∈new,v.oneCell'=true)
  (h:∀W',Put1 W W' g→W'.heap[g]?=some (.cells (pre++(new++post)).toArray t (0,0))→wpList P ops Q rest a W'):wpList P ops Q (o::rest) a W:=by
 refine wpList_store_mid hgd ty x y ho g off new.toArray hx hy (by have:=part_there hg e hp;rw [List.size_toArray,hl];exact this) (by rw [List.size_toArray];exact hi) (Array.all_eq_true_iff_forall_mem.2 (fun v hv=>h1 v (by simpa using hv))) ?_
 have hput:a.put o.dst undef=a:=by rw [hN];rfl
 rw [hput]
 refine h _ (Put1.cells off _) ?_
 subst e;subst hp
 exact part_set new mid pre post W hl hg
end
end Go.Proofs.Ytonhdiemjgdcnaa.PFnExactGivePage
namespace Go.Proofs.Ytonhdiemjgdcnaa.PFnExactGivePage
open Go.RowKit Go.Proofs.YtonhdiemjgdcnaaW.PrintWords Go.Proofs.YtonhdiemjgdcnaaW.PrintLast Go.Proofs.YtonhdiemjgdcnaaW.PrintMore
attribute [local go_sem] zV zU zia zha zP zN zS zT
theorem markTxn_o (k:Nat) (x:S53) (l0:List ByteArray) (l1:List S135) (l2:Int) (l3 l4 l5:List Int) (n a b t1 t2 t3 r:Int) (fr:List S122) (q0:List ByteArray) (q1:List S135) (q3 q4 q5:List Int) (ok:Nat→Prop) {cs:List Value} (w0 w:World) (hB:Below w0.heap.size w0 w) (hk:∀k,ok k→k<w.heap.size) (h:kTxn.M w w0.heap.size ok (x,(l0,l1,l2,l3,l4,l5),n) cs) (hf:markF.l0 k x.f3 a 0=some (b,fr)) (g1:laws_markDisk.f k l0 l1 b=some (t1,q0,q1)) (g2:laws_markIntS.f k l3 t1=some (t2,q3)) (g3:laws_markIntS.f k l4 t2=some (t3,q4)) (g4:laws_markIntS.f k l5 t3=some (r,q5)):
  Calls Try.prog 43 #[.agg cs.toArray,.int .i64 a] w fun e w'=>e= .returned (.int .i64 r)∧kTxn.M w' w0.heap.size ok ((⟨x.f0,x.f1,x.f2,fr⟩:S53),(q0,q1,l2,q3,q4,q5),n) cs∧Below w0.heap.size w0 w'∧Kept w w' ok:=by
 obtain ⟨cM,c',okM,okB,rfl,hM,h,a0,b0,x0⟩:=Own.apair_open h
 obtain ⟨cW,cI,okW,okI,rfl,hW,hI,a1,b1,x1⟩:=Own.apair_open h
 obtain ⟨cs,hcs⟩:∃cs,cs=cM++(cW++cI):=⟨_,rfl⟩
 rw [←hcs]
 have E0:=zz (show cs=[]++(cM++(cW++cI)) from hcs)
 have E1:=zz hcs
 have LM:=zz (show cM.length=4 from k53.K_len (k53.K_of_M hM))
 have LW:=zz (show cW.length=6 from kWork.K_len (kWork.K_of_M hW))
 have hn:¬ok w.heap.size:=fun h=>Nat.lt_irrefl _ (hk _ h)
 have HN:=zz hn
 have RM:=zz (Kd.M_below hM (zi (z0a _ _) (.cells cs.toArray 56)))
 have RW:=zz (Kd.M_below hW (zi (z0a _ _) (.cells cs.toArray 56)))
 have HB:=zz (Own.below_more hB (.cells cs.toArray 56))
 have BX:=zz (zM w (.cells cs.toArray 56))
 have HK:=zz (Kept.alloc (Kept.refl w ok) (.cells cs.toArray 56))
 have OM:=zz a0
 have OW:=zz (fun k h=>b0 k (a1 k h))
 have XX:=zz (fun k h1 h2=>x0 k h1 (a1 k h2))
 have KF:=zz hf
 have K1:=zz g1
 have K2:=zz g2
 have K3:=zz g3
 have K4:=zz g4
 have UM:=zz (fun (W:World) (hM:k53.M W w0.heap.size okM (⟨x.f0,x.f1,x.f2,fr⟩:S53) cM) (hW:kWork.M W w0.heap.size okW (q0,q1,l2,q3,q4,q5) cW)=>(Own.apair_mk hM (Own.apair_mk (ok:=okB) hW (show (Kd.int .i64).M W w0.heap.size (fun _=>False) n cI from hI) a1 (fun _ h=>h.elim) (fun _ _ h=>h)) a0 b0 x0:kTxn.M W w0.heap.size ok ((⟨x.f0,x.f1,x.f2,fr⟩:S53),(q0,q1,l2,q3,q4,q5),n) (cM++(cW++cI))))
 rw [←hcs] at UM
 have HL:=zz (show ∀k,ok k→k<(w.alloc (.cells cs.toArray 56)).heap.size from fun k h=>by have:=hk k h;simp;omega)
 clear h hM hW hI hB hk hf g1 g2 g3 g4 hn a0 b0 x0 a1 b1 x1 hcs
 go_enter Try.func43,Try.ntmps43
 go_wp2_with (((with_reducible refine zg (N:=6) rfl ?_);refine wpList_load_mid rfl 53 _ rfl w.heap.size 0 rfl cM _ (zob (pre:=[]) BX.1 E0.1 zq19) Try.underlying53 rfl (by rw [LM.1];kernel_rfl) ?_))
 ((with_reducible refine (markMeta_o k x a b fr okM w0 _ HB.1 (fun k h=>HL.1 k (OM.1 k h)) RM.1 KF.1).mono ?_);rintro e w1 ⟨rfl,hM,hB1,hK1⟩)
 have n1:=zz hB1
 have n2:=zz hM
 have n3:=zz (Kd.M_kept RW.1 hK1 (fun k h h2=>XX.1 k h2 h))
 have n4:=zz (zua BX.1 hK1 (fun h=>HN.1 (OM.1 _ h)))
 have n5:=zz (HK.1.then_ hK1 (fun k h=> .inl (OM.1 k h)))
 have n6:=zz (fun k h=>z3a (HL.1 k h) hK1.1)
 clear HB RM RW BX HK HL hM hB1 hK1
 have HB:=n1;have RM:=n2;have RW:=n3;have BX:=n4;have HK:=n5;have HL:=n6
 clear n1 n2 n3 n4 n5 n6
 go_wp2_with (((with_reducible refine zg (N:=10) rfl ?_);refine wpList_load_mid rfl 34 _ rfl w.heap.size 4 rfl cW _ (zob (pre:=cM) BX.1 E1.1 (by rw [LM.1])) Try.underlying34 rfl (by rw [LW.1];kernel_rfl) ?_))
 ((with_reducible refine (markWork_o k l0 l1 l2 l3 l4 l5 q0 q1 q3 q4 q5 b t1 t2 t3 r okW w0 _ HB.1 (fun k h=>HL.1 k (OW.1 k h)) RW.1 K1.1 K2.1 K3.1 K4.1).mono ?_);rintro e w2 ⟨rfl,hW,hB1,hK1⟩)
 have n2:=zz (Kd.M_kept RM.1 hK1 (fun k h h2=>XX.1 k h h2))
 have n5:=zz (HK.1.then_ hK1 (fun k h=> .inl (OW.1 k h)))
 go_wp2
 go_ret
 exact ⟨rfl,UM.1 _ n2.out hW,hB1,n5.out⟩
theorem markDisk_o (k:Nat) (l0:List ByteArray) (l1:List S135) (a r:Int) (q0:List ByteArray) (q1:List S135) (ok:Nat→Prop) {cs:List Value} (w0 w:World) (hB:Below w0.heap.size w0 w) (h:kDisk.M w w0.heap.size ok (l0,l1) cs) (hf:laws_markDisk.f k l0 l1 a=some (r,q0,q1)):
  Calls Try.prog 28 #[.agg cs.toArray,.int .i64 a] w fun e w'=>e= .returned (.int .i64 r)∧kDisk.M w' w0.heap.size ok (q0,q1) cs∧Below w0.heap.size w0 w'∧Kept w w' ok:=by
 obtain ⟨v0,v1,P0,P1,rfl,R0,R1,o0,o1,x0⟩:=kDisk_openM h
 refine (laws_markDisk.calls k P0 v0 l0 P1 v1 l1 a r q0 q1 w0 w hB R0 R1 hf).mono ?_
 rintro e w' ⟨rfl,G0,G1,hB1,hK1⟩
 exact ⟨rfl,kDisk_mkM (Own.R_tight2 rfl G0 R0.1) (Own.R_tight2 rfl G1 R1.1) o0 o1 x0,hB1,hK1.mono (fun k h=>h.elim (o0 k) (o1 k))⟩
theorem markStore_o (k:Nat) (l0:List ByteArray) (l1:List S135) (x:S53) (rs:List S118) (y:S53) (j0:List ByteArray) (j1:List S135) (j2:Int) (j3 j4 j5:List Int) (n:Int) (bw bf:Bool) (a u1 u2 u3 u4 t1 t2 t3 r:Int) (q0:List ByteArray) (q1:List S135) (fr:List S122) (rr:List S118) (gr:List S122) (p0:List ByteArray) (p1:List S135) (p3 p4 p5:List Int) (ok:Nat→Prop) {cs:List Value} (w0 w:World) (hB:Below w0.heap.size w0 w) (hk:∀k,ok k→k<w.heap.size) (h:kStore.M w w0.heap.size ok ((l0,l1),x,rs,(y,(j0,j1,j2,j3,j4,j5),n),bw,bf) cs) (f1:laws_markDisk.f k l0 l1 a=some (u1,q0,q1)) (f2:markF.l0 k x.f3 u1 0=some (u2,fr)) (f3:markR.l0 k rs u2 0=some (u3,rr)) (f4:markF.l0 k y.f3 u3 0=some (u4,gr)) (g1:laws_markDisk.f k j0 j1 u4=some (t1,p0,p1)) (g2:laws_markIntS.f k j3 t1=some (t2,p3)) (g3:laws_markIntS.f k j4 t2=some (t3,p4)) (g4:laws_markIntS.f k j5 t3=some (r,p5)):
  Calls Try.prog 29 #[.agg cs.toArray,.int .i64 a] w fun e w'=>e= .returned (.int .i64 r)∧kStore.M w' w0.heap.size ok ((q0,q1),(⟨x.f0,x.f1,x.f2,fr⟩:S53),rr,((⟨y.f0,y.f1,y.f2,gr⟩:S53),(p0,p1,j2,p3,p4,p5),n),bw,bf) cs∧Below w0.heap.size w0 w'∧Kept w w' ok:=by
 obtain ⟨cD,c1,okD,okB1,rfl,hD,h,a0,b0,x0⟩:=Own.apair_open h
 obtain ⟨cM,c2,okM,okB2,rfl,hM,h,a1,b1,x1⟩:=Own.apair_open h
 obtain ⟨cR,c3,okR,okB3,rfl,hR,h,a2,b2,x2⟩:=Own.apair_open h
 obtain ⟨cT,cB,okT,okB4,rfl,hT,hBB,a3,b3,x3⟩:=Own.apair_open h
 obtain ⟨vR,rfl,hR⟩:=hR
 obtain ⟨AR,ccR,rfl⟩:=Kd.S_slice hR
 obtain ⟨cs,hcs⟩:∃cs,cs=cD++(cM++([.slice AR rs.length ccR]++(cT++cB))):=⟨_,rfl⟩
 rw [←hcs]
 have E0:=zz (show cs=[]++(cD++(cM++([.slice AR rs.length ccR]++(cT++cB)))) from hcs)
 have E1:=zz hcs
 have E2:=zz (show cs=(cD++cM)++([.slice AR rs.length ccR]++(cT++cB)) by rw [hcs,List.append_assoc])
 have E3:=zz (show cs=(cD++(cM++[.slice AR rs.length ccR]))++(cT++cB) by rw [hcs,List.append_assoc,List.append_assoc])
 have LD:=zz (show cD.length=2 from kDisk.K_len (kDisk.K_of_M hD))
 have LM:=zz (show cM.length=4 from k53.K_len (k53.K_of_M hM))
 have LT:=zz (show cT.length=11 from kTxn.K_len (kTxn.K_of_M hT))
 have hn:¬ok w.heap.size:=fun h=>Nat.lt_irrefl _ (hk _ h)
 have HN:=zz hn
 have RD:=zz (Kd.M_below hD (zi (z0a _ _) (.cells cs.toArray 58)))
 have RM:=zz (Kd.M_below hM (zi (z0a _ _) (.cells cs.toArray 58)))
 have RR:=zz (Kd.S_below hR (zi (z0a _ _) (.cells cs.toArray 58)))
 have RT:=zz (Kd.M_below hT (zi (z0a _ _) (.cells cs.toArray 58)))
 have HB:=zz (Own.below_more hB (.cells cs.toArray 58))
 have BX:=zz (zM w (.cells cs.toArray 58))
 have HK:=zz (Kept.alloc (Kept.refl w ok) (.cells cs.toArray 58))
 have OD:=zz a0
 have OM:=zz (fun k h=>b0 k (a1 k h))
 have OR:=zz (fun k h=>b0 k (b1 k (a2 k h)))
 have OT:=zz (fun k h=>b0 k (b1 k (b2 k (a3 k h))))
 have XDM:=zz (fun k h1 h2=>x0 k h1 (a1 k h2))
 have XDR:=zz (fun k h1 h2=>x0 k h1 (b1 k (a2 k h2)))
 have XDT:=zz (fun k h1 h2=>x0 k h1 (b1 k (b2 k (a3 k h2))))
 have XMR:=zz (fun k h1 h2=>x1 k h1 (a2 k h2))
 have XMT:=zz (fun k h1 h2=>x1 k h1 (b2 k (a3 k h2)))
 have XRT:=zz (fun k h1 h2=>x2 k h1 (a3 k h2))
 have K1:=zz f1
 have K2:=zz f2
 have K3:=zz f3
 have K4:=zz f4
 have K5:=zz g1
 have K6:=zz g2
 have K7:=zz g3
 have K8:=zz g4
 have UM:=zz (fun (W:World) (hD:kDisk.M W w0.heap.size okD (q0,q1) cD) (hM:k53.M W w0.heap.size okM (⟨x.f0,x.f1,x.f2,fr⟩:S53) cM) (hR:Kd.S k118 118 W w0.heap.size okR (.slice AR rs.length ccR) rr) (hT:kTxn.M W w0.heap.size okT ((⟨y.f0,y.f1,y.f2,gr⟩:S53),(p0,p1,j2,p3,p4,p5),n) cT)=>(Own.apair_mk hD (Own.apair_mk (ok:=okB1) hM (Own.apair_mk (ok:=okB2) (show (Own.srow 118 k118).M W w0.heap.size okR rr [.slice AR rs.length ccR] from ⟨_,rfl,hR⟩) (Own.apair_mk (ok:=okB3) hT (show (Own.apair Kd.bool Kd.bool).M W w0.heap.size okB4 (bw,bf) cB from hBB) a3 b3 x3) a2 b2 x2) a1 b1 x1) a0 b0 x0:kStore.M W w0.heap.size ok ((q0,q1),(⟨x.f0,x.f1,x.f2,fr⟩:S53),rr,((⟨y.f0,y.f1,y.f2,gr⟩:S53),(p0,p1,j2,p3,p4,p5),n),bw,bf) (cD++(cM++([.slice AR rs.length ccR]++(cT++cB))))))
 rw [←hcs] at UM
 have HL:=zz (show ∀k,ok k→k<(w.alloc (.cells cs.toArray 58)).heap.size from fun k h=>by have:=hk k h;simp;omega)
 clear h hD hM hR hT hBB hB hk f1 f2 f3 f4 g1 g2 g3 g4 hn a0 b0 x0 a1 b1 x1 a2 b2 x2 a3 b3 x3 hcs
 go_enter Try.func29,Try.ntmps29
 go_wp2_with (((with_reducible refine zg (N:=6) rfl ?_);refine wpList_load_mid rfl 32 _ rfl w.heap.size 0 rfl cD _ (zob (pre:=[]) BX.1 E0.1 zq19) Try.underlying32 rfl (by rw [LD.1];kernel_rfl) ?_))
 ((with_reducible refine (markDisk_o k l0 l1 a u1 q0 q1 okD w0 _ HB.1 RD.1 K1.1).mono ?_);rintro e w1 ⟨rfl,hR_,hB1,hK1⟩)
 replace RM:=zz (Kd.M_kept RM.1 hK1 (fun k h h2=>XDM.1 k h2 h))
 replace RR:=zz (Kd.S_kept RR.1 hK1 (fun k h h2=>XDR.1 k h2 h))
 replace RT:=zz (Kd.M_kept RT.1 hK1 (fun k h h2=>XDT.1 k h2 h))
 replace RD:=zz hR_
 replace BX:=zz (zua BX.1 hK1 (fun h=>HN.1 (OD.1 _ h)))
 replace HK:=zz (HK.1.then_ hK1 (fun k h=> .inl (OD.1 k h)))
 replace HL:=zz (fun k h=>z3a (HL.1 k h) hK1.1)
 replace HB:=zz hB1
 clear hR_ hB1 hK1
 go_wp2_with (((with_reducible refine zg (N:=10) rfl ?_);refine wpList_load_mid rfl 53 _ rfl w.heap.size 2 rfl cM _ (zob (pre:=cD) BX.1 E1.1 (by rw [LD.1])) Try.underlying53 rfl (by rw [LM.1];kernel_rfl) ?_))
 ((with_reducible refine (markMeta_o k x u1 u2 fr okM w0 _ HB.1 (fun k h=>HL.1 k (OM.1 k h)) RM.1 K2.1).mono ?_);rintro e w2 ⟨rfl,hR_,hB1,hK1⟩)
 replace RD:=zz (Kd.M_kept RD.1 hK1 (fun k h h2=>XDM.1 k h h2))
 replace RR:=zz (Kd.S_kept RR.1 hK1 (fun k h h2=>XMR.1 k h2 h))
 replace RT:=zz (Kd.M_kept RT.1 hK1 (fun k h h2=>XMT.1 k h2 h))
 replace RM:=zz hR_
 replace BX:=zz (zua BX.1 hK1 (fun h=>HN.1 (OM.1 _ h)))
 replace HK:=zz (HK.1.then_ hK1 (fun k h=> .inl (OM.1 k h)))
 replace HL:=zz (fun k h=>z3a (HL.1 k h) hK1.1)
 replace HB:=zz hB1
 clear hR_ hB1 hK1
 have hx:w2.cell? ⟨w.heap.size,6,none⟩=some (.slice AR rs.length ccR):=part_cell BX.1 E2.1 (by rw [List.length_append,LD.1,LM.1])
 go_wp2_with fail
 clear hx
 ((with_reducible refine (markReaderS_o k okR _ rs u2 u3 rr w0 _ HB.1 RR.1 K3.1).mono ?_);rintro e w3 ⟨rfl,hR_,hB1,hK1⟩)
 replace RD:=zz (Kd.M_kept RD.1 hK1 (fun k h h2=>XDR.1 k h h2))
 replace RM:=zz (Kd.M_kept RM.1 hK1 (fun k h h2=>XMR.1 k h h2))
 replace RT:=zz (Kd.M_kept RT.1 hK1 (fun k h h2=>XRT.1 k h2 h))
 replace RR:=zz hR_
 replace BX:=zz (zua BX.1 hK1 (fun h=>HN.1 (OR.1 _ h)))
 replace HK:=zz (HK.1.then_ hK1 (fun k h=> .inl (OR.1 k h)))
 replace HL:=zz (fun k h=>z3a (HL.1 k h) hK1.1)
 replace HB:=zz hB1
 clear hR_ hB1 hK1
 go_wp2_with (((with_reducible refine zg (N:=18) rfl ?_);refine wpList_load_mid rfl 56 _ rfl w.heap.size 7 rfl cT _ (zob (pre:=(cD++(cM++[.slice AR rs.length ccR]))) BX.1 E3.1 (by simp only [List.length_append,List.length_cons,List.length_nil,LM.1,LD.1])) Try.underlying56 rfl (by rw [LT.1];kernel_rfl) ?_))
 ((with_reducible refine (markTxn_o k y j0 j1 j2 j3 j4 j5 n u3 u4 t1 t2 t3 r gr p0 p1 p3 p4 p5 okT w0 _ HB.1 (fun k h=>HL.1 k (OT.1 k h)) RT.1 K4.1 K5.1 K6.1 K7.1 K8.1).mono ?_);rintro e w4 ⟨rfl,hR_,hB1,hK1⟩)
 replace RD:=zz (Kd.M_kept RD.1 hK1 (fun k h h2=>XDT.1 k h h2))
 replace RM:=zz (Kd.M_kept RM.1 hK1 (fun k h h2=>XMT.1 k h h2))
 replace RR:=zz (Kd.S_kept RR.1 hK1 (fun k h h2=>XRT.1 k h h2))
 replace RT:=zz hR_
 replace BX:=zz (zua BX.1 hK1 (fun h=>HN.1 (OT.1 _ h)))
 replace HK:=zz (HK.1.then_ hK1 (fun k h=> .inl (OT.1 k h)))
 replace HL:=zz (fun k h=>z3a (HL.1 k h) hK1.1)
 replace HB:=zz hB1
 clear hR_ hB1 hK1
 go_wp2
 go_ret
 exact ⟨rfl,UM.1 _ RD.1 RM.1 RR.1 RT.1,HB.1,HK.1⟩
theorem oresults_c {P:Program} {fn:Func} {p:Tmp} {ty:TypeId} (h:fn.results= #[.cell p ty]) (tmps:Array Value) (w:World) (g:Nat) (t:TypeId) (cs:Array Value) (fr:Nat×Nat) (d:TypeDesc)
  (hp:tmps.getD p undef= .pointer (some ⟨g,0,none⟩)) (hg:w.heap[g]?=some (.cells cs t fr))
  (hu:P.underlying ty=some d) (hd:(match d with| .struct _| .array _ _=>true|_=>false)=true) (hi:(P.info? ty).map (·.size)=some cs.size):
  (results fn tmps).run P w= .ok (.agg cs) w:=by
 have hp':tmps[p]?.getD undef= .pointer (some ⟨g,0,none⟩):=by simpa using hp
 simp [results,h,hp',asAddr,run_loadVar_row w g t ty cs fr d hg hu hd hi]
def Fr (w w':World):Nat→Prop:=fun k=>w.heap.size≤k∧k<w'.heap.size
theorem toDisk_o (k:Nat) (l0:List ByteArray) (l1:List S140) (q0:List ByteArray) (q1:List S135) {cs:List Value} (w:World) (h:kDiskL.K w (l0,l1) cs) (hf:laws_toDisk.f k l0 l1=some (q0,q1)):
  Calls Try.prog 24 #[.agg cs.toArray] w fun e w'=>∃ds:List Value,e= .returned (.agg ds.toArray)∧kDisk.M w' w.heap.size (Fr w w') (q0,q1) ds∧Below w.heap.size w w':=by
 obtain ⟨A0,c0,A1,c1,rfl,m0,r0,m1,r1⟩:=kDiskL_open h
 refine (laws_toDisk.calls k A0 c0 l0 A1 c1 l1 q0 q1 w r0 m0 r1 m1 hf).mono ?_
 rintro e w' ⟨v0,v1,rfl,R0,R1,hb⟩
 have T0:=Own.R_tightB rfl R0
 have T1:=Own.R_tightB rfl R1
 exact ⟨[v0,v1],rfl,kDisk_mkM T0.1 T1.1 T0.2.1 T1.2.1 (Own.types_ne T0.2.2 T1.2.2 zq32),hb⟩
section
variable {P:Program} {ops:Array Oper} {rest:List Oper} {o:Oper} {a:Act} {Q:Exit→Act→World→Prop} {W:World}
theorem run_loadcell (ty:TypeId) (x:Operand) (ho:o.op= .load ty x) (g off:Nat) (pre:List Value) (v:Value) (post:List Value) {cs:List Value} {t:TypeId} {d:TypeDesc} (hx:a.eval x= .pointer (some ⟨g,off,none⟩)) (hg:W.heap[g]?=some (.cells cs.toArray t (0,0))) (e:cs=pre++([v]++post)) (hp:pre.length=off)
  (hu:P.underlying ty=some d) (hd:d.isRow=false):(execOp a.eval o).run P W= .ok (.value v) W:=by
 have hc:=part_cell hg e hp
 have hagg:(isAgg ty).run P W= .ok false W:=by
  unfold isAgg
  rw [Sem.run_bind,run_underlying hu W]
  cases d<;>simp_all
 unfold execOp
 simp [ho,hx,Instr.loadAt,Instr.sureAddr,Sem.run_bind,loadVar,hagg,run_load,hc]
theorem zF (hgd:o.guard=none) (ty:TypeId) (x:Operand) (ho:o.op= .load ty x) (g off:Nat) (pre:List Value) (v:Value) (post:List Value) {cs:List Value} {t:TypeId} {d:TypeDesc} (hx:a.eval x= .pointer (some ⟨g,off,none⟩)) (hg:W.heap[g]?=some (.cells cs.toArray t (0,0))) (e:cs=pre++([v]++post)) (hp:pre.length=off)
  (hu:P.underlying ty=some d) (hd:d.isRow=false) (h:wpList P ops Q rest (a.put o.dst v) W):wpList P ops Q (o::rest) a W:=by
 refine wpList_plain hgd fun K hK=> ?_
 unfold Oper.wp
 rw [run_loadcell ty x ho g off pre v post hx hg e hp hu hd]
 exact hK _ _ h
end
end Go.Proofs.Ytonhdiemjgdcnaa.PFnExactGivePage
namespace Go.Proofs.YtonhdiemjgdcnaaW.PrintLast
open Go.Proofs.YtonhdiemjgdcnaaW.PrintWords (Z0)
inductive Stp where
 |p (i:Nat)|t (i:Nat)|e (i:Nat)|l (i:Nat)
section
variable {P:Program} {ops:Array Oper} {Q:Exit→Act→World→Prop} {S:World→Prop} {ds:List Nat} {T:Bool×List (List Nat×List Nat)} {B:List Nat} {N:Option Tmp} {o:Oper} {v:Value} {a:Act} {w:World} {i:Nat} {r:List Stp}
def walkB (T:Bool×List (List Nat×List Nat)) (B ds:List Nat):Bool→List Bool→List Stp→Bool
 |_,l,[]=>zVa T.2 l==[]
 |k,l,.p i::r=>(T.1&&freeT T.2 l i&&zfb T.2 l i)&&walkB T B ds k (l.set i true) r
 |k,l,.t i::r=>(k&&takeW T B ds l (l.set i true) i)&&walkB T B ds k (l.set i true) r
 |_,l,.e i::r=>(zVa T.2 l==[i]&& !ds.contains i)&&walkB T B ds true (l.set i true) r
 |_,l,.l i::r=>(zVa T.2 l==[i]&&ds.contains i)&&walkB T B ds false (l.set i true) r
def regB (ops:Array Oper) (T:Bool×List (List Nat×List Nat)) (B ds:List Nat) (r:List Stp):Bool:=rtab .any ops==T&&zqa T.2 B&&r.length==ops.size&&walkB T B ds true (List.replicate ops.size false) r
theorem put_with (a:Act) (d:Option Tmp) (v:Value):a.put d v={a with tmps:=(a.put d v).tmps}:=by cases d<;>rfl
def zmb (P:Program) (ops:Array Oper) (Q:Exit→Act→World→Prop) (S:World→Prop):List Stp→Act→World→Prop
 |[],a,w=>Q .normal a w
 | .p i::r,a,w=>∃o v,ops[i]?=some o∧Yields P ops o v a∧zmb P ops Q S r (a.put o.dst v) w
 | .t i::r,a,w=>∃o v,ops[i]?=some o∧YieldsIf P ops S o v a∧zmb P ops Q S r (a.put o.dst v) w
 | .e i::r,a,w=>∃o,ops[i]?=some o∧∀K:Act→World→Prop,Shut (∀a' w',S w'→(S w'→zmb P ops Q S r a' w')→K a' w')→if Region.wanted o (yielded ops a.tmps)=true then Oper.wp P o a w K Q else K (a.put o.dst undef) w
 | .l i::r,a,w=>∃o,ops[i]?=some o∧∀K:Act→World→Prop,Shut (∀a' w',zmb P ops Q S r a' w'→K a' w')→if Region.wanted o (yielded ops a.tmps)=true then Oper.wp P o a w K Q else K (a.put o.dst undef) w
theorem zUa (hT:rtab .any ops=T) (hB:zqa T.2 B=true) (hQ:∀c (a:Act) ts w,Q (.panic c) {a with tmps:=ts} w→Q (.panic c) a w):∀(r:List Stp) (k:Bool) (l:List Bool) (a:Act) (w:World),
  walkB T B ds k l r=true→(k=true→S w)→zmb P ops Q S r a w→zy P .any ops Q S ds r.length l.toArray a w
 |[],k,l,a,w,hc,hS,h=>⟨by subst hT;rw [zdb];simpa [walkB] using hc,h⟩
 | .p i::r,k,l,a,w,hc,hS,h=>by
  simp only [walkB,Bool.and_eq_true] at hc
  obtain ⟨⟨⟨h1,h2⟩,h3⟩,h4⟩:=hc
  obtain ⟨o,v,ho,hy,hr⟩:=h
  refine zr (l.set i true).toArray ho rfl (zk hT ?_) (fun c a w hh=>hQ c a (a.put o.dst v).tmps w (by rw [←put_with];exact hh)) hy rfl (zUa hT hB hQ r k _ _ w h4 hS hr)
  simp only [anyT,Bool.and_eq_true]
  exact ⟨⟨⟨h1,h2⟩,h3⟩,by simp⟩
 | .t i::r,k,l,a,w,hc,hS,h=>by
  simp only [walkB,Bool.and_eq_true] at hc
  obtain ⟨⟨h1,h2⟩,h4⟩:=hc
  obtain ⟨o,v,ho,hy,hr⟩:=h
  exact take_ (l.set i true).toArray ho rfl (zFa hT hB h2) (fun c a w hh=>hQ c a (a.put o.dst v).tmps w (by rw [←put_with];exact hh)) hy (hS h1) rfl (zUa hT hB hQ r k _ _ w h4 hS hr)
 | .e i::r,k,l,a,w,hc,hS,h=>by
  simp only [walkB,Bool.and_eq_true] at hc
  obtain ⟨⟨h1,h2⟩,h4⟩:=hc
  obtain ⟨o,ho,hr⟩:=h
  refine one_ (l.set i true).toArray ho rfl (zpa hT ?_) (by simpa using h2) (fun K hK=>hr K (fun a' w' hs hw=>hK.out a' w' hs fun hs=>zUa hT hB hQ r true _ a' w' h4 (fun _=>hs) (hw hs)))
  exact zq163
 | .l i::r,k,l,a,w,hc,hS,h=>by
  simp only [walkB,Bool.and_eq_true] at hc
  obtain ⟨⟨h1,h2⟩,h4⟩:=hc
  obtain ⟨o,ho,hr⟩:=h
  refine last_ (l.set i true).toArray ho rfl (zpa hT ?_) (by simpa using h2) (fun K hK=>hr K (fun a' w' hw=>hK.out a' w' (zUa hT hB hQ r false _ a' w' h4 (fun h=>by cases h) hw)))
  exact zq163
theorem zsa {id:Nat} (hc:regB ops T B ds r=true) (hm:P.follows .mixedOrders=true) (hQ:∀c (a:Act) ts w,Q (.panic c) {a with tmps:=ts} w→Q (.panic c) a w) (hS:S w.drew) (h:S w.drew→zmb P ops Q S r a w.drew):(Code.region id ops true).wp P Q a w:=by
 simp only [regB,Bool.and_eq_true,beq_iff_eq] at hc
 obtain ⟨⟨⟨h1,h2⟩,h3⟩,h4⟩:=hc
 refine zGa (ds:=ds) (List.replicate ops.size false).toArray hm rfl zq29 hS (fun hs=> ?_)
 rw [←h3]
 exact zUa h1 h2 hQ r true _ a _ (by rw [h3];exact h4) (fun _=>hs) (h hs)
theorem zY (ho:ops[i]?=some o) (hN:o.dst=N) (hy:Yields P ops o v a) {a':Act} (ha:a.put N v=a') (h:zmb P ops Q S r a' w):zmb P ops Q S (.p i::r) a w:=by
 subst hN;subst ha;exact ⟨o,v,ho,hy,h⟩
theorem zQa (ho:ops[i]?=some o) (hN:o.dst=N) (hy:YieldsIf P ops S o v a) {a':Act} (ha:a.put N v=a') (h:zmb P ops Q S r a' w):zmb P ops Q S (.t i::r) a w:=by
 subst hN;subst ha;exact ⟨o,v,ho,hy,h⟩
theorem seq_e (ho:ops[i]?=some o) (hN:o.dst=N) (h:∀K:Act→World→Prop,Shut (∀a' w',S w'→(S w'→zmb P ops Q S r a' w')→K a' w')→if Region.wanted o (yielded ops a.tmps)=true then Oper.wp P o a w K Q else K (a.put N undef) w):zmb P ops Q S (.e i::r) a w:=by
 subst hN;exact ⟨o,ho,h⟩
theorem seq_l (ho:ops[i]?=some o) (hN:o.dst=N) (h:∀K:Act→World→Prop,Shut (∀a' w',zmb P ops Q S r a' w'→K a' w')→if Region.wanted o (yielded ops a.tmps)=true then Oper.wp P o a w K Q else K (a.put N undef) w):zmb P ops Q S (.l i::r) a w:=by
 subst hN;exact ⟨o,ho,h⟩
theorem zKa (h:Q .normal a w):zmb P ops Q S [] a w:=h
theorem zR {a':Act} (ha:a=a') (h:zmb P ops Q S r a' w):zmb P ops Q S r a w:=by subst ha;exact h
theorem zX {f:FuncId} {fn:Func} {aa:Array Operand} {ts:Array TypeId} (ho:ops[i]?=some o) (hN:o.dst=N) (hf:P.funcs[f]?=some fn) (hname:(fn.name== "runtime.NumGoroutine")=false) (hb:fn.body.isSome=true) (args:Array Value)
  (hw:Region.wanted o (yielded ops a.tmps)=true) (hop:o.op= .call {callee:= .value (.func f),args:=aa,argTypes:=ts}) (hargs:aa.map a.eval=args)
  (h:Calls P f args w fun e w'=>∃v,e= .returned v∧S w'∧(S w'→zmb P ops Q S r (a.put N v) w')):zmb P ops Q S (.e i::r) a w:=
 seq_e ho hN fun K hK=>zjb hf hname hb args hw hN hop hargs (h.mono fun e w' ⟨v,he,hs,hk⟩=>⟨v,he,hK.out _ _ hs hk⟩)
end
end Go.Proofs.YtonhdiemjgdcnaaW.PrintLast
namespace Go.Proofs.Ytonhdiemjgdcnaa.PFnExactGivePage
open Go.RowKit Go.Proofs.YtonhdiemjgdcnaaW.PrintWords Go.Proofs.YtonhdiemjgdcnaaW.PrintLast Go.Proofs.YtonhdiemjgdcnaaW.PrintMore
attribute [local go_sem] zV zU zia zha zP zN zS zT
structure Fct where
 lo:Nat
 hi:Nat
 P:World→Prop
 mv:∀{W W':World},(∀k,lo≤k→k<hi→W'.heap[k]?=W.heap[k]?)→P W→P W'
def Iv (lo hi:Nat):Nat→Prop:=fun k=>lo≤k∧k<hi
def Fct.box (g:Nat) (cs:List Value) (t:TypeId):Fct:=⟨g,g+1,fun W=>W.heap[g]?=some (.cells cs.toArray t (0,0)),fun h hp=>(h g (z2a _) (Nat.lt_succ_self _)).trans hp⟩
def Fct.made {α:Type} (d:Kd α) (base lo hi:Nat) (ok:Nat→Prop) (x:α) (cs:List Value):Fct:=
 ⟨lo,hi,fun W=>d.M W base (fun k=>ok k∧Iv lo hi k) x cs,fun h hp=>d.M_move (fun k hk=>h k hk.2.1 hk.2.2) hp⟩
def All (W:World) (top:Nat):List Fct→Prop
 |[]=>True
 |f::fs=>(f.hi≤top∧f.P W)∧All W top fs
structure Env (w0 W:World) (top:Nat) (fs:List Fct):Prop where
 below:Below w0.heap.size w0 W
 le:top≤W.heap.size
 ge:w0.heap.size≤top
 all:All W top fs
def OffA (g:Nat):List Fct→Prop
 |[]=>True
 |f::fs=>(g<f.lo∨f.hi≤g)∧OffA g fs
def Off (g:Nat):List Fct→Nat→Prop
 |[],_=>True
 |_::fs,0=>OffA g fs
 |f::fs,n+1=>(g<f.lo∨f.hi≤g)∧Off g fs n
section
variable {w0 W W':World} {top top':Nat} {fs:List Fct}
theorem All.step (hk:∀k,k<top→W'.heap[k]?=W.heap[k]?) (ht:top≤top'):∀{fs:List Fct},All W top fs→All W' top' fs
 |[],_=>trivial
 |f::_,⟨⟨h1,h2⟩,h3⟩=>⟨⟨z4a h1 ht,f.mv (fun k _ h=>hk k (z3a h h1)) h2⟩,All.step hk ht h3⟩
theorem All.offA {g:Nat} (hk:∀k,k≠g→W'.heap[k]?=W.heap[k]?):∀{fs:List Fct},All W top fs→OffA g fs→All W' top fs
 |[],_,_=>trivial
 |f::_,⟨⟨h1,h2⟩,h3⟩,⟨h4,h5⟩=>⟨⟨h1,f.mv (fun k h6 h7=>hk k (by rintro rfl;omega)) h2⟩,All.offA hk h3 h5⟩
theorem All.off {g:Nat} (hk:∀k,k≠g→W'.heap[k]?=W.heap[k]?) {f':Fct} (hf:f'.P W') (hh:∀f:Fct,f.hi≤top→f.lo≤g→g<f.hi→True):∀{fs:List Fct} (i:Nat),f'.hi≤top→All W top fs→Off g fs i→All W' top (fs.set i f')
 |[],i,_,_,_=>by cases i<;>exact trivial
 |_::_,0,ht,⟨_,h3⟩,h5=>⟨⟨ht,hf⟩,All.offA hk h3 h5⟩
 |f::_,i+1,ht,⟨⟨h1,h2⟩,h3⟩,⟨h4,h5⟩=>⟨⟨h1,f.mv (fun k h6 h7=>hk k (by rintro rfl;omega)) h2⟩,All.off hk hf hh i ht h3 h5⟩
theorem All.get:∀{fs:List Fct} (i:Nat) {f:Fct},All W top fs→fs[i]?=some f→f.hi≤top∧f.P W
 |[],i,_,_,h=>by simp at h
 |f::_,0,_,⟨h1,_⟩,h=>by simp at h;subst h;exact h1
 |_::_,i+1,_,⟨_,h3⟩,h=>All.get i h3 (by simpa using h)
theorem Env.start (w:World):Env w w w.heap.size []:=⟨z0a _ _,z2a _,z2a _,trivial⟩
theorem Env.get (E:Env w0 W top fs) (i:Nat) {f:Fct} (h:fs[i]?=some f):f.P W:=(All.get i E.all h).2
theorem Env.box (E:Env w0 W top fs) (i:Nat) {g:Nat} {cs:List Value} {t:TypeId} (h:fs[i]?=some (Fct.box g cs t)):W.heap[g]?=some (.cells cs.toArray t (0,0)):=E.get i h
theorem Env.made (E:Env w0 W top fs) (i:Nat) {α:Type} {d:Kd α} {base lo hi:Nat} {ok:Nat→Prop} {x:α} {cs:List Value} (h:fs[i]?=some (Fct.made d base lo hi ok x cs)):d.M W base (fun k=>ok k∧Iv lo hi k) x cs:=E.get i h
theorem Env.mk_ (E:Env w0 W top fs) (i:Nat) {α:Type} {d:Kd α} {base lo hi:Nat} {ok:Nat→Prop} {x:α} {cs:List Value} (h:fs[i]?=some (Fct.made d base lo hi ok x cs)):d.K W x cs:=d.K_of_M (E.made i h)
theorem Env.K (E:Env w0 W top fs) {α:Type} {d:Kd α} {x:α} {cs:List Value} (h:d.K w0 x cs):d.K W x cs:=d.K_below E.below h
theorem Env.alloc (E:Env w0 W top fs) (cs:List Value) (t:TypeId) {g:Nat} (hg:W.heap.size=g):Env w0 (W.alloc (.cells cs.toArray t)) (g+1) (Fct.box g cs t::fs):=by
 subst hg
 refine ⟨zi E.below _,by simp,Nat.le_succ_of_le E.below.size,⟨z2a _,zM W _⟩,All.step (fun k h=>(zi (z0a W.heap.size W) (.cells cs.toArray t)).block k (z3a h E.le)) (Nat.le_succ_of_le E.le) E.all⟩
theorem Env.call (E:Env w0 W top fs) (hb:Below W.heap.size W W'):Env w0 W' top fs:=
 ⟨zf E.below hb,z4a E.le hb.size,E.ge,All.step (fun k h=>hb.block k (z3a h E.le)) (z2a _) E.all⟩
theorem Env.drew (E:Env w0 W top fs):Env w0 W.drew top fs:=E.call (z0a W.heap.size W).drew
theorem Env.made_ (E:Env w0 W top fs) {α:Type} {d:Kd α} {x:α} {cs:List Value} (M:d.M W' W.heap.size (Fr W W') x cs) (hb:Below W.heap.size W W'):∃n m,(top≤n∧n≤m)∧Env w0 W' m (Fct.made d w0.heap.size n m (fun _=>True) x cs::fs):=
 ⟨W.heap.size,W'.heap.size,⟨E.le,hb.size⟩,zf E.below hb,z2a _,z4a E.below.size hb.size,⟨z2a _,d.M_lower E.below.size (d.M_mono (fun k hk=>⟨trivial,hk⟩) M)⟩,All.step (fun k h=>hb.block k (z3a h E.le)) (z4a E.le hb.size) E.all⟩
theorem Env.put (E:Env w0 W top fs) (i:Nat) {g:Nat} {new:List Value} {t:TypeId} (hp:Put1 W W' g) (hn:W'.heap[g]?=some (.cells new.toArray t (0,0))) (hg:w0.heap.size≤g) (ht:g+1≤top) (ho:Off g fs i):Env w0 W' top (fs.set i (Fct.box g new t)):=by
 have hk:∀k,k≠g→W'.heap[k]?=W.heap[k]?:=by
  intro k hk
  by_cases hlt:k<W.heap.size
  ·exact hp.kept.2 k hlt hk
  ·rw [Array.getElem?_eq_none (show W'.heap.size≤k by rw [hp.size];omega),Array.getElem?_eq_none (show W.heap.size≤k by omega)]
 exact ⟨hp.below w0 hg E.below,by rw [hp.size];exact E.le,E.ge,All.off hk hn (fun _ _ _ _=>trivial) i ht E.all ho⟩
theorem Env.add (E:Env w0 W top fs) (f:Fct) (h1:f.hi≤top) (h2:f.P W):Env w0 W top (f::fs):=⟨E.below,E.le,E.ge,⟨h1,h2⟩,E.all⟩
end
section
variable {w0 W W':World} {top:Nat} {fs:List Fct} {p:Prop}
theorem ones_K {α:Type} {d:Kd α} {w:World} {x:α} {cs:List Value} (h:d.K w x cs):∀v∈cs,v.oneCell'=true:=d.K_one h
theorem Env.made4 (E:Env w0 W top fs) (O:p) {α:Type} {d:Kd α} {x:α} {cs:List Value} (z:Nat) (hz:d.sz=z) (M:d.M W' W.heap.size (Fr W W') x cs) (hb:Below W.heap.size W W'):∃n m,Z0 (cs.length=z)∧Z0 (∀v∈cs,v.oneCell'=true)∧Z0 ((top≤n∧n≤m)∧p)∧Z0 (Env w0 W' m (Fct.made d w0.heap.size n m (fun _=>True) x cs::fs)):=by
 obtain ⟨n,m,h1,h2⟩:=E.made_ M hb
 exact ⟨n,m,⟨(d.K_len (d.K_of_M M)).trans hz⟩,⟨ones_K (d.K_of_M M)⟩,⟨h1,O⟩,⟨h2⟩⟩
theorem Env.put2 (E:Env w0 W top fs) (i:Nat) {g:Nat} {new:List Value} {t:TypeId} (hp:Put1 W W' g) (hn:W'.heap[g]?=some (.cells new.toArray t (0,0))) (ho:w0.heap.size≤g∧g+1≤top∧Off g fs i):Z0 (Env w0 W' top (fs.set i (Fct.box g new t))):=⟨E.put i hp hn ho.1 ho.2.1 ho.2.2⟩
theorem Env.to (E:Env w0 W top fs) (h:W=W'):Z0 (Env w0 W' top fs):=⟨h▸E⟩
end
theorem ones_app {a b:List Value} (ha:∀v∈a,v.oneCell'=true) (hb:∀v∈b,v.oneCell'=true):∀v∈a++b,v.oneCell'=true:=fun v hv=>(List.mem_append.1 hv).elim (ha v) (hb v)
theorem zw {a:Value} {l:List Value} (h:a.oneCell'=true) (hl:∀v∈l,v.oneCell'=true):∀v∈a::l,v.oneCell'=true:=fun v hv=>(List.mem_cons.1 hv).elim (fun e=>by rw [e];exact h) (hl v)
theorem onesN:∀v∈([]:List Value),v.oneCell'=true:=fun v hv=>by cases hv
theorem lump_ (l:List Value) (n:Nat) (h:l.length=n) (ho:∀v∈l,v.oneCell'=true):∃c,Z0 (c=l)∧Z0 (c.length=n)∧Z0 (∀v∈c,v.oneCell'=true):=⟨l,⟨rfl⟩,⟨h⟩,⟨ho⟩⟩
theorem s_A {α:Type _} (l:List α) (i:Nat) (a:α):l.toArray.setIfInBounds i a=(l.set i a).toArray:=List.setIfInBounds_toArray l i a
theorem s_0 {α:Type _} (x y:α) (xs:List α):(x::xs).set 0 y=y::xs:=rfl
theorem s_1 {α:Type _} (x y:α) (i:Nat) (xs:List α):(x::xs).set (i+1) y=x::xs.set i y:=rfl
theorem comb {α β:Type} {a:Kd α} {b:Kd β} {W:World} {base:Nat} {p q:Nat→Prop} {x:α} {y:β} {c0 c1:List Value} (ha:a.M W base p x c0) (hb:b.M W base q y c1) (hd:∀k,p k→¬q k):(Own.apair a b).M W base (fun k=>p k∨q k) (x,y) (c0++c1):=
 Own.apair_mk ha hb (fun _ h=> .inl h) (fun _ h=> .inr h) hd
theorem Mint {W:World} {base:Nat} {n:Int}:(Kd.int .i64).M W base (fun _=>False) n [.int .i64 n]:=rfl
theorem Mbool {W:World} {base:Nat} {b:Bool}:Kd.bool.M W base (fun _=>False) b [.bool b]:=rfl
theorem fresh {α:Type} {d:Kd α} {w W:World} {base:Nat} {p:Nat→Prop} {x:α} {cs:List Value} (h:d.M W base p x cs) (hb:w.heap.size≤base):d.M W w.heap.size (Fr w W) x cs:=
 d.M_mono (fun k hk=>⟨hk.2.1,hk.2.2.1⟩) (d.M_bound (d.M_lower hb h))
theorem aA {α:Type} (x y z:List α):x++y++z=x++(y++z):=List.append_assoc x y z
theorem aN {α:Type} (x:List α):[]++x=x:=rfl
theorem aL {α:Type} (x:List α):x++[]=x:=List.append_nil x
end Go.Proofs.Ytonhdiemjgdcnaa.PFnExactGivePage
namespace Go.Proofs.YtonhdiemjgdcnaaW.PrintLast
open Go.Proofs.YtonhdiemjgdcnaaW.PrintWords (Z0)
inductive Tre where
 |d
 |p (i:Nat) (r:Tre)|t (i:Nat) (r:Tre)|e (i:Nat) (r:Tre)|l (i:Nat) (r:Tre)
 |two (i j:Nat) (ri rj:Tre)
 |three (i j k:Nat) (ri rj rk:Tre)
 |four (i j k m:Nat) (ri rj rk rm:Tre)
section
variable {P:Program} {ops:Array Oper} {Q:Exit→Act→World→Prop} {S:World→Prop} {ds:List Nat} {T:Bool×List (List Nat×List Nat)} {B:List Nat} {N:Option Tmp} {o:Oper} {v:Value} {a:Act} {w:World} {i j:Nat} {r ri rj:Tre}
def zCa (T:Bool×List (List Nat×List Nat)) (B ds:List Nat):Nat→Bool→List Bool→Tre→Bool
 |_,_,l,.d=>zVa T.2 l==[]
 |n+1,k,l,.p i r=>(T.1&&freeT T.2 l i&&zfb T.2 l i)&&zCa T B ds n k (l.set i true) r
 |n+1,k,l,.t i r=>(k&&takeW T B ds l (l.set i true) i)&&zCa T B ds n k (l.set i true) r
 |n+1,_,l,.e i r=>(zVa T.2 l==[i]&& !ds.contains i)&&zCa T B ds n true (l.set i true) r
 |n+1,_,l,.l i r=>(zVa T.2 l==[i]&&ds.contains i)&&zCa T B ds n false (l.set i true) r
 |n+1,_,l,.two i j ri rj=>(zVa T.2 l==[i,j]&& !ds.contains i&& !ds.contains j)&&zCa T B ds n true (l.set i true) ri&&zCa T B ds n true (l.set j true) rj
 |n+1,_,l,.three i j k ri rj rk=>(zVa T.2 l==[i,j,k]&& !ds.contains i&& !ds.contains j&& !ds.contains k)&&zCa T B ds n true (l.set i true) ri&&zCa T B ds n true (l.set j true) rj&&zCa T B ds n true (l.set k true) rk
 |n+1,_,l,.four i j k m ri rj rk rm=>(zVa T.2 l==[i,j,k,m]&& !ds.contains i&& !ds.contains j&& !ds.contains k&& !ds.contains m)&&zCa T B ds n true (l.set i true) ri&&zCa T B ds n true (l.set j true) rj&&zCa T B ds n true (l.set k true) rk&&zCa T B ds n true (l.set m true) rm
 |0,_,_,_=>false
def regT (ops:Array Oper) (T:Bool×List (List Nat×List Nat)) (B ds:List Nat) (r:Tre):Bool:=rtab .any ops==T&&zqa T.2 B&&zCa T B ds ops.size true (List.replicate ops.size false) r
theorem put_withT (a:Act) (d:Option Tmp) (v:Value):a.put d v={a with tmps:=(a.put d v).tmps}:=by cases d<;>rfl
def Ev1 (P:Program) (o:Oper) (ops:Array Oper) (Q:Exit→Act→World→Prop) (a:Act) (w:World) (G:Act→World→Prop):Prop:=
 ∀K:Act→World→Prop,Shut (∀a' w',G a' w'→K a' w')→if Region.wanted o (yielded ops a.tmps)=true then Oper.wp P o a w K Q else K (a.put o.dst undef) w
def zca (P:Program) (ops:Array Oper) (Q:Exit→Act→World→Prop) (S:World→Prop):Tre→Act→World→Prop
 | .d,a,w=>Q .normal a w
 | .p i r,a,w=>∃o v,ops[i]?=some o∧Yields P ops o v a∧zca P ops Q S r (a.put o.dst v) w
 | .t i r,a,w=>∃o v,ops[i]?=some o∧YieldsIf P ops S o v a∧zca P ops Q S r (a.put o.dst v) w
 | .e i r,a,w=>∃o,ops[i]?=some o∧Ev1 P o ops Q a w (fun a' w'=>S w'∧(S w'→zca P ops Q S r a' w'))
 | .l i r,a,w=>∃o,ops[i]?=some o∧Ev1 P o ops Q a w (fun a' w'=>zca P ops Q S r a' w')
 | .two i j ri rj,a,w=>(∃o,ops[i]?=some o∧Ev1 P o ops Q a w (fun a' w'=>S w'∧(S w'→zca P ops Q S ri a' w')))∧(∃o,ops[j]?=some o∧Ev1 P o ops Q a w (fun a' w'=>S w'∧(S w'→zca P ops Q S rj a' w')))
 | .three i j k ri rj rk,a,w=>(∃o,ops[i]?=some o∧Ev1 P o ops Q a w (fun a' w'=>S w'∧(S w'→zca P ops Q S ri a' w')))∧(∃o,ops[j]?=some o∧Ev1 P o ops Q a w (fun a' w'=>S w'∧(S w'→zca P ops Q S rj a' w')))∧(∃o,ops[k]?=some o∧Ev1 P o ops Q a w (fun a' w'=>S w'∧(S w'→zca P ops Q S rk a' w')))
 | .four i j k m ri rj rk rm,a,w=>(∃o,ops[i]?=some o∧Ev1 P o ops Q a w (fun a' w'=>S w'∧(S w'→zca P ops Q S ri a' w')))∧(∃o,ops[j]?=some o∧Ev1 P o ops Q a w (fun a' w'=>S w'∧(S w'→zca P ops Q S rj a' w')))∧(∃o,ops[k]?=some o∧Ev1 P o ops Q a w (fun a' w'=>S w'∧(S w'→zca P ops Q S rk a' w')))∧(∃o,ops[m]?=some o∧Ev1 P o ops Q a w (fun a' w'=>S w'∧(S w'→zca P ops Q S rm a' w')))
theorem zO (hT:rtab .any ops=T) (hB:zqa T.2 B=true) (hQ:∀c (a:Act) ts w,Q (.panic c) {a with tmps:=ts} w→Q (.panic c) a w):∀(r:Tre) (n:Nat) (k:Bool) (l:List Bool) (a:Act) (w:World),
  zCa T B ds n k l r=true→(k=true→S w)→zca P ops Q S r a w→zy P .any ops Q S ds n l.toArray a w
 | .d,n,k,l,a,w,hc,hS,h=>done_ (by subst hT;rw [zdb];cases n<;>simpa [zCa] using hc) h
 | .p i r,0,k,l,a,w,hc,hS,h=>by simp [zCa] at hc
 | .p i r,n+1,k,l,a,w,hc,hS,h=>by
  simp only [zCa,Bool.and_eq_true] at hc
  obtain ⟨⟨⟨h1,h2⟩,h3⟩,h4⟩:=hc
  obtain ⟨o,v,ho,hy,hr⟩:=h
  refine zr (l.set i true).toArray ho rfl (zk hT ?_) (fun c a w hh=>hQ c a (a.put o.dst v).tmps w (by rw [←put_withT];exact hh)) hy rfl (zO hT hB hQ r n k _ _ w h4 hS hr)
  simp only [anyT,Bool.and_eq_true]
  exact ⟨⟨⟨h1,h2⟩,h3⟩,by simp⟩
 | .t i r,0,k,l,a,w,hc,hS,h=>by simp [zCa] at hc
 | .t i r,n+1,k,l,a,w,hc,hS,h=>by
  simp only [zCa,Bool.and_eq_true] at hc
  obtain ⟨⟨h1,h2⟩,h4⟩:=hc
  obtain ⟨o,v,ho,hy,hr⟩:=h
  exact take_ (l.set i true).toArray ho rfl (zFa hT hB h2) (fun c a w hh=>hQ c a (a.put o.dst v).tmps w (by rw [←put_withT];exact hh)) hy (hS h1) rfl (zO hT hB hQ r n k _ _ w h4 hS hr)
 | .e i r,0,k,l,a,w,hc,hS,h=>by simp [zCa] at hc
 | .e i r,n+1,k,l,a,w,hc,hS,h=>by
  simp only [zCa,Bool.and_eq_true] at hc
  obtain ⟨⟨h1,h2⟩,h4⟩:=hc
  obtain ⟨o,ho,hr⟩:=h
  refine one_ (l.set i true).toArray ho rfl (zpa hT ?_) (by simpa using h2) (fun K hK=>hr K (fun a' w' hs=>hK.out a' w' hs.1 fun hs2=>zO hT hB hQ r n true _ a' w' h4 (fun _=>hs2) (hs.2 hs2)))
  exact zq163
 | .l i r,0,k,l,a,w,hc,hS,h=>by simp [zCa] at hc
 | .l i r,n+1,k,l,a,w,hc,hS,h=>by
  simp only [zCa,Bool.and_eq_true] at hc
  obtain ⟨⟨h1,h2⟩,h4⟩:=hc
  obtain ⟨o,ho,hr⟩:=h
  refine last_ (l.set i true).toArray ho rfl (zpa hT ?_) (by simpa using h2) (fun K hK=>hr K (fun a' w' hs=>hK.out a' w' (zO hT hB hQ r n false _ a' w' h4 (fun h=>by cases h) hs)))
  exact zq163
 | .two i j ri rj,0,k,l,a,w,hc,hS,h=>by simp [zCa] at hc
 | .two i j ri rj,n+1,k,l,a,w,hc,hS,h=>by
  simp only [zCa,Bool.and_eq_true] at hc
  obtain ⟨⟨⟨⟨h1,h2⟩,h3⟩,h4⟩,h5⟩:=hc
  obtain ⟨⟨oi,hoi,hri⟩,oj,hoj,hrj⟩:=h
  refine two_ (l.set i true).toArray (l.set j true).toArray hoi hoj rfl rfl (two_of hT ?_) (by simpa using h2) (by simpa using h3) (fun K hK=>hri K (fun a' w' hs=>hK.out a' w' hs.1 fun hs2=>zO hT hB hQ ri n true _ a' w' h4 (fun _=>hs2) (hs.2 hs2))) (fun K hK=>hrj K (fun a' w' hs=>hK.out a' w' hs.1 fun hs2=>zO hT hB hQ rj n true _ a' w' h5 (fun _=>hs2) (hs.2 hs2)))
  simp only [Bool.and_eq_true]
  exact ⟨⟨h1,by simp⟩,by simp⟩
 | .three i j k ri rj rk,0,k_,l,a,w,hc,hS,h=>by simp [zCa] at hc
 | .three i j k ri rj rk,n+1,k_,l,a,w,hc,hS,h=>by
  simp only [zCa,Bool.and_eq_true,beq_iff_eq] at hc
  obtain ⟨⟨⟨⟨⟨⟨h1,ci⟩,cj⟩,ck⟩,wi⟩,wj⟩,wk⟩:=hc
  obtain ⟨⟨oi,hoi,hri⟩,⟨oj,hoj,hrj⟩,⟨ok,hok,hrk⟩⟩:=h
  refine zla (rs:=[i,j,k]) (by rw [zdb,hT];exact h1) zq29 (AllReadyL.cons hoi (by simpa using ci) (fun K hK=>hri K (fun a' w' hs=>hK.out a' w' hs.1 fun hs2=>by rw [show l.toArray.setIfInBounds i true=(l.set i true).toArray by simp];exact zO hT hB hQ ri n true _ a' w' wi (fun _=>hs2) (hs.2 hs2))) (AllReadyL.cons hoj (by simpa using cj) (fun K hK=>hrj K (fun a' w' hs=>hK.out a' w' hs.1 fun hs2=>by rw [show l.toArray.setIfInBounds j true=(l.set j true).toArray by simp];exact zO hT hB hQ rj n true _ a' w' wj (fun _=>hs2) (hs.2 hs2))) (AllReadyL.cons hok (by simpa using ck) (fun K hK=>hrk K (fun a' w' hs=>hK.out a' w' hs.1 fun hs2=>by rw [show l.toArray.setIfInBounds k true=(l.set k true).toArray by simp];exact zO hT hB hQ rk n true _ a' w' wk (fun _=>hs2) (hs.2 hs2))) AllReadyL.nil)))
 | .four i j k m ri rj rk rm,0,k_,l,a,w,hc,hS,h=>by simp [zCa] at hc
 | .four i j k m ri rj rk rm,n+1,k_,l,a,w,hc,hS,h=>by
  simp only [zCa,Bool.and_eq_true,beq_iff_eq] at hc
  obtain ⟨⟨⟨⟨⟨⟨⟨⟨h1,ci⟩,cj⟩,ck⟩,cm⟩,wi⟩,wj⟩,wk⟩,wm⟩:=hc
  obtain ⟨⟨oi,hoi,hri⟩,⟨oj,hoj,hrj⟩,⟨ok,hok,hrk⟩,⟨om,hom,hrm⟩⟩:=h
  refine zla (rs:=[i,j,k,m]) (by rw [zdb,hT];exact h1) zq29 (AllReadyL.cons hoi (by simpa using ci) (fun K hK=>hri K (fun a' w' hs=>hK.out a' w' hs.1 fun hs2=>by rw [show l.toArray.setIfInBounds i true=(l.set i true).toArray by simp];exact zO hT hB hQ ri n true _ a' w' wi (fun _=>hs2) (hs.2 hs2))) (AllReadyL.cons hoj (by simpa using cj) (fun K hK=>hrj K (fun a' w' hs=>hK.out a' w' hs.1 fun hs2=>by rw [show l.toArray.setIfInBounds j true=(l.set j true).toArray by simp];exact zO hT hB hQ rj n true _ a' w' wj (fun _=>hs2) (hs.2 hs2))) (AllReadyL.cons hok (by simpa using ck) (fun K hK=>hrk K (fun a' w' hs=>hK.out a' w' hs.1 fun hs2=>by rw [show l.toArray.setIfInBounds k true=(l.set k true).toArray by simp];exact zO hT hB hQ rk n true _ a' w' wk (fun _=>hs2) (hs.2 hs2))) (AllReadyL.cons hom (by simpa using cm) (fun K hK=>hrm K (fun a' w' hs=>hK.out a' w' hs.1 fun hs2=>by rw [show l.toArray.setIfInBounds m true=(l.set m true).toArray by simp];exact zO hT hB hQ rm n true _ a' w' wm (fun _=>hs2) (hs.2 hs2))) AllReadyL.nil))))
theorem tre_start {id:Nat} (hc:regT ops T B ds r=true) (hm:P.follows .mixedOrders=true) (hQ:∀c (a:Act) ts w,Q (.panic c) {a with tmps:=ts} w→Q (.panic c) a w) (hS:S w.drew) (h:S w.drew→zca P ops Q S r a w.drew):(Code.region id ops true).wp P Q a w:=by
 simp only [regT,Bool.and_eq_true,beq_iff_eq] at hc
 obtain ⟨⟨h1,h2⟩,h4⟩:=hc
 refine zGa (ds:=ds) (List.replicate ops.size false).toArray hm rfl zq29 hS (fun hs=> ?_)
 exact zO h1 h2 hQ r _ true _ a _ h4 (fun _=>hs) (h hs)
theorem tre_p (ho:ops[i]?=some o) (hN:o.dst=N) (hy:Yields P ops o v a) {a':Act} (ha:a.put N v=a') (h:zca P ops Q S r a' w):zca P ops Q S (.p i r) a w:=by
 subst hN;subst ha;exact ⟨o,v,ho,hy,h⟩
theorem tre_t (ho:ops[i]?=some o) (hN:o.dst=N) (hy:YieldsIf P ops S o v a) {a':Act} (ha:a.put N v=a') (h:zca P ops Q S r a' w):zca P ops Q S (.t i r) a w:=by
 subst hN;subst ha;exact ⟨o,v,ho,hy,h⟩
theorem tre_e (ho:ops[i]?=some o) (h:Ev1 P o ops Q a w (fun a' w'=>S w'∧(S w'→zca P ops Q S r a' w'))):zca P ops Q S (.e i r) a w:=⟨o,ho,h⟩
theorem tre_l (ho:ops[i]?=some o) (h:Ev1 P o ops Q a w (fun a' w'=>zca P ops Q S r a' w')):zca P ops Q S (.l i r) a w:=⟨o,ho,h⟩
theorem tre_two {oj:Oper} (ho:ops[i]?=some o) (hoj:ops[j]?=some oj) (h:Ev1 P o ops Q a w (fun a' w'=>S w'∧(S w'→zca P ops Q S ri a' w'))) (h2:Ev1 P oj ops Q a w (fun a' w'=>S w'∧(S w'→zca P ops Q S rj a' w'))):zca P ops Q S (.two i j ri rj) a w:=⟨⟨o,ho,h⟩,oj,hoj,h2⟩
theorem tre_three {k:Nat} {rk:Tre} {oj ok:Oper} (ho:ops[i]?=some o) (hoj:ops[j]?=some oj) (hok:ops[k]?=some ok) (h:Ev1 P o ops Q a w (fun a' w'=>S w'∧(S w'→zca P ops Q S ri a' w'))) (h2:Ev1 P oj ops Q a w (fun a' w'=>S w'∧(S w'→zca P ops Q S rj a' w'))) (h3:Ev1 P ok ops Q a w (fun a' w'=>S w'∧(S w'→zca P ops Q S rk a' w'))):zca P ops Q S (.three i j k ri rj rk) a w:=⟨⟨o,ho,h⟩,⟨oj,hoj,h2⟩,ok,hok,h3⟩
theorem tre_four {k m:Nat} {rk rm:Tre} {oj ok om:Oper} (ho:ops[i]?=some o) (hoj:ops[j]?=some oj) (hok:ops[k]?=some ok) (hom:ops[m]?=some om) (h:Ev1 P o ops Q a w (fun a' w'=>S w'∧(S w'→zca P ops Q S ri a' w'))) (h2:Ev1 P oj ops Q a w (fun a' w'=>S w'∧(S w'→zca P ops Q S rj a' w'))) (h3:Ev1 P ok ops Q a w (fun a' w'=>S w'∧(S w'→zca P ops Q S rk a' w'))) (h4:Ev1 P om ops Q a w (fun a' w'=>S w'∧(S w'→zca P ops Q S rm a' w'))):zca P ops Q S (.four i j k m ri rj rk rm) a w:=⟨⟨o,ho,h⟩,⟨oj,hoj,h2⟩,⟨ok,hok,h3⟩,om,hom,h4⟩
theorem tre_done (h:Q .normal a w):zca P ops Q S .d a w:=h
theorem zWa {a':Act} (ha:a=a') (h:zca P ops Q S r a' w):zca P ops Q S r a w:=by subst ha;exact h
theorem ev1_call {G:Act→World→Prop} {f:FuncId} {fn:Func} {aa:Array Operand} {ts:Array TypeId} (hN:o.dst=N) (hf:P.funcs[f]?=some fn) (hname:(fn.name== "runtime.NumGoroutine")=false) (hb:fn.body.isSome=true) (args:Array Value)
  (hw:Region.wanted o (yielded ops a.tmps)=true) (hop:o.op= .call {callee:= .value (.func f),args:=aa,argTypes:=ts}) (hargs:aa.map a.eval=args)
  (h:Calls P f args w fun e w'=>∃v,e= .returned v∧G (a.put N v) w'):Ev1 P o ops Q a w G:=by
 subst hN
 exact fun K hK=>zjb hf hname hb args hw rfl hop hargs (h.mono fun e w' ⟨v,he,hk⟩=>⟨v,he,hK.out _ _ hk⟩)
end
end Go.Proofs.YtonhdiemjgdcnaaW.PrintLast
namespace Go.Proofs.Ytonhdiemjgdcnaa.PFnExactGivePage
open Go.RowKit Go.Proofs.YtonhdiemjgdcnaaW.PrintWords Go.Proofs.YtonhdiemjgdcnaaW.PrintLast Go.Proofs.YtonhdiemjgdcnaaW.PrintMore
section
variable {P:Program} {ops:Array Oper} {Q:Exit→Act→World→Prop} {S:World→Prop} {G:Act→World→Prop} {N:Option Tmp} {o:Oper} {a:Act} {w:World} {i:Nat} {r:Tre}
theorem zBa (ho:ops[i]?=some o) (hN:o.dst=N) (hw:Region.wanted o (yielded ops a.tmps)=true) (ty:TypeId) (x:Operand) (hop:o.op= .load ty x) (g off:Nat) (pre mid post:List Value) {cs:List Value} {t:TypeId} (d:TypeDesc) (hx:a.eval x= .pointer (some ⟨g,off,none⟩)) (hg:∀w',S w'→w'.heap[g]?=some (.cells cs.toArray t (0,0))) (e:cs=pre++(mid++post)) (hp:pre.length=off)
  (hu:P.underlying ty=some d) (hd:d.isRow=true) (hi:(P.info? ty).map (·.size)=some mid.length) {a':Act} (ha:a.put N (.agg mid.toArray)=a') (h:zca P ops Q S r a' w):zca P ops Q S (.t i r) a w:=
 tre_t ho hN (.inl ⟨hw,fun w' hs=>run_loadpart ty x hop g off pre mid post d hx (hg w' hs) e hp hu hd hi⟩) ha h
theorem tre_loadcell (ho:ops[i]?=some o) (hN:o.dst=N) (hw:Region.wanted o (yielded ops a.tmps)=true) (ty:TypeId) (x:Operand) (hop:o.op= .load ty x) (g off:Nat) (pre:List Value) (v:Value) (post:List Value) {cs:List Value} {t:TypeId} (d:TypeDesc) (hx:a.eval x= .pointer (some ⟨g,off,none⟩)) (hg:∀w',S w'→w'.heap[g]?=some (.cells cs.toArray t (0,0))) (e:cs=pre++([v]++post)) (hp:pre.length=off)
  (hu:P.underlying ty=some d) (hd:d.isRow=false) {a':Act} (ha:a.put N v=a') (h:zca P ops Q S r a' w):zca P ops Q S (.t i r) a w:=
 tre_t ho hN (.inl ⟨hw,fun w' hs=>run_loadcell ty x hop g off pre v post hx (hg w' hs) e hp hu hd⟩) ha h
theorem zlb (hN:o.dst=none) (hw:Region.wanted o (yielded ops a.tmps)=true) (ty:TypeId) (x y:Operand) (hop:o.op= .store ty x y) (g off:Nat) (new pre mid post:List Value) {cs:List Value} {t:TypeId} (hx:a.eval x= .pointer (some ⟨g,off,none⟩)) (hy:a.eval y= .agg new.toArray) (hg:w.heap[g]?=some (.cells cs.toArray t (0,0))) (e:cs=pre++(mid++post)) (hp:pre.length=off)
  (hl:new.length=mid.length) (hi:(P.info? ty).map (·.size)=some new.length) (h1:∀v∈new,v.oneCell'=true)
  (h:∀W',Put1 w W' g→W'.heap[g]?=some (.cells (pre++(new++post)).toArray t (0,0))→G a W'):Ev1 P o ops Q a w G:=by
 intro K hK
 rw [if_pos hw]
 refine wp_store_mid ty x y hop g off new.toArray hx hy (by have:=part_there hg e hp;rw [List.size_toArray,hl];exact this) (by rw [List.size_toArray];exact hi) (Array.all_eq_true_iff_forall_mem.2 (fun v hv=>h1 v (by simpa using hv))) ?_
 rw [show a.put o.dst undef=a by rw [hN];rfl]
 refine hK.out _ _ (h _ (Put1.cells off _) ?_)
 subst e;subst hp
 exact part_set new mid pre post w hl hg
theorem fill_seg {pl:Nat→Option (Nat×Nat)} {i:Nat} {v:Value} {new pre mid post cs:List Value} {rest:List (Nat×Value)} {z:Option (Array Value)} (hv:v.cells=new.toArray) (e:cs=pre++(mid++post)) (hp:pl i=some (pre.length,new.length)) (hl:new.length=mid.length)
  (h:Instr.fill pl (pre++(new++post)).toArray rest=z):Instr.fill pl cs.toArray ((i,v)::rest)=z:=by
 subst e
 subst h
 have hz:∀(new mid pre post:List Value),new.length=mid.length→(new.zipIdx).foldl (fun (cs:Array Value) (c,j)=>cs.setIfInBounds (pre.length+j) c) (pre++(mid++post)).toArray=(pre++(new++post)).toArray:=by
  intro new
  induction new with
  |nil=>intro mid pre post h;cases mid<;>simp_all
  |cons n ns ih=>
   intro mid pre post h
   cases mid with
   |nil=>simp at h
   |cons m ms=>
    have ih:=ih ms (pre++[n]) post (by simpa using h)
    rw [List.zipIdx_cons,List.foldl_cons]
    have hs:(pre++((m::ms)++post)).toArray.setIfInBounds (pre.length+0) n=((pre++[n])++(ms++post)).toArray:=zq29
    simp only [hs]
    have h2:(ns.zipIdx (0+1)).foldl (fun (cs:Array Value) (x:Value×Nat)=>cs.setIfInBounds (pre.length+x.2) x.1) ((pre++[n])++(ms++post)).toArray=(ns.zipIdx).foldl (fun (cs:Array Value) (x:Value×Nat)=>cs.setIfInBounds ((pre++[n]).length+x.2) x.1) ((pre++[n])++(ms++post)).toArray:=by
     rw [List.zipIdx_succ,List.foldl_map]
     congr 1
     funext cs x
     simp [Nat.add_assoc,Nat.add_comm 1]
    refine Eq.trans h2 ?_
    rw [ih]
    simp
 simp only [Instr.fill,hp,hv,List.size_toArray]
 rw [if_neg (by simp [hl])]
 have:=hz new mid pre post hl
 rw [←this]
 congr 1
 simp [←Array.foldl_toList]
theorem run_build (ty:TypeId) (parts:Array (Nat×Operand)) (ho:o.op= .build ty parts) (zs:List Value) (hz:∀w,(zeroValue ty).run P w= .ok (.agg zs.toArray) w) (fields:Array Field) (hu:P.underlying ty=some (.struct fields)) (pl:Array (Nat×Nat))
  (hp:∀w,(fields.mapM fun f=>do pure (f.offset,←sizeOf f.type):Sem (Array (Nat×Nat))).run P w= .ok pl w) (vs:List (Nat×Value)) (hvs:parts.map (fun (i,x)=>(i,a.eval x))=vs.toArray) (res:List Value) (hf:Instr.fill (pl[·]?) zs.toArray vs=some res.toArray):∀W,(execOp a.eval o).run P W= .ok (.value (.agg res.toArray)) W:=by
 intro W
 have hv2:Array.map (fun x=>(x.1,a.eval x.2)) parts=vs.toArray:=hvs
 unfold execOp
 simp only [ho,Instr.build,Sem.run_bind,hz,Result.andThen_ok,run_underlying hu,hp,Value.cells,hv2,hf,Sem.run_pure,Sem.run_map,Functor.map]
end
end Go.Proofs.Ytonhdiemjgdcnaa.PFnExactGivePage
namespace Go.Proofs.Ytonhdiemjgdcnaa.PFnExactGivePage
open Go.RowKit Go.Proofs.YtonhdiemjgdcnaaW.PrintWords Go.Proofs.YtonhdiemjgdcnaaW.PrintLast Go.Proofs.YtonhdiemjgdcnaaW.PrintMore
attribute [local go_sem] zV zU zia zha zP zN zS zT
abbrev Z32:List Value:=[.slice none 0 0,.slice none 0 0]
abbrev Z34:List Value:=[.slice none 0 0,.slice none 0 0,.int .i64 0,.slice none 0 0,.slice none 0 0,.slice none 0 0]
abbrev Z53:List Value:=[.int .i64 0,.int .i64 0,.int .i64 0,.slice none 0 0]
abbrev Z56:List Value:=[.int .i64 0,.int .i64 0,.int .i64 0,.slice none 0 0,.slice none 0 0,.slice none 0 0,.int .i64 0,.slice none 0 0,.slice none 0 0,.slice none 0 0,.int .i64 0]
abbrev Z58:List Value:=[.slice none 0 0,.slice none 0 0,.int .i64 0,.int .i64 0,.int .i64 0,.slice none 0 0,.slice none 0 0,.int .i64 0,.int .i64 0,.int .i64 0,.slice none 0 0,.slice none 0 0,.slice none 0 0,.int .i64 0,.slice none 0 0,.slice none 0 0,.slice none 0 0,.int .i64 0,.bool false,.bool false]
theorem Env.cell {w0 W:World} {top:Nat} {fs:List Fct} (E:Env w0 W top fs) {a:Addr} {v:Value} (h:w0.cell? a=some v):W.cell? a=some v:=(E.below.cell (z9 w0 _ h)).trans h
theorem elem_at {α:Type} {d:Kd α} {w:World} {A:Option Addr} {n:Nat} {xs:List α} (h:Kd.C d w A n xs) {i:Nat} (hi:i<xs.length) (hz:0<d.sz):∃ad v cs,A=some ad∧d.K w xs[i] (v::cs)∧w.cell? (ad.add (i*d.sz))=some v∧w.rangeAt (ad.add (i*d.sz)).block ((ad.add (i*d.sz)).off+1) cs:=by
 obtain ⟨h1,h2,h3⟩:=h
 obtain ⟨ad,e,hc⟩:=h3 zq3
 obtain ⟨c,hs,hr,hcell⟩:=hc i _ (List.getElem?_eq_getElem hi)
 cases c with
 |nil=>rw [List.length_nil] at hs;omega
 |cons v cs=>
  refine ⟨ad,v,cs,e,hr,hcell 0 v rfl,fun j u hj=> ?_⟩
  have:=hcell (j+1) u (by simpa using hj)
  rw [zPa _ _ (j+1) zq3] at this
  rw [Nat.add_assoc,Nat.add_comm 1 j]
  exact this
section
variable {P:Program} {ops:Array Oper} {rest:List Oper} {o:Oper} {a:Act} {Q:Exit→Act→World→Prop} {W:World}
theorem zna (hw:Region.wanted o (yielded ops a.tmps)=true) (ty:TypeId) (x:Operand) (ho:o.op= .load ty x) (g off:Nat) (pre mid post:List Value) {cs:List Value} {t:TypeId} (d:TypeDesc) (hx:a.eval x= .pointer (some ⟨g,off,none⟩)) (hg:W.heap[g]?=some (.cells cs.toArray t (0,0))) (e:cs=pre++(mid++post)) (hp:pre.length=off)
  (hu:P.underlying ty=some d) (hd:d.isRow=true) (hi:(P.info? ty).map (·.size)=some mid.length) (h:wpList P ops Q rest (a.put o.dst (.agg mid.toArray)) W):wpList P ops Q (o::rest) a W:=by
 refine wpList_step fun K hK=> ?_
 rw [if_pos hw]
 unfold Oper.wp
 rw [run_loadpart ty x ho g off pre mid post d hx hg e hp hu hd hi]
 exact hK _ _ h
end
def Off2 (lo hi:Nat):List Fct→Nat→Prop
 |[],_=>True
 |_::fs,0=>Off2A lo hi fs
 |f::fs,n+1=>(f.hi≤lo∨hi≤f.lo)∧Off2 lo hi fs n
where Off2A (lo hi:Nat):List Fct→Prop
 |[]=>True
 |f::fs=>(f.hi≤lo∨hi≤f.lo)∧Off2A lo hi fs
theorem All.off2A {W W':World} {top top' lo hi:Nat} (hk:∀k,k<top→(k<lo∨hi≤k)→W'.heap[k]?=W.heap[k]?) (ht:top≤top'):∀{fs:List Fct},All W top fs→Off2.Off2A lo hi fs→All W' top' fs
 |[],_,_=>trivial
 |f::_,⟨⟨h1,h2⟩,h3⟩,⟨h4,h5⟩=>⟨⟨z4a h1 ht,f.mv (fun k h6 h7=>hk k zq3 zq3) h2⟩,All.off2A hk ht h3 h5⟩
theorem All.off2 {W W':World} {top top' lo hi:Nat} (hk:∀k,k<top→(k<lo∨hi≤k)→W'.heap[k]?=W.heap[k]?) (ht:top≤top') {f':Fct} (h1':f'.hi≤top') (hf:f'.P W'):∀{fs:List Fct} (i:Nat),All W top fs→Off2 lo hi fs i→All W' top' (fs.set i f')
 |[],i,_,_=>by cases i<;>exact trivial
 |_::_,0,⟨_,h3⟩,h5=>⟨⟨h1',hf⟩,All.off2A hk ht h3 h5⟩
 |f::_,i+1,⟨⟨h1,h2⟩,h3⟩,⟨h4,h5⟩=>⟨⟨z4a h1 ht,f.mv (fun k h6 h7=>hk k zq3 zq3) h2⟩,All.off2 hk ht h1' hf i h3 h5⟩
def Fct.nil:Fct:=⟨0,0,fun _=>True,fun _ h=>h⟩
theorem All.set {W:World} {top:Nat} {f':Fct}:∀{fs:List Fct} (i:Nat),f'.hi≤top→f'.P W→All W top fs→All W top (fs.set i f')
 |[],i,_,_,_=>by cases i<;>exact trivial
 |_::_,0,h1,h2,⟨_,h3⟩=>⟨⟨h1,h2⟩,h3⟩
 |_::_,i+1,h1,h2,⟨h4,h3⟩=>⟨h4,All.set i h1 h2 h3⟩
theorem Env.nil_ {w0 W:World} {top:Nat} {fs:List Fct} (E:Env w0 W top fs):Env w0 W top (Fct.nil::fs):=⟨E.below,E.le,E.ge,⟨z7a _,trivial⟩,E.all⟩
theorem S_made0 {α:Type} (d:Kd α) (e base:Nat) (w:World) (ok:Nat→Prop) (hb:base≤w.heap.size) (hok:ok w.heap.size):Kd.S d e (w.alloc (.cells #[] e)) base ok (.slice (some ⟨w.heap.size,0,none⟩) 0 0) []:=
 ⟨fun _=>0,fun k hk=>by simp [Value.ownBlock] at hk;rw [←hk];exact hok,[],World.ownsRow_made w #[] 0 hb zq32 zq29,Reps.none _ _⟩
section
variable {P:Program} {ops:Array Oper} {Q:Exit→Act→World→Prop} {G:Act→World→Prop} {N:Option Tmp} {o:Oper} {a:Act} {w0 W:World} {top:Nat} {fs:List Fct}
theorem ev1_lit0 (E:Env w0 W top fs) (i:Nat) (hN:o.dst=N) (hw:Region.wanted o (yielded ops a.tmps)=true) (t e:TypeId) (hop:o.op= .buildSlice t 0 #[]) (hu:P.underlying t=some (.slice e)) (sz:Nat) (hs:(sizeOf e).run P W= .ok sz W) {α:Type} (d:Kd α)
  (h:∀g W',top≤g→Env w0 W' (g+1) (fs.set i (Fct.made (Own.srow e d) w0.heap.size g (g+1) (fun _=>True) [] [.slice (some ⟨g,0,none⟩) 0 0]))→G (a.put N (.slice (some ⟨g,0,none⟩) 0 0)) W'):Ev1 P o ops Q a W G:=by
 intro K hK
 subst hN
 rw [if_pos hw]
 have hz:(Array.range (0*sz)).map ((#[]:Array Value)[·%(#[]:Array Value).size]!)= #[]:=zq29
 have hle:¬0*sz>2^24:=zq29
 have h0:0*sz=0:=zq29
 have hr:Array.range 0= #[]:=rfl
 unfold Oper.wp execOp
 simp only [hop,Instr.buildSlice,Sem.run_bind,run_underlying hu,hs,Result.andThen_ok,List.map_toArray,List.map_nil,if_neg hle,h0,if_true,Instr.fill,Sem.run_pure,newRow,Sem.run_map,Functor.map,hr,Array.map_empty]
 refine hK.out _ _ (h W.heap.size (W.alloc (.cells #[] e)) E.le ?_)
 have E1:=E.call (zi (z0a W.heap.size W) (.cells #[] e))
 exact ⟨E1.below,by simp,Nat.le_succ_of_le E.below.size,All.set i (Nat.le_refl _) (show Fct.P _ _ from ⟨_,rfl,Kd.S_mono (S_made0 d e w0.heap.size W (fun k=>k=W.heap.size) E.below.size rfl) (fun k hk=>⟨trivial,by rw [hk];exact ⟨z2a _,Nat.lt_succ_self _⟩⟩)⟩) (All.step (fun _ _=>rfl) (Nat.le_succ_of_le E.le) E1.all)⟩
theorem ev1_appendrow (E:Env w0 W top fs) (hN:o.dst=N) (hw:Region.wanted o (yielded ops a.tmps)=true) (s x:Operand) (t e:TypeId) (z:Value) (bytes:Nat)
  (ho:o.op= .call {callee:= .builtin .append,args:= #[s,x],argTypes:= #[t,t]}) {α:Type} (d:Kd α) (hE:d.E=[])
  (ht:P.underlying t=some (.slice e)) (hinfo:(P.info? e).map (fun i=>(i.zero,i.size,i.bytes))=some (some z,d.sz,bytes)) (hz:z.cells.size=d.sz) (hs0:0<d.sz) (hb0:0<bytes)
  (i:Nat) {g:Nat} {v:Value} (hf:fs[i]?=some (Fct.made (Own.srow e d) w0.heap.size g (g+1) (fun _=>True) [] [v])) {ys:List α} {A:Option Addr} {m c:Nat} (hR:d.C w0 A m ys) (hKM:∀x cs,d.K W x cs→d.M W w0.heap.size (fun _=>False) x cs)
  (hs:a.eval s=v) (hx:a.eval x= .slice A m c) (hl:m*bytes≤140737488355328) (hgt:g+1≤top) (hoff:Off2 g (g+1) fs i)
  (h:∀v1 w1 b t1,(b=g∨top≤b)∧b+1≤t1∧top≤t1→Env w0 w1 t1 (fs.set i (Fct.made (Own.srow e d) w0.heap.size b (b+1) (fun _=>True) ys [v1]))→G (a.put N v1) w1):Ev1 P o ops Q a W G:=by
 intro K hK
 subst hN
 obtain ⟨v',hv,hS⟩:=E.made i hf
 injection hv with hv
 subst hv
 have hown:∀k,v.ownBlock=some k→True∧Iv g (g+1) k:=hS.choose_spec.1
 have hC:=Kd.C_below hR E.below
 refine Kd.R_append_rows_step d (Rr:=d.K W) (w0:=w0) w0.heap.size hw s x t e z bytes ho ht hinfo hz hs0 hb0 v [] ys A m c (fun _=>True) (fun _=>False) hs hx (Kd.R_mono (Kd.S_R hS) (fun _ _=>trivial)) hC hKM (fun _ h=>h.elim) (fun _ _=>trivial) E.below E.below.size (by rw [List.length_nil,Nat.zero_add];exact hl) ?_
 intro v1 w1 hR1 hB hg hat
 rw [List.nil_append] at hR1
 have hM:=Own.srow_of_R hE hR1
 have fin:∀b,(b=g∨top≤b)→b+1≤w1.heap.size→(∀k,some k=v1.ownBlock→k=b)→K (a.put o.dst v1) w1:=fun b h1 h2 h3=>by
  refine hK.out _ _ (h v1 w1 b w1.heap.size ⟨h1,h2,z4a E.le hg.size⟩ ⟨hB,z2a _,hB.size,All.off2 (fun k hk hk2=>hg.block k (z3a hk E.le) (fun e=> ?_)) (z4a E.le hg.size) (f':=Fct.made (Own.srow e d) w0.heap.size b (b+1) (fun _=>True) ys [v1]) h2 ?_ i E.all hoff⟩)
  ·have:=(hown k e.symm).2
   obtain ⟨q1,q2⟩:=this
   omega
  ·exact (Own.srow e d).M_mono (fun k hk=>⟨trivial,by rw [h3 k hk];exact ⟨z2a _,Nat.lt_succ_self _⟩⟩) hM
 rcases hat with hat|⟨b,hb,hle⟩
 ·refine fin g (.inl rfl) (z4a hgt (z4a E.le hg.size)) (fun k hk=> ?_)
  rw [hat] at hk
  have:=(hown k hk.symm).2
  obtain ⟨q1,q2⟩:=this
  omega
 ·refine fin b (.inr (z4a E.le hle)) (Kd.R_lt hR1 b hb) (fun k hk=> ?_)
  rw [hb] at hk
  injection hk
end
theorem Kpair {α β:Type} {a:Kd α} {b:Kd β} {w:World} {x:α} {y:β} {c0 c1:List Value} (ha:a.K w x c0) (hb:b.K w y c1):(Own.apair a b).K w (x,y) (c0++c1):=⟨c0,c1,rfl,ha,hb⟩
theorem kDisk_comb {W:World} {base:Nat} {p q:Nat→Prop} {l0:List ByteArray} {l1:List S135} {a b:Value} (ha:(Own.srow 9 Kd.string).M W base p l0 [a]) (hb:(Own.srow 135 k135).M W base q l1 [b]) (hd:∀k,p k→¬q k):kDisk.M W base (fun k=>p k∨q k) (l0,l1) [a,b]:=comb ha hb hd
theorem ev1_gate {P:Program} {ops:Array Oper} {Q:Exit→Act→World→Prop} {G:Act→World→Prop} {o:Oper} {a:Act} {W:World} {N:Nat} (_h:o.dst=some N) (h:Ev1 P o ops Q a W G):Ev1 P o ops Q a W G:=h
theorem kDisk_lit {w:World} {l0:List ByteArray} {l1:List S135} {a b:Value} (h0:(Own.srow 9 Kd.string).K w l0 [a]) (h1:(Own.srow 135 k135).K w l1 [b]):kDisk.K w (l0,l1) [a,b]:=Kpair h0 h1
def l03Copy_n_T1:Bool×List (List Nat×List Nat):=(true,[([],[]),([],[]),([1],[1]),([0,2],[0,2]),([],[]),([],[]),([5],[5]),([4,6,3],[4,6]),([3,7],[3,7]),([8,7,0,1,2,3,4,5,6,7,8],[8])])
def l03Copy_n_B1:List Nat:=[0,0,2,7,0,0,32,127,255,511]
theorem l03Copy_n_ok1_0:regT (zgb Try.f65 1) l03Copy_n_T1 l03Copy_n_B1 [9] (.p 1 (.t 2 (.p 5 (.t 6 (.two 0 4 (.two 3 4 (.e 4 (.e 7 (.p 8 (.l 9 .d)))) (.e 3 (.e 7 (.p 8 (.l 9 .d))))) (.e 0 (.e 3 (.e 7 (.p 8 (.l 9 .d))))))))))=true:=zq8
theorem l03Copy_n (l0:List ByteArray) (l1:List S135) {cs:List Value} (w:World) (h:kDisk.K w (l0,l1) cs) (hl:l0.length≤2000000∧l1.length≤2000000):
  Calls Try.prog 65 #[.agg cs.toArray] w fun e w'=>∃ds:List Value,e= .returned (.agg ds.toArray)∧kDisk.M w' w.heap.size (Fr w w') (l0,l1) ds∧Below w.heap.size w w':=by
 obtain ⟨A0,c0,A1,c1,rfl,m0,r0,m1,r1⟩:=zma h
 have R0:=zz r0;have R1:=zz r1;have L0:=zz hl.1;have L1:=zz hl.2;clear h r0 r1 m0 m1 hl
 have O:=zz (z2a w.heap.size)
 have E:=zz (Env.start w)
 go_enter Try.func65,Try.ntmps65
 go_upto_region 1 with (fail)
 replace O:=zz (And.intro E.1.le O.1)
 replace E:=zz (E.1.alloc [.slice A0 l0.length c0,.slice A1 l1.length c1] 32 (g:=w.heap.size) rfl)
 replace E:=zz (E.1.alloc [.slice none 0 0,.slice none 0 0] 32 (g:=(w.heap.size+1)) zq29)
 replace E:=zz E.1.nil_
 replace E:=zz E.1.nil_
 replace E:=zz E.1.drew
 refine tre_start l03Copy_n_ok1_0 (S:=fun w'=>w'.heap[w.heap.size]?=some (.cells ([.slice A0 l0.length c0,.slice A1 l1.length c1]:List Value).toArray 32 (0,0))∧True) zq8 (fun _ _ _ _ h=>h) ⟨(E.1.box 3 rfl),trivial⟩ (fun hHeld=> ?_)
 generalize hq:World.drew _=w1_ at hHeld ⊢;replace E:=E.1.to hq;clear hq
 (refine tre_p (v:= ?_) (a':= ?_) rfl rfl (Or.inl ⟨zq19,zq5⟩) zq21 ?_)
 refine tre_loadcell (a':= ?_) rfl rfl zq19 22 _ rfl w.heap.size 0 [] (.slice A0 l0.length c0) [.slice A1 l1.length c1] _ rfl (fun w' hs=>hs.1) zq14 (rfl) Try.underlying22 rfl zq21 ?_
 (refine tre_p (v:= ?_) (a':= ?_) rfl rfl (Or.inl ⟨zq19,zq5⟩) zq21 ?_)
 refine tre_loadcell (a':= ?_) rfl rfl zq19 30 _ rfl w.heap.size 1 [.slice A0 l0.length c0] (.slice A1 l1.length c1) [] _ rfl (fun w' hs=>hs.1) zq14 (rfl) Try.underlying30 rfl zq21 ?_
 repeat' (first
  |(refine tre_four rfl rfl rfl rfl ?_ ?_ ?_ ?_)
  |(refine tre_three rfl rfl rfl ?_ ?_ ?_)
  |(refine tre_two rfl rfl ?_ ?_)
  |(refine tre_e rfl ?_)
  |((with_reducible refine ev1_gate (N:=3) rfl ?_);refine ev1_lit0 (N:=some 3) E.1 0 rfl zq19 22 9 rfl Try.underlying22 1 zq8 Kd.string ?_;intro g0 W hg hE;have q:=And.intro hg O.1;clear O E hg;have O:=zz q;have E:=zz hE;clear q hE;refine ⟨⟨E.1.box 3 rfl,trivial⟩,fun hHeld=> ?_⟩;refine zWa (a':= ?_) zq21 ?_)
  |((with_reducible refine ev1_gate (N:=6) rfl ?_);refine ev1_appendrow (N:=some 6) E.1 rfl zq19 _ _ 22 9 (.string .empty) 16 rfl Kd.string rfl Try.underlying22 info9 rfl zq32 zq32 0 (g:=g0) rfl R0.1 (fun _ _ h=>h) rfl rfl (zq37 L0.1) (by have o:=O.1;omega) zq73 ?_;intro u W b0 t0 hg hE;have q:=And.intro hg O.1;clear O E hg;have O:=zz q;have E:=zz hE;clear q hE;obtain ⟨B0,e0,hv,-⟩:=E.1.mk_ 0 rfl;injection hv with hv;subst hv;refine ⟨⟨E.1.box 3 rfl,trivial⟩,fun hHeld=> ?_⟩;refine zWa (a':= ?_) zq21 ?_)
  |((with_reducible refine ev1_gate (N:=7) rfl ?_);refine ev1_lit0 (N:=some 7) E.1 1 rfl zq19 30 135 rfl Try.underlying30 2 zq8 k135 ?_;intro g1 W hg hE;have q:=And.intro hg O.1;clear O E hg;have O:=zz q;have E:=zz hE;clear q hE;refine ⟨⟨E.1.box 3 rfl,trivial⟩,fun hHeld=> ?_⟩;refine zWa (a':= ?_) zq21 ?_)
  |((with_reducible refine ev1_gate (N:=10) rfl ?_);refine ev1_appendrow (N:=some 10) E.1 rfl zq19 _ _ 30 135 (.agg #[.int .i64 0,.string .empty]) 24 rfl k135 rfl Try.underlying30 info135 rfl zq32 zq32 1 (g:=g1) rfl R1.1 (fun _ _ h=>h) rfl rfl (zq37 L1.1) (by have o:=O.1;omega) zq73 ?_;intro u W b1 t1 hg hE;have q:=And.intro hg O.1;clear O E hg;have O:=zz q;have E:=zz hE;clear q hE;obtain ⟨B1,e1,hv,-⟩:=E.1.mk_ 1 rfl;injection hv with hv;subst hv;refine ⟨⟨E.1.box 3 rfl,trivial⟩,fun hHeld=> ?_⟩;refine zWa (a':= ?_) zq21 ?_))
 all_goals
  (refine tre_p (v:= ?_) (a':= ?_) rfl rfl (Or.inl ⟨zq19,zq5⟩) zq21 ?_)
  refine tre_l rfl (zlb rfl zq19 32 _ _ rfl (w.heap.size+1) 0 [.slice B0 l0.length e0,.slice B1 l1.length e1] [] Z32 [] rfl rfl (E.1.box 2 rfl) rfl rfl rfl zq8 (zw rfl (zw rfl onesN)) (fun W hp hn=> ?_))
  replace E:=E.1.put2 2 hp hn (by have o:=O.1;dsimp only [Off,OffA,Fct.box,Fct.made,Fct.nil,List.set];and_intros<;>first|trivial|omega)
  refine tre_done ?_
  clear hHeld hp hn
  go_wp2_with fail
  refine bodyPost_ret (oresults_c rfl _ _ (w.heap.size+1) 32 _ _ _ rfl (show _=some (Obj.cells ([.slice B0 l0.length e0,.slice B1 l1.length e1]:List Value).toArray 32 (0,0)) from E.1.box 2 rfl) Try.underlying32 rfl zq8) rfl ?_
  exact ⟨_,rfl,fresh (d:=kDisk) (kDisk_comb (E.1.made 0 rfl) (E.1.made 1 rfl) (fun k h1 h2=>by have o:=O.1;(try simp only [Iv,true_and,or_false,false_or] at h1 h2)<;>omega)) (z2a _),E.1.below⟩
end Go.Proofs.Ytonhdiemjgdcnaa.PFnExactGivePage
namespace Go.Proofs.Ytonhdiemjgdcnaa.PFnExactGivePage
open Go.RowKit Go.Proofs.YtonhdiemjgdcnaaW.PrintWords Go.Proofs.YtonhdiemjgdcnaaW.PrintLast Go.Proofs.YtonhdiemjgdcnaaW.PrintMore
attribute [local go_sem] zV zU zia zha zP zN zS zT
def laws_heldReaderS.l0:Nat→List (S118)→Int→Int→Option (Int)
 |0,_,_,_=>none
 |k+1,x0,x1,x5=>if x5<(x0.length:Int) then (if 0≤x5 then (if ((zu x0 x5).f0)=x1 then (if ((zu x0 x5).f1.f0)=(wrap64 (x1+1)) then (if ((zu x0 x5).f1.f1)=(wrap64 ((wrap64 (x1+1))+1)) then (if ((zu x0 x5).f1.f2)=(wrap64 ((wrap64 ((wrap64 (x1+1))+1))+1)) then ((laws_heldFreeS.f k ((zu x0 x5).f1.f3) (wrap64 ((wrap64 ((wrap64 ((wrap64 (x1+1))+1))+1))+1))).bind fun t188=>(if t188<0 then (none) else (laws_heldReaderS.l0 k x0 t188 (wrap64 (x5+1))))) else (none)) else (none)) else (none)) else (none)) else (none)) else (some x1)
def laws_heldReaderS.f (k:Nat) (l0:List (S118)) (a1:Int):Option (Int):=laws_heldReaderS.l0 k l0 a1 0
theorem laws_heldReaderS.calls (k:Nat) (A0:Option Addr) (c0:Nat) (l0:List (S118)) (a1:Int) (r:Int) (w:World) (hr0:Kd.C k118 w A0 l0.length l0) (hc0:l0.length≤c0) (h:laws_heldReaderS.f k l0 a1=some r):
  Calls Try.prog 74 #[.slice A0 l0.length c0,.int .i64 a1] w fun e w'=>e= .returned (.int .i64 r)∧Drawn0 w w':=by
 have HR0:=zz hr0
 clear hr0 hc0
 have H:(laws_heldReaderS.l0 k l0 a1 0)=some r:=h
 clear h
 have H':=zz H
 clear H
 go_enter Try.func74,Try.ntmps74
 go_wp2
 go_loopg [1,5] k (fun kq v1 v5 w'=>∃(x0:Int) (x1:Int),v1= .int .i64 x0∧v5= .int .i64 x1∧Z0 (laws_heldReaderS.l0 kq l0 x0 x1=some r)∧Z0 (kq≤k)∧Drawn0 w w')
 case atStart=>exact ⟨(a1),(0),zq10,zq10,H',⟨z2a _⟩,zq15⟩
 case round=>
  clear H'
  obtain ⟨x0,x1,rfl,rfl,HA,HK1,⟨m1,rfl⟩⟩:=hrel
  cases gk with
  |zero=>exact absurd HA.1 (by simp [laws_heldReaderS.l0])
  |succ k1=>
   have H:=HA.1
   clear HA
   simp only [laws_heldReaderS.l0] at H
   by_cases c3:x1<(l0.length:Int)
   ·rw [if_pos c3] at H
    have c3b0:=z6 c3
    clear c3
    by_cases c4:0≤x1
    ·rw [if_pos c4] at H
     have c4b0:=z6 c4
     clear c4
     by_cases c5:((zu l0 x1).f0)=x0
     ·rw [if_pos c5] at H
      have c5b0:(((zu l0 x1).f0)==x0)=true:=beq_iff_eq.mpr c5
      have c5b1:(((zu l0 x1).f0) !=x0)=false:=bne_eq_false_iff_eq.mpr c5
      clear c5
      by_cases c6:((zu l0 x1).f1.f0)=(wrap64 (x0+1))
      ·rw [if_pos c6] at H
       have c6b0:(((zu l0 x1).f1.f0)==(wrap64 (x0+1)))=true:=beq_iff_eq.mpr c6
       have c6b1:(((zu l0 x1).f1.f0) !=(wrap64 (x0+1)))=false:=bne_eq_false_iff_eq.mpr c6
       clear c6
       by_cases c7:((zu l0 x1).f1.f1)=(wrap64 ((wrap64 (x0+1))+1))
       ·rw [if_pos c7] at H
        have c7b0:(((zu l0 x1).f1.f1)==(wrap64 ((wrap64 (x0+1))+1)))=true:=beq_iff_eq.mpr c7
        have c7b1:(((zu l0 x1).f1.f1) !=(wrap64 ((wrap64 (x0+1))+1)))=false:=bne_eq_false_iff_eq.mpr c7
        clear c7
        by_cases c8:((zu l0 x1).f1.f2)=(wrap64 ((wrap64 ((wrap64 (x0+1))+1))+1))
        ·rw [if_pos c8] at H
         have c8b0:(((zu l0 x1).f1.f2)==(wrap64 ((wrap64 ((wrap64 (x0+1))+1))+1)))=true:=beq_iff_eq.mpr c8
         have c8b1:(((zu l0 x1).f1.f2) !=(wrap64 ((wrap64 ((wrap64 (x0+1))+1))+1)))=false:=bne_eq_false_iff_eq.mpr c8
         clear c8
         replace H:=z1a H
         obtain ⟨t0,A1,H⟩:=H
         replace H:(if t0<0 then (none) else (laws_heldReaderS.l0 k1 l0 t0 (wrap64 (x1+1))))=some r:=H
         have A9:=zz A1
         clear A1
         by_cases c10:t0<0
         ·rw [if_pos c10] at H
          exact absurd H zq29
         ·rw [if_neg c10] at H
          have c10b0:=z7 c10
          clear c10
          have H':=zz H
          clear H
          have p0:0≤(x1:Int):=z8 zq11
          have q0:x1<(l0.length:Int):=z8 zq11
          obtain ⟨b0,A2,c1,e0,hx183_0,hx183_1,hx183_2,hx183_3,k0,hl183_4,hi183_4⟩:=at_T118 HR0.1 x1 p0 q0
          cases e0
          clear hi183_4 hl183_4
          replace p0:=eq_true p0
          replace q0:=eq_true q0
          have p1:0≤(x1:Int):=z8 zq11
          have q1:x1<(l0.length:Int):=z8 zq11
          obtain ⟨b1,A184_4,c184_4,e1,hx184_0,hx184_1,hx184_2,hx184_3,k2,hl184_4,hi184_4⟩:=at_T118 HR0.1 x1 p1 q1
          obtain rfl:b0=b1:=(by injection e1)
          clear hi184_4 hl184_4
          replace p1:=eq_true p1
          replace q1:=eq_true q1
          have ea_:=z5a (k0.symm.trans k2)
          injection ea_ with ea_ en_ ec_
          subst ea_
          subst ec_
          clear en_
          have p2:0≤(x1:Int):=z8 zq11
          have q2:x1<(l0.length:Int):=z8 zq11
          obtain ⟨b2,A185_4,c185_4,e2,hx185_0,hx185_1,hx185_2,hx185_3,k3,hl185_4,hi185_4⟩:=at_T118 HR0.1 x1 p2 q2
          obtain rfl:b0=b2:=(by injection e2)
          clear hi185_4 hl185_4
          replace p2:=eq_true p2
          replace q2:=eq_true q2
          have ea_:=z5a (k0.symm.trans k3)
          injection ea_ with ea_ en_ ec_
          subst ea_
          subst ec_
          clear en_
          have p3:0≤(x1:Int):=z8 zq11
          have q3:x1<(l0.length:Int):=z8 zq11
          obtain ⟨b3,A186_4,c186_4,e3,hx186_0,hx186_1,hx186_2,hx186_3,k4,hl186_4,hi186_4⟩:=at_T118 HR0.1 x1 p3 q3
          obtain rfl:b0=b3:=(by injection e3)
          clear hi186_4 hl186_4
          replace p3:=eq_true p3
          replace q3:=eq_true q3
          have ea_:=z5a (k0.symm.trans k4)
          injection ea_ with ea_ en_ ec_
          subst ea_
          subst ec_
          clear en_
          have p4:0≤(x1:Int):=z8 zq11
          have q4:x1<(l0.length:Int):=z8 zq11
          obtain ⟨b4,A187_4,c187_4,e4,hx187_0,hx187_1,hx187_2,hx187_3,k5,hl187_4,hi187_4⟩:=at_T118 HR0.1 x1 p4 q4
          obtain rfl:b0=b4:=(by injection e4)
          have R0:=zz hi187_4
          have C0:=zz hl187_4
          clear hi187_4 hl187_4
          replace p4:=eq_true p4
          replace q4:=eq_true q4
          have ea_:=z5a (k0.symm.trans k5)
          injection ea_ with ea_ en_ ec_
          subst ea_
          subst ec_
          clear en_
          go_wp2_with (first|((with_reducible refine zn (f:=102) rfl ?_);refine zQ (some 58) rfl rfl Try.func102 zq8 rfl #[.slice A2 ((zu l0 x1).f1.f3).length c1,.int .i64 (wrap64 ((wrap64 ((wrap64 ((wrap64 (x0+1))+1))+1))+1))] rfl zq6 ?_;(with_reducible refine (laws_heldFreeS.calls k1 _ _ ((zu l0 x1).f1.f3) (wrap64 ((wrap64 ((wrap64 ((wrap64 (x0+1))+1))+1))+1)) t0 _ ?side1 ?side2 A9.1).mono ?_);(case side1=>repeat (first|exact R0.1|(with_reducible refine Kd.C_alloc ?_ _)|(with_reducible refine Kd.C_drewN ?_ _)|(with_reducible refine Kd.C_drew ?_)));(case side2=>exact C0.1);rintro e w' ⟨rfl,⟨nd,rfl⟩⟩;refine ⟨_,rfl,?_⟩))
          exact zq165
        ·exact zq158
       ·exact zq141
      ·exact zq145
     ·exact zq105
    ·exact zq110
   ·exact zq103
end Go.Proofs.Ytonhdiemjgdcnaa.PFnExactGivePage
