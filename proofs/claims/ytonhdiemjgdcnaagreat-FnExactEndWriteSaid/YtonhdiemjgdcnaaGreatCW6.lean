import Derived.Test.YtonhdiemjgdcnaaGreatCW5
import Derived.Outline
import Derived.Deep.MidRow
set_option maxHeartbeats 64000000
set_option maxRecDepth 100000
set_option linter.unusedVariables false
set_option linter.unusedSimpArgs false
namespace Go.Proofs
theorem zq79{P Q0:Prop}(q0:Q0)(h:Q0→P:=by intro q0;rw [hg];exact z8a (zP (g:=g0) (o:= .cells #[.int .i64 a0,.int .i64 a1,.int .i64 a2,.slice A0 l2.length c0] 40 (0,0)) (by (with_reducible repeat (first|refine zk ?_ _|refine zl ?_|refine zh ?_ _));exact q0))):P:=h q0
theorem zq80{P Q0:Prop}(q0:Q0)(h:Q0→P:=by intro q0;rw [hg];exact z7a (zP (g:=g0) (o:= .cells #[.int .i64 a0,.int .i64 a1,.int .i64 a2,.slice A0 l2.length c0] 40 (0,0)) (by (with_reducible repeat (first|refine zk ?_ _|refine zl ?_|refine zh ?_ _));exact q0))):P:=h q0
theorem zq130{P:Prop}(h:P:=by have:=part_there hg e hp;rw [List.size_toArray,hl];exact this):P:=h
theorem zq165{P:Prop}(h:P:=by
 cases hq:P.info? ty with
 |none=>simp [hq] at hi
 |some i=>
  have hs:1=i.size:=by simp [hq] at hi;omega
  simp only [Nat.add_zero] at hrun
  simp [storeVar,sizeOf,typeInfo,hq,hc,←hs,hrun]):P:=h
theorem zq175{P:Prop}(h:P:=by
 obtain ⟨y0,_,rfl,⟨A0,c0,rfl,m0,r0⟩,⟨y1,_,rfl,⟨A1,c1,rfl,m1,r1⟩,⟨y2,_,rfl,e2,⟨y3,_,rfl,⟨A3,c3,rfl,m3,r3⟩,⟨y4,_,rfl,⟨A4,c4,rfl,m4,r4⟩,⟨A5,c5,rfl,m5,r5⟩⟩⟩⟩⟩⟩:=h
 obtain rfl:y2=[.int .i64 l2]:=e2
 exact ⟨A0,c0,A1,c1,A3,c3,A4,c4,A5,c5,rfl,m0,r0,m1,r1,m3,r3,m4,r4,m5,r5⟩):P:=h
theorem zq204{P:Prop}(h:P:=by
 rw [if_neg c3] at H
 have c3b:=z7 c3
 obtain ⟨rfl,rfl⟩:x1=r∧xs=r2:=by simpa using H
 go_wp2
 go_ret
 exact ⟨rfl,HO.1,HB.1,HK.1⟩):P:=h
theorem zq205{P:Prop}(h:P:=by
 clear n0 n1 n2 hR hB2 hK2 HH H2 RI
 go_wp2
 go_roundg k1
 case measure=>have:=HK1.1;omega
 case rel=>exact ⟨_,_,_,rfl,rfl,H',⟨zq51 HK1.1⟩,HS,HK,HB⟩):P:=h
theorem zq216{P:Prop}(h:P:=by
 go_roundg k1
 case measure=>have:=HK1.1;omega
 case rel=>exact ⟨(t0),(wrap64 (x1+1)),zq18,zq18,H',⟨zq51 HK1.1⟩,zq33⟩):P:=h
end Go.Proofs
namespace Go.Proofs.YtonhdiemjgdcnaaGreat.PFnExactGivePage
open Go.RowKit Go.Proofs.YtonhdiemjgdcnaaGreatW.PrintWords Go.Proofs.YtonhdiemjgdcnaaGreatW.PrintLast Go.Proofs.YtonhdiemjgdcnaaGreatW.PrintMore
attribute [local go_sem] zma zla zwa zxa zba zca zoa zna
def laws_eqFreeS.l0:Nat→List (S112)→List (S112)→Int→Option (Bool)
 |0,_,_,_=>none
 |k+1,x0,x1,x5=>if x5<(x0.length:Int) then (if 0≤x5 then (if x5<(x1.length:Int) then ((laws_eqFree.f k ((zF x0 x5).f0) ((zF x0 x5).f1) ((zF x1 x5).f0) ((zF x1 x5).f1)).bind fun t119=>(if t119=true then (laws_eqFreeS.l0 k x0 x1 (wrap64 (x5+1))) else (none))) else (none)) else (none)) else (some true)
def laws_eqFreeS.f (k:Nat) (l0:List (S112)) (l1:List (S112)):Option (Bool):=if (l0.length:Int)=(l1.length:Int) then (laws_eqFreeS.l0 k l0 l1 0) else (none)
def laws_eqFreeS.T6:Bool×List (List Nat×List Nat):=(true,[([],[]),([],[]),([0,1],[0,1]),([2],[2]),([],[]),([],[]),([4,5],[4,5]),([6],[6]),([3,7],[3,7]),([8],[8])])
def laws_eqFreeS.B6:List Nat:=[0,0,3,7,0,0,48,112,255,511]
theorem laws_eqFreeS.tab6:rtab .any (zFa Tryz.f50 6)=laws_eqFreeS.T6:=zq13
theorem laws_eqFreeS.bits6:zQa laws_eqFreeS.T6.2 laws_eqFreeS.B6=true:=zq13
theorem laws_eqFreeS.calls (k:Nat) (A0:Option Addr) (c0:Nat) (l0:List (S112)) (A1:Option Addr) (c1:Nat) (l1:List (S112)) (r:Bool) (w:World) (hr0:Kd.C k112 w A0 l0.length l0) (hc0:l0.length≤c0) (hr1:Kd.C k112 w A1 l1.length l1) (hc1:l1.length≤c1) (h:laws_eqFreeS.f k l0 l1=some r):
  Calls Tryz.prog 50 #[.slice A0 l0.length c0,.slice A1 l1.length c1] w fun e w'=>e= .returned (.bool r)∧Below w.heap.size w w':=by
 have hu122:=Tryz.underlying112
 have HR0:=zz hr0
 clear hr0 hc0
 have HR1:=zz hr1
 clear hr1 hc1
 have HB:=zz (z1a w.heap.size w)
 have H:(if (l0.length:Int)=(l1.length:Int) then (laws_eqFreeS.l0 k l0 l1 0) else (none))=some r:=h
 clear h
 by_cases c3:(l0.length:Int)=(l1.length:Int)
 ·rw [if_pos c3] at H
  have c3b0:((l0.length:Int)==(l1.length:Int))=true:=beq_iff_eq.mpr c3
  have c3b1:((l0.length:Int) !=(l1.length:Int))=false:=bne_eq_false_iff_eq.mpr c3
  have c3b2:(l0.length==l1.length)=true:=zq120
  clear c3
  have H':=zz H
  clear H
  go_enter Tryz.func50,Tryz.ntmps50
  go_wp2
  go_loopg [5] k (fun kq v5 w'=>∃(x0:Int),v5= .int .i64 x0∧Z0 (laws_eqFreeS.l0 kq l0 l1 x0=some r)∧Z0 (kq≤k)∧Z0 (Below w.heap.size w w'))
  case atStart=>exact ⟨(0),zq18,H',⟨z3a _⟩,⟨zq0⟩⟩
  case round=>
   clear H'
   try clear c1
   try clear c3
   try clear c3b0
   try clear c3b1
   try clear c3b2
   obtain ⟨x0,rfl,HA,HK1,HB⟩:=hrel
   cases gk with
   |zero=>exact absurd HA.1 (by simp [laws_eqFreeS.l0])
   |succ k1=>
    have H:=HA.1
    clear HA
    simp only [laws_eqFreeS.l0] at H
    by_cases c4:x0<(l0.length:Int)
    ·rw [if_pos c4] at H
     have c4b0:=z6 c4
     clear c4
     by_cases c5:0≤x0
     ·rw [if_pos c5] at H
      have c5b0:=z6 c5
      clear c5
      by_cases c6:x0<(l1.length:Int)
      ·rw [if_pos c6] at H
       have c6b0:=z6 c6
       clear c6
       replace H:=z2a H
       obtain ⟨t0,A2,H⟩:=H
       replace H:(if t0=true then (laws_eqFreeS.l0 k1 l0 l1 (wrap64 (x0+1))) else (none))=some r:=H
       have A7:=zz A2
       clear A2
       by_cases c8:t0=true
       ·subst c8
        rw [if_pos rfl] at H
        have H':=zz H
        clear H
        try go_wp2
        have n0:=zz (zR HB.1)
        clear HB
        have HB:=n0
        clear n0
        have p0:0≤(x0:Int):=z8 zq21
        have q0:x0<(l0.length:Int):=z8 zq21
        obtain ⟨b0,A4,c11,e0,k0,k2,hl117_1,hi117_1⟩:=zxb HR0.1 x0 p0 q0
        have h0:=k2
        have h2:=k0
        cases e0
        replace k0:=(HB.1.cell (z0a w _ k0)).trans k0
        replace k2:=(HB.1.cell (z0a w _ k2)).trans k2
        have R0:=zz hi117_1
        have C0:=zz hl117_1
        clear hi117_1 hl117_1
        replace p0:=eq_true p0
        replace q0:=eq_true q0
        have p1:0≤(x0:Int):=z8 zq21
        have q1:x0<(l1.length:Int):=z8 zq21
        obtain ⟨b1,A5,c12,e1,k3,k4,hl118_1,hi118_1⟩:=zxb HR1.1 x0 p1 q1
        have h3:=k4
        have h4:=k3
        cases e1
        replace k3:=(HB.1.cell (z0a w _ k3)).trans k3
        replace k4:=(HB.1.cell (z0a w _ k4)).trans k4
        have R1:=zz hi118_1
        have C1:=zz hl118_1
        clear hi118_1 hl118_1
        replace p1:=eq_true p1
        replace q1:=eq_true q1
        refine zVb (n:=10) (S:=fun w'=>w'.cell? (b0.add ((x0).toNat*2))=some (.int .i64 ((zF l0 x0).f0))∧w'.cell? ⟨(b0.add ((x0).toNat*2)).block,(b0.add ((x0).toNat*2)).off+1,none⟩=some (.slice A4 ((zF l0 x0).f1).length c11)∧w'.cell? (b1.add ((x0).toNat*2))=some (.int .i64 ((zF l1 x0).f0))∧w'.cell? ⟨(b1.add ((x0).toNat*2)).block,(b1.add ((x0).toNat*2)).off+1,none⟩=some (.slice A5 ((zF l1 x0).f1).length c12)) (ds:=[]) #[false,false,false,false,false,false,false,false,false,false] zq13 rfl rfl ⟨((HB.1.cell (z0a w _ h2)).trans h2),((HB.1.cell (z0a w _ h0)).trans h0),((HB.1.cell (z0a w _ h4)).trans h4),((HB.1.cell (z0a w _ h3)).trans h3)⟩ (fun hHeld=> ?_);refine zYa laws_eqFreeS.tab6 laws_eqFreeS.bits6 (fun HT_ HW_=> ?_)
        generalize wr.drew=w9 at HB R0 R1 k0 k2 k3 k4 hHeld ⊢
        refine zia (i:=0) (N:=some 17) (v:= ?_) (a':= ?_) #[true,false,false,false,false,false,false,false,false,false] rfl rfl (zQ HT_.1 zq13) (fun _ _ _ h=>h) (Or.inl ⟨zq22,zq12⟩) zq10 ?_
        refine zia (i:=1) (N:=some 18) (v:= ?_) (a':= ?_) #[true,true,false,false,false,false,false,false,false,false] rfl rfl (zQ HT_.1 zq13) (fun _ _ _ h=>h) (Or.inl ⟨zq22,zq12⟩) zq10 ?_
        refine zia (i:=2) (N:=some 19) (v:= ?_) (a':= ?_) #[true,true,true,false,false,false,false,false,false,false] rfl rfl (zQ HT_.1 zq13) (fun _ _ _ h=>h) (Or.inl ⟨zq22,zq12⟩) zq10 ?_
        refine zia (i:=4) (N:=some 21) (v:= ?_) (a':= ?_) #[true,true,true,false,true,false,false,false,false,false] rfl rfl (zQ HT_.1 zq13) (fun _ _ _ h=>h) (Or.inl ⟨zq22,zq12⟩) zq10 ?_
        refine zia (i:=5) (N:=some 22) (v:= ?_) (a':= ?_) #[true,true,true,false,true,true,false,false,false,false] rfl rfl (zQ HT_.1 zq13) (fun _ _ _ h=>h) (Or.inl ⟨zq22,zq12⟩) zq10 ?_
        refine zia (i:=6) (N:=some 23) (v:= ?_) (a':= ?_) #[true,true,true,false,true,true,true,false,false,false] rfl rfl (zQ HT_.1 zq13) (fun _ _ _ h=>h) (Or.inl ⟨zq22,zq12⟩) zq10 ?_
        refine take_ (i:=3) (N:=some 20) (v:= ?_) (a':= ?_) #[true,true,true,true,true,true,true,false,false,false] rfl rfl (zja HT_.1 HW_.1 zq13) (fun _ _ _ h=>h) (Or.inl ⟨zq22,zq49⟩) hHeld zq10 ?_
        refine take_ (i:=7) (N:=some 24) (v:= ?_) (a':= ?_) #[true,true,true,true,true,true,true,true,false,false] rfl rfl (zja HT_.1 HW_.1 zq13) (fun _ _ _ h=>h) (Or.inl ⟨zq22,zq49⟩) hHeld zq10 ?_
        refine one_ (i:=8) (N:=some 25) #[true,true,true,true,true,true,true,true,true,false] rfl rfl (zVa HT_.1 zq13) zq31 (fun K hK=> ?_)
        refine goes_ Tryz.func98 zq13 rfl #[.agg #[.int .i64 ((zF l0 x0).f0),.slice A4 ((zF l0 x0).f1).length c11],.agg #[.int .i64 ((zF l1 x0).f0),.slice A5 ((zF l1 x0).f1).length c12]] zq22 rfl rfl zq8 ?_
        with_reducible refine (laws_eqFree.calls k1 ((zF l0 x0).f0) _ _ ((zF l0 x0).f1) ((zF l1 x0).f0) _ _ ((zF l1 x0).f1) true _ ?side1 ?side2 ?side3 ?side4 A7.1).mono ?_
        (case side1=>repeat (first|exact (Kd.C_below R0.1 HB.1)|(with_reducible refine Kd.C_alloc ?_ _)|(with_reducible refine Kd.C_drewN ?_ _)|(with_reducible refine Kd.C_drew ?_)))
        (case side2=>exact C0.1)
        (case side3=>repeat (first|exact (Kd.C_below R1.1 HB.1)|(with_reducible refine Kd.C_alloc ?_ _)|(with_reducible refine Kd.C_drewN ?_ _)|(with_reducible refine Kd.C_drew ?_)))
        (case side4=>exact C1.1)
        rintro e w10 ⟨rfl,hb⟩
        exact zq182
       ·replace c8:=Bool.eq_false_iff.mpr c8
        subst c8
        exact zq163
      ·exact zq201
     ·exact zq155
    ·exact zq152
 ·exact zq166
def laws_eqMeta.f (k:Nat) (a0_0:Int) (a0_1:Int) (a0_2:Int) (l0_3:List (S112)) (a1_0:Int) (a1_1:Int) (a1_2:Int) (l1_3:List (S112)):Option (Bool):=if a0_0=a1_0 then (if a0_1=a1_1 then (if a0_2=a1_2 then ((laws_eqFreeS.f k l0_3 l1_3).bind fun t122=>(if t122=true then (some true) else (none))) else (none)) else (none)) else (none)
theorem laws_eqMeta.calls (k:Nat) (a0:Int) (a1:Int) (a2:Int) (A0:Option Addr) (c0:Nat) (l2:List (S112)) (a3:Int) (a4:Int) (a5:Int) (A1:Option Addr) (c1:Nat) (l3:List (S112)) (r:Bool) (w:World) (r0:Kd.C k112 w A0 l2.length l2) (h0:l2.length≤c0) (r1:Kd.C k112 w A1 l3.length l3) (h2:l3.length≤c1) (h:laws_eqMeta.f k a0 a1 a2 l2 a3 a4 a5 l3=some r):
  Calls Tryz.prog 11 #[.agg #[.int .i64 a0,.int .i64 a1,.int .i64 a2,.slice A0 l2.length c0],.agg #[.int .i64 a3,.int .i64 a4,.int .i64 a5,.slice A1 l3.length c1]] w fun e w'=>e= .returned (.bool r)∧Below w.heap.size w w':=by
 have hu53:=Tryz.underlying40
 have R0:=zz r0
 have C0:=zz h0
 clear r0 h0
 have R1:=zz r1
 have C1:=zz h2
 clear r1 h2
 have HB:=zz (z1a w.heap.size w)
 have H:(if a0=a3 then (if a1=a4 then (if a2=a5 then ((laws_eqFreeS.f k l2 l3).bind fun t0=>(if t0=true then (some true) else (none))) else (none)) else (none)) else (none))=some r:=h
 clear h
 by_cases c3:a0=a3
 ·rw [if_pos c3] at H
  have c3b0:(a0==a3)=true:=beq_iff_eq.mpr c3
  have c3b1:(a0 !=a3)=false:=bne_eq_false_iff_eq.mpr c3
  clear c3
  by_cases c4:a1=a4
  ·rw [if_pos c4] at H
   have c4b0:(a1==a4)=true:=beq_iff_eq.mpr c4
   have c4b1:(a1 !=a4)=false:=bne_eq_false_iff_eq.mpr c4
   clear c4
   by_cases c5:a2=a5
   ·rw [if_pos c5] at H
    have c5b0:(a2==a5)=true:=beq_iff_eq.mpr c5
    have c5b1:(a2 !=a5)=false:=bne_eq_false_iff_eq.mpr c5
    clear c5
    replace H:=z2a H
    obtain ⟨t0,A2,H⟩:=H
    replace H:(if t0=true then (some true) else (none))=some r:=H
    have A6:=zz A2
    clear A2
    by_cases c7:t0=true
    ·subst c7
     rw [if_pos rfl] at H
     obtain rfl:=z6a H
     go_enter Tryz.func11,Tryz.ntmps11
     go_wp2_with (first|((with_reducible refine zd (N:=2) rfl ?_);refine zx rfl (N:=2) rfl (cs:= #[.int .i64 a0,.int .i64 a1,.int .i64 a2,.slice A0 l2.length c0]) (t:=40) zq27 ?_;intro g0 hg w8 hbox hb;have B0:=zz hbox;have G0:=zz (zq15:w.heap.size≤g0);replace HB:=zz (ze zq0 hb);clear hb hbox hg)|((with_reducible refine zd (N:=3) rfl ?_);refine zx rfl (N:=3) rfl (cs:= #[.int .i64 a3,.int .i64 a4,.int .i64 a5,.slice A1 l3.length c1]) (t:=40) zq27 ?_;intro g1 hg w9 hbox hb;have B2:=zz hbox;have G1:=zz (zq25 G0.1:w.heap.size≤g1);have N0:=zz (zq79 B0.1:g0≠g1);have N1:=zz (zq80 B0.1:g1≠g0);replace B0:=zz (zg (g:=g0) (o:= .cells #[.int .i64 a0,.int .i64 a1,.int .i64 a2,.slice A0 l2.length c0] 40 (0,0)) (zq1 B0.1) hb);replace HB:=zz (ze (zq4 G0.1) hb);clear hb hbox hg;have hnb10:=N0.1;have hnc10:=N1.1;obtain ⟨_,_,_,_,_,_,_,_⟩:=zcell4 B0.1;obtain ⟨_,_,_,_,_,_,_,_⟩:=zcell4 B2.1)|((with_reducible refine zr (f:=50) rfl ?_);refine zN (some 24) rfl rfl Tryz.func50 zq13 rfl #[.slice A0 l2.length c0,.slice A1 l3.length c1] rfl zq8 ?_;(with_reducible refine (laws_eqFreeS.calls k _ _ l2 _ _ l3 true _ ?side1 ?side2 ?side3 ?side4 A6.1).mono ?_);(case side1=>repeat (first|exact (Kd.C_below R0.1 HB.1)|(with_reducible refine Kd.C_alloc ?_ _)|(with_reducible refine Kd.C_drewN ?_ _)|(with_reducible refine Kd.C_drew ?_)));(case side2=>exact C0.1);(case side3=>repeat (first|exact (Kd.C_below R1.1 HB.1)|(with_reducible refine Kd.C_alloc ?_ _)|(with_reducible refine Kd.C_drewN ?_ _)|(with_reducible refine Kd.C_drew ?_)));(case side4=>exact C1.1);rintro e w13 ⟨rfl,hb⟩;refine ⟨_,rfl,?_⟩;replace B0:=zz (zg (g:=g0) (o:= .cells #[.int .i64 a0,.int .i64 a1,.int .i64 a2,.slice A0 l2.length c0] 40 (0,0)) (zq1 B0.1) hb);replace B2:=zz (zg (g:=g1) (o:= .cells #[.int .i64 a3,.int .i64 a4,.int .i64 a5,.slice A1 l3.length c1] 40 (0,0)) (zq1 B2.1) hb);replace HB:=zz (ze (zq5 G0.1 G1.1) hb);(try clear hb);(try clear hb2);(try clear hk);(try clear hi)))
     exact zq214
    ·replace c7:=Bool.eq_false_iff.mpr c7
     subst c7
     exact zq163
   ·exact zq155
  ·exact zq161
 ·exact zq166
def laws_eqReader.f (k:Nat) (a0_0:Int) (a0_1:Int) (a0_2:Int) (a0_3:Int) (l0_4:List (S112)) (a1_0:Int) (a1_1:Int) (a1_2:Int) (a1_3:Int) (l1_4:List (S112)):Option (Bool):=if a0_0=a1_0 then ((laws_eqMeta.f k a0_1 a0_2 a0_3 l0_4 a1_1 a1_2 a1_3 l1_4).bind fun t135=>(if t135=true then (some true) else (none))) else (none)
theorem laws_eqReader.calls (k:Nat) (a0:Int) (a1:Int) (a2:Int) (a3:Int) (A0:Option Addr) (c0:Nat) (l2:List (S112)) (a4:Int) (a5:Int) (a6:Int) (a7:Int) (A1:Option Addr) (c1:Nat) (l3:List (S112)) (r:Bool) (w:World) (r0:Kd.C k112 w A0 l2.length l2) (h0:l2.length≤c0) (r1:Kd.C k112 w A1 l3.length l3) (h2:l3.length≤c1) (h:laws_eqReader.f k a0 a1 a2 a3 l2 a4 a5 a6 a7 l3=some r):
  Calls Tryz.prog 112 #[.agg #[.int .i64 a0,.int .i64 a1,.int .i64 a2,.int .i64 a3,.slice A0 l2.length c0],.agg #[.int .i64 a4,.int .i64 a5,.int .i64 a6,.int .i64 a7,.slice A1 l3.length c1]] w fun e w'=>e= .returned (.bool r)∧Below w.heap.size w w':=by
 have hu118:=Tryz.underlying135
 have hu53:=Tryz.underlying40
 have R0:=zz r0
 have C0:=zz h0
 clear r0 h0
 have R1:=zz r1
 have C1:=zz h2
 clear r1 h2
 have HB:=zz (z1a w.heap.size w)
 have H:(if a0=a4 then ((laws_eqMeta.f k a1 a2 a3 l2 a5 a6 a7 l3).bind fun t0=>(if t0=true then (some true) else (none))) else (none))=some r:=h
 clear h
 by_cases c3:a0=a4
 ·rw [if_pos c3] at H
  have c3b0:(a0==a4)=true:=beq_iff_eq.mpr c3
  have c3b1:(a0 !=a4)=false:=bne_eq_false_iff_eq.mpr c3
  clear c3
  replace H:=z2a H
  obtain ⟨t0,A2,H⟩:=H
  replace H:(if t0=true then (some true) else (none))=some r:=H
  have A4:=zz A2
  clear A2
  by_cases c5:t0=true
  ·subst c5
   rw [if_pos rfl] at H
   obtain rfl:=z6a H
   go_enter Tryz.func112,Tryz.ntmps112
   go_wp2_with (first|((with_reducible refine zd (N:=2) rfl ?_);refine zx rfl (N:=2) rfl (cs:= #[.int .i64 a0,.int .i64 a1,.int .i64 a2,.int .i64 a3,.slice A0 l2.length c0]) (t:=135) zq27 ?_;intro g0 hg w6 hbox hb;have B0:=zz hbox;have G0:=zz (zq15:w.heap.size≤g0);replace HB:=zz (ze zq0 hb);clear hb hbox hg)|((with_reducible refine zd (N:=3) rfl ?_);refine zx rfl (N:=3) rfl (cs:= #[.int .i64 a4,.int .i64 a5,.int .i64 a6,.int .i64 a7,.slice A1 l3.length c1]) (t:=135) zq27 ?_;intro g1 hg w7 hbox hb;have B2:=zz hbox;have G1:=zz (zq25 G0.1:w.heap.size≤g1);have N0:=zz (by rw [hg];exact z8a (zP (g:=g0) (o:= .cells #[.int .i64 a0,.int .i64 a1,.int .i64 a2,.int .i64 a3,.slice A0 l2.length c0] 135 (0,0)) (zq1 B0.1)):g0≠g1);have N1:=zz (by rw [hg];exact z7a (zP (g:=g0) (o:= .cells #[.int .i64 a0,.int .i64 a1,.int .i64 a2,.int .i64 a3,.slice A0 l2.length c0] 135 (0,0)) (zq1 B0.1)):g1≠g0);replace B0:=zz (zg (g:=g0) (o:= .cells #[.int .i64 a0,.int .i64 a1,.int .i64 a2,.int .i64 a3,.slice A0 l2.length c0] 135 (0,0)) (zq1 B0.1) hb);replace HB:=zz (ze (zq4 G0.1) hb);clear hb hbox hg;have hnb8:=N0.1;have hnc8:=N1.1;obtain ⟨_,_,_,_,_,_,_,_,_,_⟩:=zcell5 B0.1;obtain ⟨_,_,_,_,_,_,_,_,_,_⟩:=zcell5 B2.1)|((with_reducible refine zr (f:=11) rfl ?_);refine zN (some 14) rfl rfl Tryz.func11 zq13 rfl #[.agg #[.int .i64 a1,.int .i64 a2,.int .i64 a3,.slice A0 l2.length c0],.agg #[.int .i64 a5,.int .i64 a6,.int .i64 a7,.slice A1 l3.length c1]] rfl zq8 ?_;(with_reducible refine (laws_eqMeta.calls k a1 a2 a3 _ _ l2 a5 a6 a7 _ _ l3 true _ ?side1 ?side2 ?side3 ?side4 A4.1).mono ?_);(case side1=>repeat (first|exact (Kd.C_below R0.1 HB.1)|(with_reducible refine Kd.C_alloc ?_ _)|(with_reducible refine Kd.C_drewN ?_ _)|(with_reducible refine Kd.C_drew ?_)));(case side2=>exact C0.1);(case side3=>repeat (first|exact (Kd.C_below R1.1 HB.1)|(with_reducible refine Kd.C_alloc ?_ _)|(with_reducible refine Kd.C_drewN ?_ _)|(with_reducible refine Kd.C_drew ?_)));(case side4=>exact C1.1);rintro e w11 ⟨rfl,hb⟩;refine ⟨_,rfl,?_⟩;replace B0:=zz (zg (g:=g0) (o:= .cells #[.int .i64 a0,.int .i64 a1,.int .i64 a2,.int .i64 a3,.slice A0 l2.length c0] 135 (0,0)) (zq1 B0.1) hb);replace B2:=zz (zg (g:=g1) (o:= .cells #[.int .i64 a4,.int .i64 a5,.int .i64 a6,.int .i64 a7,.slice A1 l3.length c1] 135 (0,0)) (zq1 B2.1) hb);replace HB:=zz (ze (zq5 G0.1 G1.1) hb);(try clear hb);(try clear hb2);(try clear hk);(try clear hi)))
   exact zq214
  ·replace c5:=Bool.eq_false_iff.mpr c5
   subst c5
   exact zq163
 ·exact zq166
def laws_eqReaderS.l0:Nat→List (S135)→List (S135)→Int→Option (Bool)
 |0,_,_,_=>none
 |k+1,x0,x1,x5=>if x5<(x0.length:Int) then (if 0≤x5 then (if x5<(x1.length:Int) then ((laws_eqReader.f k ((zE x0 x5).f0) ((zE x0 x5).f1.f0) ((zE x0 x5).f1.f1) ((zE x0 x5).f1.f2) ((zE x0 x5).f1.f3) ((zE x1 x5).f0) ((zE x1 x5).f1.f0) ((zE x1 x5).f1.f1) ((zE x1 x5).f1.f2) ((zE x1 x5).f1.f3)).bind fun t138=>(if t138=true then (laws_eqReaderS.l0 k x0 x1 (wrap64 (x5+1))) else (none))) else (none)) else (none)) else (some true)
def laws_eqReaderS.f (k:Nat) (l0:List (S135)) (l1:List (S135)):Option (Bool):=if (l0.length:Int)=(l1.length:Int) then (laws_eqReaderS.l0 k l0 l1 0) else (none)
def laws_eqReaderS.T6:Bool×List (List Nat×List Nat):=(true,[([],[]),([],[]),([0,1],[0,1]),([2],[2]),([],[]),([],[]),([4,5],[4,5]),([6],[6]),([3,7],[3,7]),([8],[8])])
def laws_eqReaderS.B6:List Nat:=[0,0,3,7,0,0,48,112,255,511]
theorem laws_eqReaderS.tab6:rtab .any (zFa Tryz.f71 6)=laws_eqReaderS.T6:=zq13
theorem laws_eqReaderS.bits6:zQa laws_eqReaderS.T6.2 laws_eqReaderS.B6=true:=zq13
theorem laws_eqReaderS.calls (k:Nat) (A0:Option Addr) (c0:Nat) (l0:List (S135)) (A1:Option Addr) (c1:Nat) (l1:List (S135)) (r:Bool) (w:World) (hr0:Kd.C k135 w A0 l0.length l0) (hc0:l0.length≤c0) (hr1:Kd.C k135 w A1 l1.length l1) (hc1:l1.length≤c1) (h:laws_eqReaderS.f k l0 l1=some r):
  Calls Tryz.prog 71 #[.slice A0 l0.length c0,.slice A1 l1.length c1] w fun e w'=>e= .returned (.bool r)∧Below w.heap.size w w':=by
 have hu118:=Tryz.underlying135
 have HR0:=zz hr0
 clear hr0 hc0
 have HR1:=zz hr1
 clear hr1 hc1
 have HB:=zz (z1a w.heap.size w)
 have H:(if (l0.length:Int)=(l1.length:Int) then (laws_eqReaderS.l0 k l0 l1 0) else (none))=some r:=h
 clear h
 by_cases c3:(l0.length:Int)=(l1.length:Int)
 ·rw [if_pos c3] at H
  have c3b0:((l0.length:Int)==(l1.length:Int))=true:=beq_iff_eq.mpr c3
  have c3b1:((l0.length:Int) !=(l1.length:Int))=false:=bne_eq_false_iff_eq.mpr c3
  have c3b2:(l0.length==l1.length)=true:=zq120
  clear c3
  have H':=zz H
  clear H
  go_enter Tryz.func71,Tryz.ntmps71
  go_wp2
  go_loopg [5] k (fun kq v5 w'=>∃(x0:Int),v5= .int .i64 x0∧Z0 (laws_eqReaderS.l0 kq l0 l1 x0=some r)∧Z0 (kq≤k)∧Z0 (Below w.heap.size w w'))
  case atStart=>exact ⟨(0),zq18,H',⟨z3a _⟩,⟨zq0⟩⟩
  case round=>
   clear H'
   try clear c1
   try clear c3
   try clear c3b0
   try clear c3b1
   try clear c3b2
   obtain ⟨x0,rfl,HA,HK1,HB⟩:=hrel
   cases gk with
   |zero=>exact absurd HA.1 (by simp [laws_eqReaderS.l0])
   |succ k1=>
    have H:=HA.1
    clear HA
    simp only [laws_eqReaderS.l0] at H
    by_cases c4:x0<(l0.length:Int)
    ·rw [if_pos c4] at H
     have c4b0:=z6 c4
     clear c4
     by_cases c5:0≤x0
     ·rw [if_pos c5] at H
      have c5b0:=z6 c5
      clear c5
      by_cases c6:x0<(l1.length:Int)
      ·rw [if_pos c6] at H
       have c6b0:=z6 c6
       clear c6
       replace H:=z2a H
       obtain ⟨t0,A2,H⟩:=H
       replace H:(if t0=true then (laws_eqReaderS.l0 k1 l0 l1 (wrap64 (x0+1))) else (none))=some r:=H
       have A7:=zz A2
       clear A2
       by_cases c8:t0=true
       ·subst c8
        rw [if_pos rfl] at H
        have H':=zz H
        clear H
        try go_wp2
        have n0:=zz (zR HB.1)
        clear HB
        have HB:=n0
        clear n0
        have p0:0≤(x0:Int):=z8 zq21
        have q0:x0<(l0.length:Int):=z8 zq21
        obtain ⟨b0,A4,c11,e0,k0,k2,k3,k4,k5,hl136_4,hi136_4⟩:=zgc HR0.1 x0 p0 q0
        have h0:=k5
        have h2:=k4
        have h3:=k3
        have h4:=k2
        have h5:=k0
        cases e0
        replace k0:=(HB.1.cell (z0a w _ k0)).trans k0
        replace k2:=(HB.1.cell (z0a w _ k2)).trans k2
        replace k3:=(HB.1.cell (z0a w _ k3)).trans k3
        replace k4:=(HB.1.cell (z0a w _ k4)).trans k4
        replace k5:=(HB.1.cell (z0a w _ k5)).trans k5
        have R0:=zz hi136_4
        have C0:=zz hl136_4
        clear hi136_4 hl136_4
        replace p0:=eq_true p0
        replace q0:=eq_true q0
        have p1:0≤(x0:Int):=z8 zq21
        have q1:x0<(l1.length:Int):=z8 zq21
        obtain ⟨b1,A5,c12,e1,k6,k7,k8,k9,k10,hl137_4,hi137_4⟩:=zgc HR1.1 x0 p1 q1
        have h6:=k10
        have h7:=k9
        have h8:=k8
        have h9:=k7
        have h10:=k6
        cases e1
        replace k6:=(HB.1.cell (z0a w _ k6)).trans k6
        replace k7:=(HB.1.cell (z0a w _ k7)).trans k7
        replace k8:=(HB.1.cell (z0a w _ k8)).trans k8
        replace k9:=(HB.1.cell (z0a w _ k9)).trans k9
        replace k10:=(HB.1.cell (z0a w _ k10)).trans k10
        have R1:=zz hi137_4
        have C1:=zz hl137_4
        clear hi137_4 hl137_4
        replace p1:=eq_true p1
        replace q1:=eq_true q1
        refine zVb (n:=10) (S:=fun w'=>w'.cell? (b0.add ((x0).toNat*5))=some (.int .i64 ((zE l0 x0).f0))∧w'.cell? ⟨(b0.add ((x0).toNat*5)).block,(b0.add ((x0).toNat*5)).off+1,none⟩=some (.int .i64 ((zE l0 x0).f1.f0))∧w'.cell? ⟨(b0.add ((x0).toNat*5)).block,(b0.add ((x0).toNat*5)).off+2,none⟩=some (.int .i64 ((zE l0 x0).f1.f1))∧w'.cell? ⟨(b0.add ((x0).toNat*5)).block,(b0.add ((x0).toNat*5)).off+3,none⟩=some (.int .i64 ((zE l0 x0).f1.f2))∧w'.cell? ⟨(b0.add ((x0).toNat*5)).block,(b0.add ((x0).toNat*5)).off+4,none⟩=some (.slice A4 ((zE l0 x0).f1.f3).length c11)∧w'.cell? (b1.add ((x0).toNat*5))=some (.int .i64 ((zE l1 x0).f0))∧w'.cell? ⟨(b1.add ((x0).toNat*5)).block,(b1.add ((x0).toNat*5)).off+1,none⟩=some (.int .i64 ((zE l1 x0).f1.f0))∧w'.cell? ⟨(b1.add ((x0).toNat*5)).block,(b1.add ((x0).toNat*5)).off+2,none⟩=some (.int .i64 ((zE l1 x0).f1.f1))∧w'.cell? ⟨(b1.add ((x0).toNat*5)).block,(b1.add ((x0).toNat*5)).off+3,none⟩=some (.int .i64 ((zE l1 x0).f1.f2))∧w'.cell? ⟨(b1.add ((x0).toNat*5)).block,(b1.add ((x0).toNat*5)).off+4,none⟩=some (.slice A5 ((zE l1 x0).f1.f3).length c12)) (ds:=[]) #[false,false,false,false,false,false,false,false,false,false] zq13 rfl rfl ⟨((HB.1.cell (z0a w _ h5)).trans h5),((HB.1.cell (z0a w _ h4)).trans h4),((HB.1.cell (z0a w _ h3)).trans h3),((HB.1.cell (z0a w _ h2)).trans h2),((HB.1.cell (z0a w _ h0)).trans h0),((HB.1.cell (z0a w _ h10)).trans h10),((HB.1.cell (z0a w _ h9)).trans h9),((HB.1.cell (z0a w _ h8)).trans h8),((HB.1.cell (z0a w _ h7)).trans h7),((HB.1.cell (z0a w _ h6)).trans h6)⟩ (fun hHeld=> ?_);refine zYa laws_eqReaderS.tab6 laws_eqReaderS.bits6 (fun HT_ HW_=> ?_)
        generalize wr.drew=w9 at HB R0 R1 k0 k2 k3 k4 k5 k6 k7 k8 k9 k10 hHeld ⊢
        refine zia (i:=0) (N:=some 17) (v:= ?_) (a':= ?_) #[true,false,false,false,false,false,false,false,false,false] rfl rfl (zQ HT_.1 zq13) (fun _ _ _ h=>h) (Or.inl ⟨zq22,zq12⟩) zq10 ?_
        refine zia (i:=1) (N:=some 18) (v:= ?_) (a':= ?_) #[true,true,false,false,false,false,false,false,false,false] rfl rfl (zQ HT_.1 zq13) (fun _ _ _ h=>h) (Or.inl ⟨zq22,zq12⟩) zq10 ?_
        refine zia (i:=2) (N:=some 19) (v:= ?_) (a':= ?_) #[true,true,true,false,false,false,false,false,false,false] rfl rfl (zQ HT_.1 zq13) (fun _ _ _ h=>h) (Or.inl ⟨zq22,zq12⟩) zq10 ?_
        refine zia (i:=4) (N:=some 21) (v:= ?_) (a':= ?_) #[true,true,true,false,true,false,false,false,false,false] rfl rfl (zQ HT_.1 zq13) (fun _ _ _ h=>h) (Or.inl ⟨zq22,zq12⟩) zq10 ?_
        refine zia (i:=5) (N:=some 22) (v:= ?_) (a':= ?_) #[true,true,true,false,true,true,false,false,false,false] rfl rfl (zQ HT_.1 zq13) (fun _ _ _ h=>h) (Or.inl ⟨zq22,zq12⟩) zq10 ?_
        refine zia (i:=6) (N:=some 23) (v:= ?_) (a':= ?_) #[true,true,true,false,true,true,true,false,false,false] rfl rfl (zQ HT_.1 zq13) (fun _ _ _ h=>h) (Or.inl ⟨zq22,zq12⟩) zq10 ?_
        refine take_ (i:=3) (N:=some 20) (v:= ?_) (a':= ?_) #[true,true,true,true,true,true,true,false,false,false] rfl rfl (zja HT_.1 HW_.1 zq13) (fun _ _ _ h=>h) (Or.inl ⟨zq22,by rintro w' ⟨s0,s1,s2,s3,s4,s5,s6,s7,s8,s9⟩;go_simp;with_reducible rfl⟩) hHeld zq10 ?_
        refine take_ (i:=7) (N:=some 24) (v:= ?_) (a':= ?_) #[true,true,true,true,true,true,true,true,false,false] rfl rfl (zja HT_.1 HW_.1 zq13) (fun _ _ _ h=>h) (Or.inl ⟨zq22,by rintro w' ⟨s0,s1,s2,s3,s4,s5,s6,s7,s8,s9⟩;go_simp;with_reducible rfl⟩) hHeld zq10 ?_
        refine one_ (i:=8) (N:=some 25) #[true,true,true,true,true,true,true,true,true,false] rfl rfl (zVa HT_.1 zq13) zq31 (fun K hK=> ?_)
        refine goes_ Tryz.func112 zq13 rfl #[.agg #[.int .i64 ((zE l0 x0).f0),.int .i64 ((zE l0 x0).f1.f0),.int .i64 ((zE l0 x0).f1.f1),.int .i64 ((zE l0 x0).f1.f2),.slice A4 ((zE l0 x0).f1.f3).length c11],.agg #[.int .i64 ((zE l1 x0).f0),.int .i64 ((zE l1 x0).f1.f0),.int .i64 ((zE l1 x0).f1.f1),.int .i64 ((zE l1 x0).f1.f2),.slice A5 ((zE l1 x0).f1.f3).length c12]] zq22 rfl rfl zq8 ?_
        with_reducible refine (laws_eqReader.calls k1 ((zE l0 x0).f0) ((zE l0 x0).f1.f0) ((zE l0 x0).f1.f1) ((zE l0 x0).f1.f2) _ _ ((zE l0 x0).f1.f3) ((zE l1 x0).f0) ((zE l1 x0).f1.f0) ((zE l1 x0).f1.f1) ((zE l1 x0).f1.f2) _ _ ((zE l1 x0).f1.f3) true _ ?side1 ?side2 ?side3 ?side4 A7.1).mono ?_
        (case side1=>repeat (first|exact (Kd.C_below R0.1 HB.1)|(with_reducible refine Kd.C_alloc ?_ _)|(with_reducible refine Kd.C_drewN ?_ _)|(with_reducible refine Kd.C_drew ?_)))
        (case side2=>exact C0.1)
        (case side3=>repeat (first|exact (Kd.C_below R1.1 HB.1)|(with_reducible refine Kd.C_alloc ?_ _)|(with_reducible refine Kd.C_drewN ?_ _)|(with_reducible refine Kd.C_drew ?_)))
        (case side4=>exact C1.1)
        rintro e w10 ⟨rfl,hb⟩
        refine ⟨_,rfl,?_⟩
        have n0:=zz (ze zq0 hb)
        clear HB
        have HB:=n0
        clear n0
        (try clear hb)
        (try clear hb2)
        (try clear hk)
        (try clear hi)
        refine hK.out _ _ ⟨((HB.1.cell (z0a w _ h5)).trans h5),((HB.1.cell (z0a w _ h4)).trans h4),((HB.1.cell (z0a w _ h3)).trans h3),((HB.1.cell (z0a w _ h2)).trans h2),((HB.1.cell (z0a w _ h0)).trans h0),((HB.1.cell (z0a w _ h10)).trans h10),((HB.1.cell (z0a w _ h9)).trans h9),((HB.1.cell (z0a w _ h8)).trans h8),((HB.1.cell (z0a w _ h7)).trans h7),((HB.1.cell (z0a w _ h6)).trans h6)⟩ (fun hHeld=> ?_)
        clear hK K
        refine zUb (a':= ?_) ?_ ?_
        rotate_left
        ·show Act.put _ (some 25) _=_
         exact zq146
        exact zq151
       ·replace c8:=Bool.eq_false_iff.mpr c8
        subst c8
        exact zq163
      ·exact zq201
     ·exact zq155
    ·exact zq152
 ·exact zq166
def laws_heldFreeS.l0:Nat→List (S112)→Int→Int→Option (Int)
 |0,_,_,_=>none
 |k+1,x0,x1,x5=>if x5<(x0.length:Int) then (if 0≤x5 then (if ((zF x0 x5).f0)=x1 then ((laws_heldIntS.f k ((zF x0 x5).f1) (wrap64 (x1+1))).bind fun t172=>(if t172<0 then (none) else (laws_heldFreeS.l0 k x0 t172 (wrap64 (x5+1))))) else (none)) else (none)) else (some x1)
def laws_heldFreeS.f (k:Nat) (l0:List (S112)) (a1:Int):Option (Int):=laws_heldFreeS.l0 k l0 a1 0
theorem laws_heldFreeS.calls (k:Nat) (A0:Option Addr) (c0:Nat) (l0:List (S112)) (a1:Int) (r:Int) (w:World) (hr0:Kd.C k112 w A0 l0.length l0) (hc0:l0.length≤c0) (h:laws_heldFreeS.f k l0 a1=some r):
  Calls Tryz.prog 58 #[.slice A0 l0.length c0,.int .i64 a1] w fun e w'=>e= .returned (.int .i64 r)∧Drawn0 w w':=by
 have HR0:=zz hr0
 clear hr0 hc0
 have H:(laws_heldFreeS.l0 k l0 a1 0)=some r:=h
 clear h
 have H':=zz H
 clear H
 go_enter Tryz.func58,Tryz.ntmps58
 go_wp2
 go_loopg [1,5] k (fun kq v1 v5 w'=>∃(x0:Int) (x1:Int),v1= .int .i64 x0∧v5= .int .i64 x1∧Z0 (laws_heldFreeS.l0 kq l0 x0 x1=some r)∧Z0 (kq≤k)∧Drawn0 w w')
 case atStart=>exact ⟨(a1),(0),zq18,zq18,H',⟨z3a _⟩,zq33⟩
 case round=>
  clear H'
  obtain ⟨x0,x1,rfl,rfl,HA,HK1,⟨m1,rfl⟩⟩:=hrel
  cases gk with
  |zero=>exact absurd HA.1 (by simp [laws_heldFreeS.l0])
  |succ k1=>
   have H:=HA.1
   clear HA
   simp only [laws_heldFreeS.l0] at H
   by_cases c3:x1<(l0.length:Int)
   ·rw [if_pos c3] at H
    have c3b0:=z6 c3
    clear c3
    by_cases c4:0≤x1
    ·rw [if_pos c4] at H
     have c4b0:=z6 c4
     clear c4
     by_cases c5:((zF l0 x1).f0)=x0
     ·rw [if_pos c5] at H
      have c5b0:(((zF l0 x1).f0)==x0)=true:=beq_iff_eq.mpr c5
      have c5b1:(((zF l0 x1).f0) !=x0)=false:=bne_eq_false_iff_eq.mpr c5
      clear c5
      replace H:=z2a H
      obtain ⟨t0,A1,H⟩:=H
      replace H:(if t0<0 then (none) else (laws_heldFreeS.l0 k1 l0 t0 (wrap64 (x1+1))))=some r:=H
      have A6:=zz A1
      clear A1
      by_cases c7:t0<0
      ·rw [if_pos c7] at H
       exact absurd H zq38
      ·rw [if_neg c7] at H
       have c7b0:=z7 c7
       clear c7
       have H':=zz H
       clear H
       have p0:0≤(x1:Int):=z8 zq21
       have q0:x1<(l0.length:Int):=z8 zq21
       obtain ⟨b0,A2,c1,e0,hx170_0,k0,hl170_1,hi170_1⟩:=zxb HR0.1 x1 p0 q0
       cases e0
       clear hi170_1 hl170_1
       replace p0:=eq_true p0
       replace q0:=eq_true q0
       have p1:0≤(x1:Int):=z8 zq21
       have q1:x1<(l0.length:Int):=z8 zq21
       obtain ⟨b1,A171_1,c171_1,e1,hx171_0,k2,hl171_1,hi171_1⟩:=zxb HR0.1 x1 p1 q1
       obtain rfl:b0=b1:=(by injection e1)
       have R0:=zz hi171_1
       have C0:=zz hl171_1
       clear hi171_1 hl171_1
       replace p1:=eq_true p1
       replace q1:=eq_true q1
       have ea_:=z6a (k0.symm.trans k2)
       injection ea_ with ea_ en_ ec_
       subst ea_
       subst ec_
       clear en_
       go_wp2_with (first|((with_reducible refine zr (f:=102) rfl ?_);refine zN (some 27) rfl rfl Tryz.func102 zq13 rfl #[.slice A2 ((zF l0 x1).f1).length c1,.int .i64 (wrap64 (x0+1))] rfl zq8 ?_;(with_reducible refine (laws_heldIntS.calls k1 _ _ ((zF l0 x1).f1) (wrap64 (x0+1)) t0 _ ?side1 ?side2 A6.1).mono ?_);(case side1=>repeat (first|exact R0.1|(with_reducible refine Kd.C_alloc ?_ _)|(with_reducible refine Kd.C_drewN ?_ _)|(with_reducible refine Kd.C_drew ?_)));(case side2=>exact C0.1);rintro e w' ⟨rfl,⟨nd,rfl⟩⟩;refine ⟨_,rfl,?_⟩))
       exact zq216
     ·exact zq155
    ·exact zq161
   ·exact zq154
def laws_heldMeta.f (k:Nat) (a0_0:Int) (a0_1:Int) (a0_2:Int) (l0_3:List (S112)) (a1:Int):Option (Int):=(laws_heldFreeS.f k l0_3 a1).bind fun t174=>(if t174<0 then (none) else (some t174))
theorem laws_heldMeta.calls (k:Nat) (a0:Int) (a2:Int) (a3:Int) (A0:Option Addr) (c0:Nat) (l2:List (S112)) (a1:Int) (r:Int) (w:World) (r0:Kd.C k112 w A0 l2.length l2) (h0:l2.length≤c0) (h:laws_heldMeta.f k a0 a2 a3 l2 a1=some r):
  Calls Tryz.prog 17 #[.agg #[.int .i64 a0,.int .i64 a2,.int .i64 a3,.slice A0 l2.length c0],.int .i64 a1] w fun e w'=>e= .returned (.int .i64 r)∧Below w.heap.size w w':=by
 have hu53:=Tryz.underlying40
 have R0:=zz r0
 have C0:=zz h0
 clear r0 h0
 have HB:=zz (z1a w.heap.size w)
 have H:((laws_heldFreeS.f k l2 a1).bind fun t0=>(if t0<0 then (none) else (some t0)))=some r:=h
 clear h
 replace H:=z2a H
 obtain ⟨t0,A1,H⟩:=H
 replace H:(if t0<0 then (none) else (some t0))=some r:=H
 have A3:=zz A1
 clear A1
 by_cases c4:t0<0
 ·rw [if_pos c4] at H
  exact absurd H zq38
 ·rw [if_neg c4] at H
  have c4b0:=z7 c4
  clear c4
  obtain rfl:=z6a H
  go_enter Tryz.func17,Tryz.ntmps17
  go_wp2_with (first|((with_reducible refine zd (N:=2) rfl ?_);refine zx rfl (N:=2) rfl (cs:= #[.int .i64 a0,.int .i64 a2,.int .i64 a3,.slice A0 l2.length c0]) (t:=40) zq27 ?_;intro g0 hg w5 hbox hb;have B0:=zz hbox;have G0:=zz (zq15:w.heap.size≤g0);replace HB:=zz (ze zq0 hb);clear hb hbox hg;obtain ⟨_,_,_,_,_,_,_,_⟩:=zcell4 B0.1)|((with_reducible refine zr (f:=58) rfl ?_);refine zN (some 8) rfl rfl Tryz.func58 zq13 rfl #[.slice A0 l2.length c0,.int .i64 a1] rfl zq8 ?_;(with_reducible refine (laws_heldFreeS.calls k _ _ l2 a1 t0 _ ?side1 ?side2 A3.1).mono ?_);(case side1=>repeat (first|exact (Kd.C_below R0.1 HB.1)|(with_reducible refine Kd.C_alloc ?_ _)|(with_reducible refine Kd.C_drewN ?_ _)|(with_reducible refine Kd.C_drew ?_)));(case side2=>exact C0.1);rintro e w' ⟨rfl,⟨nd,rfl⟩⟩;refine ⟨_,rfl,?_⟩))
  exact zq153
theorem markIntS_Q (k:Nat) (P0_:Nat→Prop) (u0:Value) (l0:List Int) (a1:Int) (r1:Int) (r2:List Int) (w0 w:World) (hB:Below w0.heap.size w0 w) (ho0:Kd.Q (Kd.int .i64) 3 w w0.heap.size P0_ u0 l0) (h:laws_markIntS.f k l0 a1=some (r1,r2)):
  Calls Tryz.prog 100 #[u0,.int .i64 a1] w fun e w'=>e= .returned (.int .i64 r1)∧Kd.Q (Kd.int .i64) 3 w' w0.heap.size (fun k_=>(P0_ k_∨w.heap.size≤k_)) u0 r2∧Below w0.heap.size w0 w'∧Kept w w' (fun k_=>P0_ k_):=by
 have HO0:=zz (show Kd.Q (Kd.int .i64) 3 w w0.heap.size (fun k_=>(P0_ k_∨w.heap.size≤k_)) u0 l0 from Kd.Q_mono ho0 (fun k_ hk=>(.inl hk)))
 have HK:=zz (Kept.refl w (fun k_=>P0_ k_))
 have HB:=zz hB
 clear hB
 have H:(laws_markIntS.l0 k l0 a1 0)=some (r1,r2):=h
 clear h
 have H':=zz H
 clear H
 go_enter Tryz.func100,Tryz.ntmps100
 go_wp2
 go_loopg [1,5] k (fun kq v1 v5 w'=>∃(x0:List Int) (x1:Int) (x2:Int),v1= .int .i64 x1∧v5= .int .i64 x2∧Z0 (laws_markIntS.l0 kq x0 x1 x2=some (r1,r2))∧Z0 (kq≤k)∧Z0 (Kd.Q (Kd.int .i64) 3 w' w0.heap.size (fun k_=>(P0_ k_∨w.heap.size≤k_)) u0 x0)∧Z0 (Kept w w' (fun k_=>P0_ k_))∧Z0 (Below w0.heap.size w0 w'))
 case atStart=>exact ⟨(l0),(a1),(0),zq18,zq18,H',⟨z3a _⟩,⟨by (with_reducible repeat (first|apply Kd.Q_alloc|apply Kd.Q_drewN|apply Kd.Q_drew));exact HO0.1⟩,⟨zq30⟩,⟨zq0⟩⟩
 case round=>
  clear H'
  obtain ⟨x0,x1,x2,rfl,rfl,HA,HK1,O0,HK,HB⟩:=hrel
  cases gk with
  |zero=>exact absurd HA.1 (by simp [laws_markIntS.l0])
  |succ k1=>
   have H:=HA.1
   clear HA
   simp only [laws_markIntS.l0] at H
   by_cases c3:x2<(x0.length:Int)
   ·rw [if_pos c3] at H
    have c3b0:=z6 c3
    clear c3
    by_cases c4:0≤x2
    ·rw [if_pos c4] at H
     have c4b0:=z6 c4
     clear c4
     obtain ⟨y0,i0⟩:∃y_:List Int,y_=(x0.set (x2:Int).toNat x1):=⟨_,rfl⟩
     replace H:(laws_markIntS.l0 k1 y0 (wrap64 (x1+1)) (wrap64 (x2+1)))=some (r1,r2):=zq20
     have Y0:=zz i0
     clear i0
     have H':=zz H
     clear H
     obtain ⟨Ao6,co6,eo6,_⟩:=Kd.Q_slice O0.1
     subst eo6
     have p5:0≤(x2:Int):=z8 zq21
     have q5:(x2:Int)<((x0.length:Int):Int):=z8 zq21
     obtain ⟨go5,oo5,co5,eo5,gb5,gl5,cl5,HG5⟩:=Kd.Q_form O0.1 zq9
     (first|cases eo5|(injection eo5 with ea_ en_ ec_;(first|subst ea_|(injection ea_ with ea_;subst ea_));subst ec_;clear en_))
     have GB5:=zz gb5
     clear gb5 gl5 HG5
     obtain ⟨hx5_0,hf5_0⟩:=Kd.Q_cell 0 O0.1 (x2:Int) p5 q5
     have p5q:=p5
     have q5q:=q5
     replace p5:=eq_true p5
     replace q5:=eq_true q5
     have HP7:=Kd.Q_putg O0.1 (x2:Int) p5q q5q x1
     go_wp2_with (first|((with_reducible refine zm (t:=3) (p:=15) rfl ?_);refine zGa (t:=3) (p:=15) (v:= ?vo_w8) (w1:=(wr.setCell ⟨go5,oo5+(x2:Int).toNat,none⟩ (.int .i64 x1))) ?hg ?ho ?hn ?hr ?_;(case ho=>rfl);(case hg=>rfl);(case hn=>rfl);(case hr=>first|(go_simp;done)|(go_simp;rfl));intro w8 hw;have hg:wr.grownBy w8 (some go5):=(by rw [hw];exact HP7.2);have hp_:Kd.Q (Kd.int .i64) 3 w8 w0.heap.size (fun k_=>(P0_ k_∨w.heap.size≤k_)) (.slice (some ⟨go5,oo5,none⟩) x0.length co6) y0:=(by rw [hw,Y0.1];exact HP7.1);clear HP7;replace HB:=zz (zq108 GB5.1:Below w0.heap.size w0 w8);replace HK:=zz (Kept.of_grown (S:=(fun k_=>P0_ k_)) hg zq30 (fun k_ e_=>(O0.1.1 k_ e_)));replace O0:=zz hp_;clear hg hw hp_))
     go_roundg k1
     case measure=>have:=HK1.1;omega
     case rel=>exact ⟨(y0),(wrap64 (x1+1)),(wrap64 (x2+1)),zq18,zq18,H',⟨zq51 HK1.1⟩,⟨by (with_reducible repeat (first|apply Kd.Q_alloc|apply Kd.Q_drewN|apply Kd.Q_drew));exact O0.1⟩,⟨zq30⟩,⟨zq0⟩⟩
    ·exact zq161
   ·rw [if_neg c3] at H
    have c3b0:=z7 c3
    clear c3
    simp only [Option.some.injEq,Prod.mk.injEq] at H
    obtain ⟨rfl,rfl⟩:=H
    obtain ⟨Ao9,co9,eo9,_⟩:=Kd.Q_slice O0.1
    subst eo9
    go_wp2
    go_ret
    exact ⟨zq16,by (with_reducible repeat (first|apply Kd.Q_alloc|apply Kd.Q_drewN|apply Kd.Q_drew));exact O0.1,zq0,zq30⟩
def markF.l0:Nat→List S112→Int→Int→Option (Int×List S112)
 |0,_,_,_=>none
 |k+1,xs,a,i=>if i<(xs.length:Int) then (if 0≤i then (laws_markIntS.f k (zF xs i).f1 (wrap64 (a+1))).bind fun b=>markF.l0 k (xs.set i.toNat (⟨a,b.2⟩:S112)) b.1 (wrap64 (i+1)) else none) else some (a,xs)
theorem markFreeS_o (k:Nat) (ok:Nat→Prop) (v:Value) (l0:List S112) (a r:Int) (r2:List S112) (w0 w:World) (hB:Below w0.heap.size w0 w) (hS:Kd.S k112 112 w w0.heap.size ok v l0) (h:markF.l0 k l0 a 0=some (r,r2)):
  Calls Tryz.prog 55 #[v,.int .i64 a] w fun e w'=>e= .returned (.int .i64 r)∧Kd.S k112 112 w' w0.heap.size ok v r2∧Below w0.heap.size w0 w'∧Kept w w' ok:=by
 obtain ⟨A,cc,rfl⟩:=Kd.S_slice hS
 have HO:=zz hS
 have HK:=zz (Kept.refl w ok)
 have HB:=zz hB
 have H':=zz h
 clear h hB hS
 go_enter Tryz.func55,Tryz.ntmps55
 go_wp2
 go_loopg [1,5] k (fun kq v1 v5 w'=>∃(xs:List S112) (x1:Int) (x5:Int),v1= .int .i64 x1∧v5= .int .i64 x5∧Z0 (markF.l0 kq xs x1 x5=some (r,r2))∧Z0 (kq≤k)∧Z0 (Kd.S k112 112 w' w0.heap.size ok (.slice A l0.length cc) xs)∧Z0 (Kept w w' ok)∧Z0 (Below w0.heap.size w0 w'))
 case atStart=>exact ⟨l0,a,0,rfl,rfl,H',⟨z3a _⟩,HO,HK,HB⟩
 case round=>
  clear H' HO HK HB
  obtain ⟨xs,x1,x5,rfl,rfl,HA,HK1,HO,HK,HB⟩:=hrel
  have hlen:=zz (Kd.S_reads' HO.1).1
  cases gk with
  |zero=>exact absurd HA.1 (by simp [markF.l0])
  |succ k1=>
   have H:=HA.1
   clear HA
   simp only [markF.l0,←hlen.out] at H
   by_cases c3:x5<(l0.length:Int)
   ·rw [if_pos c3] at H
    by_cases c4:0≤x5
    ·rw [if_pos c4] at H
     obtain ⟨⟨t,ys⟩,A0,H⟩:=z2a H
     have MA:=zz A0
     have H':=zz H
     clear A0 H
     have c3b:=z6 c3
     have c4b:=z6 c4
     have c3x:x5<(xs.length:Int):=by rw [←hlen.out];exact c3
     obtain ⟨g,cap,hv,gb,gl,cl,HG⟩:=Kd.S_form HO.1 zq9
     injection hv with hA hn hc;subst hA;subst hc;clear hn
     obtain ⟨oki,c,hcl,hM,hcc,hfr,hoki,hH⟩:=Kd.S_elem HO.1 z112 x5 c4 c3
     obtain ⟨el,hel⟩:∃el,el=xs.getD x5.toNat z112:=⟨_,rfl⟩
     rw [←hel] at hM
     have hel2:zF xs x5=el:=hel.symm
     rw [hel2] at MA
     clear hel hel2
     obtain ⟨v1,rfl,R1⟩:=k112_openM hM
     obtain ⟨A1,c1,rfl⟩:=Kd.R_slice R1
     have hx0:=hcc 0 _ rfl
     have hx1:=hcc 1 _ rfl
     have hf0:=hfr 0
     have hf1:=hfr 1
     rw [show k112.sz=2 from rfl,Nat.add_zero] at hx0 hf0
     rw [show k112.sz=2 from rfl] at hx1 hf1
     have hP:=Kd.H_seg hH c4 c3 (seg:=[.int .i64 x1]) (j:=0) (show 0+1≤2 from by decide) (by intro q hq;rw [List.mem_singleton.1 hq];rfl)
     rw [show k112.sz=2 from rfl,Nat.add_zero] at hP
     have HH:=zz (show Kd.H k112 112 (wr.setCell ⟨g,x5.toNat*2,none⟩ (.int .i64 x1)) w0.heap.size ok (.slice (some ⟨g,0,none⟩) l0.length cc) xs x5 oki [.int .i64 x1,.slice A1 el.f1.length c1] from hP.1)
     have HGr:=zz (show wr.grownBy (wr.setCell ⟨g,x5.toNat*2,none⟩ (.int .i64 x1)) (some g) from hP.2)
     have hok:=HO.1.choose_spec.1 g rfl
     have OKI:=zz hoki
     have RI:=zz R1
     have GB:=zz gb
     have OG:=zz hok
     clear hcc hfr hoki hH hM R1 hcl hP HO c3x hok gb H
     go_wp2_with fail
     clear hx0 hx1 hf0 hf1
     obtain ⟨W1,hW1⟩:∃W,W=wr.setCell ⟨g,x5.toNat*2,none⟩ (.int .i64 x1):=⟨_,rfl⟩
     rw [←hW1] at HH HGr
     rw [←hW1]
     clear hW1
     have n0:=zz (Kept.of_grown HGr.1 HK.1 (fun k e=>by injection e with e;subst e;exact .inl OG.1))
     have n1:=zz (Below.grown HB.1 HGr.1 (Below.size HB.1) (fun k e=>by injection e with e;subst e;exact GB.1))
     have n2:=zz (Kd.R_grown RI.1 HGr.1 (fun k hk e=>by injection e with e;exact (OKI.1 k hk).2 e))
     clear HK HB RI HGr
     ((with_reducible refine (laws_markIntS.calls k1 oki _ el.f1 (wrap64 (x1+1)) t ys w0 _ n1.out n2.out MA.1).mono ?_);rintro e w2 ⟨rfl,hR,hB2,hK2⟩)
     have HB:=zz hB2
     have HK:=zz (Kept.then_ n0.out hK2 (fun k h=> .inl (OKI.1 k h).1))
     have RI:=zz (Own.R_tight2 rfl hR n2.out.1)
     have H2:=zz (Kd.H_step HH.1 (fun k h1 h2 h3=>hK2.2 k h3 h2))
     have HS:=zz (Kd.H_back H2.1 (x':=(⟨x1,ys⟩:S112)) (okp:=oki) (by
      have hl:=(Kd.R_reads' RI.1).1
      rw [hl]
      have h3:=RI.1
      rw [hl] at h3
      exact zyb _ _ _ (⟨x1,ys⟩:S112) h3) (fun _ h=>h))
     exact zq205
    ·exact zq161
   ·exact zq204
def markR.l0:Nat→List S135→Int→Int→Option (Int×List S135)
 |0,_,_,_=>none
 |k+1,xs,x1,i=>if i<(xs.length:Int) then (if 0≤i then (markF.l0 k (zE xs i).f1.f3 (wrap64 (wrap64 (wrap64 (wrap64 (x1+1)+1)+1)+1)) 0).bind fun b=>markR.l0 k (xs.set i.toNat (⟨x1,(⟨(wrap64 (x1+1)),(wrap64 (wrap64 (x1+1)+1)),(wrap64 (wrap64 (wrap64 (x1+1)+1)+1)),b.2⟩:S40)⟩:S135)) b.1 (wrap64 (i+1)) else none) else some (x1,xs)
theorem markReaderS_o (k:Nat) (ok:Nat→Prop) (v:Value) (l0:List S135) (a r:Int) (r2:List S135) (w0 w:World) (hB:Below w0.heap.size w0 w) (hS:Kd.S k135 135 w w0.heap.size ok v l0) (h:markR.l0 k l0 a 0=some (r,r2)):
  Calls Tryz.prog 72 #[v,.int .i64 a] w fun e w'=>e= .returned (.int .i64 r)∧Kd.S k135 135 w' w0.heap.size ok v r2∧Below w0.heap.size w0 w'∧Kept w w' ok:=by
 obtain ⟨A,cc,rfl⟩:=Kd.S_slice hS
 have HO:=zz hS
 have HK:=zz (Kept.refl w ok)
 have HB:=zz hB
 have H':=zz h
 clear h hB hS
 go_enter Tryz.func72,Tryz.ntmps72
 go_wp2
 go_loopg [1,5] k (fun kq v1 v5 w'=>∃(xs:List S135) (x1:Int) (x5:Int),v1= .int .i64 x1∧v5= .int .i64 x5∧Z0 (markR.l0 kq xs x1 x5=some (r,r2))∧Z0 (kq≤k)∧Z0 (Kd.S k135 135 w' w0.heap.size ok (.slice A l0.length cc) xs)∧Z0 (Kept w w' ok)∧Z0 (Below w0.heap.size w0 w'))
 case atStart=>exact ⟨l0,a,0,rfl,rfl,H',⟨z3a _⟩,HO,HK,HB⟩
 case round=>
  clear H' HO HK HB
  obtain ⟨xs,x1,x5,rfl,rfl,HA,HK1,HO,HK,HB⟩:=hrel
  have hlen:=zz (Kd.S_reads' HO.1).1
  cases gk with
  |zero=>exact absurd HA.1 (by simp [markR.l0])
  |succ k1=>
   have H:=HA.1
   clear HA
   simp only [markR.l0,←hlen.out] at H
   by_cases c3:x5<(l0.length:Int)
   ·rw [if_pos c3] at H
    by_cases c4:0≤x5
    ·rw [if_pos c4] at H
     obtain ⟨⟨t,ys⟩,A0,H⟩:=z2a H
     have MA:=zz A0
     have H':=zz H
     clear A0 H
     have c3b:=z6 c3
     have c4b:=z6 c4
     have c3x:x5<(xs.length:Int):=by rw [←hlen.out];exact c3
     obtain ⟨g,cap,hv,gb,gl,cl,HG⟩:=Kd.S_form HO.1 zq9
     injection hv with hA hn hc;subst hA;subst hc;clear hn
     obtain ⟨oki,c,hcl,hM,hcc,hfr,hoki,hH⟩:=Kd.S_elem HO.1 z135 x5 c4 c3
     obtain ⟨el,hel⟩:∃el,el=xs.getD x5.toNat z135:=⟨_,rfl⟩
     rw [←hel] at hM
     have hel2:zE xs x5=el:=hel.symm
     rw [hel2] at MA
     clear hel hel2
     obtain ⟨v1,rfl,R1⟩:=k135_openM hM
     obtain ⟨A1,c1,rfl⟩:=Kd.S_slice R1
     have hx0:=hcc 0 _ rfl
     have hf0:=hfr 0
     have hx1:=hcc 1 _ rfl
     have hf1:=hfr 1
     have hx2:=hcc 2 _ rfl
     have hf2:=hfr 2
     have hx3:=hcc 3 _ rfl
     have hf3:=hfr 3
     have hx4:=hcc 4 _ rfl
     have hf4:=hfr 4
     rw [show k135.sz=5 from rfl,Nat.add_zero] at hx0 hf0
     rw [show k135.sz=5 from rfl] at hx1 hf1 hx2 hf2 hx3 hf3 hx4 hf4
     have hP:=Kd.H_seg hH c4 c3 (seg:=[.int .i64 x1,.int .i64 (wrap64 (x1+1)),.int .i64 (wrap64 (wrap64 (x1+1)+1)),.int .i64 (wrap64 (wrap64 (wrap64 (x1+1)+1)+1))]) (j:=0) (show 0+4≤5 from by decide) (by intro q hq;simp only [List.mem_cons,List.not_mem_nil,or_false] at hq;rcases hq with rfl|rfl|rfl|rfl<;>rfl)
     rw [show k135.sz=5 from rfl,Nat.add_zero] at hP
     have HH:=zz (show Kd.H k135 135 ((((wr.setCell ⟨g,x5.toNat*5,none⟩ (.int .i64 x1)).setCell ⟨g,x5.toNat*5+1,none⟩ (.int .i64 (wrap64 (x1+1)))).setCell ⟨g,x5.toNat*5+2,none⟩ (.int .i64 (wrap64 (wrap64 (x1+1)+1)))).setCell ⟨g,x5.toNat*5+3,none⟩ (.int .i64 (wrap64 (wrap64 (wrap64 (x1+1)+1)+1)))) w0.heap.size ok (.slice (some ⟨g,0,none⟩) l0.length cc) xs x5 oki [.int .i64 x1,.int .i64 (wrap64 (x1+1)),.int .i64 (wrap64 (wrap64 (x1+1)+1)),.int .i64 (wrap64 (wrap64 (wrap64 (x1+1)+1)+1)),.slice A1 el.f1.f3.length c1] from hP.1)
     have HGr:=zz (show wr.grownBy ((((wr.setCell ⟨g,x5.toNat*5,none⟩ (.int .i64 x1)).setCell ⟨g,x5.toNat*5+1,none⟩ (.int .i64 (wrap64 (x1+1)))).setCell ⟨g,x5.toNat*5+2,none⟩ (.int .i64 (wrap64 (wrap64 (x1+1)+1)))).setCell ⟨g,x5.toNat*5+3,none⟩ (.int .i64 (wrap64 (wrap64 (wrap64 (x1+1)+1)+1)))) (some g) from hP.2)
     have hok:=HO.1.choose_spec.1 g rfl
     have OKI:=zz hoki
     have RI:=zz R1
     have GB:=zz gb
     have OG:=zz hok
     clear hcc hfr hoki hH hM R1 hcl hP HO c3x hok gb H
     go_wp2_with fail
     clear hx0 hx1 hx2 hx3 hx4 hf0 hf1 hf2 hf3 hf4
     obtain ⟨W1,hW1⟩:∃W,W=((((wr.setCell ⟨g,x5.toNat*5,none⟩ (.int .i64 x1)).setCell ⟨g,x5.toNat*5+1,none⟩ (.int .i64 (wrap64 (x1+1)))).setCell ⟨g,x5.toNat*5+2,none⟩ (.int .i64 (wrap64 (wrap64 (x1+1)+1)))).setCell ⟨g,x5.toNat*5+3,none⟩ (.int .i64 (wrap64 (wrap64 (wrap64 (x1+1)+1)+1)))):=⟨_,rfl⟩
     rw [←hW1] at HH HGr
     rw [←hW1]
     clear hW1
     have n0:=zz (Kept.of_grown HGr.1 HK.1 (fun k e=>by injection e with e;subst e;exact .inl OG.1))
     have n1:=zz (Below.grown HB.1 HGr.1 (Below.size HB.1) (fun k e=>by injection e with e;subst e;exact GB.1))
     have n2:=zz (Kd.S_grown RI.1 HGr.1 (fun k hk e=>by injection e with e;exact (OKI.1 k hk).2 e))
     clear HK HB RI HGr
     ((with_reducible refine (markFreeS_o k1 oki _ el.f1.f3 (wrap64 (wrap64 (wrap64 (wrap64 (x1+1)+1)+1)+1)) t ys w0 _ n1.out n2.out MA.1).mono ?_);rintro e w2 ⟨rfl,hR,hB2,hK2⟩)
     have HB:=zz hB2
     have HK:=zz (Kept.then_ n0.out hK2 (fun k h=> .inl (OKI.1 k h).1))
     have RI:=zz hR
     have H2:=zz (Kd.H_step HH.1 (fun k h1 h2 h3=>hK2.2 k h3 h2))
     have HS:=zz (Kd.H_back H2.1 (x':=(⟨x1,(⟨(wrap64 (x1+1)),(wrap64 (wrap64 (x1+1)+1)),(wrap64 (wrap64 (wrap64 (x1+1)+1)+1)),ys⟩:S40)⟩:S135)) (okp:=oki) (by
      have hl:=(Kd.S_reads' RI.1).1
      rw [hl]
      have h3:=RI.1
      rw [hl] at h3
      exact k135_mkM _ _ _ (⟨x1,(⟨(wrap64 (x1+1)),(wrap64 (wrap64 (x1+1)+1)),(wrap64 (wrap64 (wrap64 (x1+1)+1)+1)),ys⟩:S40)⟩:S135) h3) (fun _ h=>h))
     exact zq205
    ·exact zq161
   ·exact zq204
def kDisk:Kd ((List ByteArray)×(List S110)):=Own.apair (Own.srow 9 Kd.string) (Own.srow 110 k110)
theorem zza {w:World} {l0:List ByteArray} {l1:List S110} {cs:List Value} (h:kDisk.K w (l0,l1) cs):∃A0 c0 A1 c1,cs=[.slice A0 l0.length c0,.slice A1 l1.length c1]∧l0.length≤c0∧Kd.C Kd.string w A0 l0.length l0∧l1.length≤c1∧Kd.C k110 w A1 l1.length l1:=by
 obtain ⟨y0,_,rfl,⟨A0,c0,rfl,m0,r0⟩,⟨A1,c1,rfl,m1,r1⟩⟩:=h
 exact ⟨A0,c0,A1,c1,rfl,m0,r0,m1,r1⟩
theorem kDisk_openM {w:World} {base:Nat} {ok:Nat→Prop} {l0:List ByteArray} {l1:List S110} {cs:List Value} (h:kDisk.M w base ok (l0,l1) cs):∃v0 v1,∃P0 P1:Nat→Prop,cs=[v0,v1]∧Kd.R Kd.string 9 w base P0 v0 l0∧Kd.R k110 110 w base P1 v1 l1∧(∀k,P0 k→ok k)∧(∀k,P1 k→ok k)∧(∀k,P0 k→¬P1 k):=by
 obtain ⟨c0,d0,P0,B0,rfl,h0,h,a0,b0,x0⟩:=Own.apair_open h
 have h1:=h
 obtain ⟨v0,e0,h0⟩:=h0
 subst e0
 obtain ⟨v1,e1,h1⟩:=h1
 subst e1
 exact ⟨v0,v1,P0,B0,rfl,Kd.S_R h0,Kd.S_R h1,fun k h2=>a0 k h2,fun k h2=>b0 k (h2),fun k h1 h2=>x0 k h1 (h2)⟩
theorem zub {w:World} {base:Nat} {ok:Nat→Prop} {l0:List ByteArray} {l1:List S110} {v0:Value} {P0:Nat→Prop} {v1:Value} {P1:Nat→Prop} (r0:Kd.R Kd.string 9 w base P0 v0 l0) (r1:Kd.R k110 110 w base P1 v1 l1) (o0:∀k,P0 k→ok k) (o1:∀k,P1 k→ok k) (x0:∀k,P0 k→¬P1 k):kDisk.M w base ok (l0,l1) [v0,v1]:=by
 have t1:=(show (Own.srow 110 k110).M w base P1 l1 [v1] from ((Own.srow 110 k110).M_mono (fun k hk=>(r1.1 k hk.symm)) (Own.srow_of_R rfl r1)))
 have t0:=Own.apair_mk (ok:=ok) (okA:=fun k=>P0 k) (okB:=fun k=>P1 k) (show (Own.srow 9 Kd.string).M w base P0 l0 [v0] from ((Own.srow 9 Kd.string).M_mono (fun k hk=>(r0.1 k hk.symm)) (Own.srow_of_R rfl r0))) t1 (fun k h=>o0 k h) (fun k h=>o1 k h) (fun k h1 h2=>x0 k h1 h2)
 exact t0
def kDiskL:Kd ((List ByteArray)×(List S156)):=Own.apair (Own.srow 9 Kd.string) (Own.srow 156 k156)
theorem kDiskL_open {w:World} {l0:List ByteArray} {l1:List S156} {cs:List Value} (h:kDiskL.K w (l0,l1) cs):∃A0 c0 A1 c1,cs=[.slice A0 l0.length c0,.slice A1 l1.length c1]∧l0.length≤c0∧Kd.C Kd.string w A0 l0.length l0∧l1.length≤c1∧Kd.C k156 w A1 l1.length l1:=by
 obtain ⟨y0,_,rfl,⟨A0,c0,rfl,m0,r0⟩,⟨A1,c1,rfl,m1,r1⟩⟩:=h
 exact ⟨A0,c0,A1,c1,rfl,m0,r0,m1,r1⟩
def kWork:Kd ((List ByteArray)×(List S110)×Int×(List Int)×(List Int)×(List Int)):=Own.apair (Own.srow 9 Kd.string) (Own.apair (Own.srow 110 k110) (Own.apair (Kd.int .i64) (Own.apair (Own.arow 3 (Kd.int .i64)) (Own.apair (Own.arow 3 (Kd.int .i64)) (Own.arow 3 (Kd.int .i64))))))
theorem zac {w:World} {l0:List ByteArray} {l1:List S110} {l2:Int} {l3:List Int} {l4:List Int} {l5:List Int} {cs:List Value} (h:kWork.K w (l0,l1,l2,l3,l4,l5) cs):∃A0 c0 A1 c1 A3 c3 A4 c4 A5 c5,cs=[.slice A0 l0.length c0,.slice A1 l1.length c1,.int .i64 l2,.slice A3 l3.length c3,.slice A4 l4.length c4,.slice A5 l5.length c5]∧l0.length≤c0∧Kd.C Kd.string w A0 l0.length l0∧l1.length≤c1∧Kd.C k110 w A1 l1.length l1∧l3.length≤c3∧Kd.C (Kd.int .i64) w A3 l3.length l3∧l4.length≤c4∧Kd.C (Kd.int .i64) w A4 l4.length l4∧l5.length≤c5∧Kd.C (Kd.int .i64) w A5 l5.length l5:=zq175
theorem kWork_openM {w:World} {base:Nat} {ok:Nat→Prop} {l0:List ByteArray} {l1:List S110} {l2:Int} {l3:List Int} {l4:List Int} {l5:List Int} {cs:List Value} (h:kWork.M w base ok (l0,l1,l2,l3,l4,l5) cs):∃v0 v1 v3 v4 v5,∃P0 P1 P3 P4 P5:Nat→Prop,cs=[v0,v1,.int .i64 l2,v3,v4,v5]∧Kd.R Kd.string 9 w base P0 v0 l0∧Kd.R k110 110 w base P1 v1 l1∧Kd.Q (Kd.int .i64) 3 w base P3 v3 l3∧Kd.Q (Kd.int .i64) 3 w base P4 v4 l4∧Kd.Q (Kd.int .i64) 3 w base P5 v5 l5∧(∀k,P0 k→ok k)∧(∀k,P1 k→ok k)∧(∀k,P3 k→ok k)∧(∀k,P4 k→ok k)∧(∀k,P5 k→ok k)∧(∀k,P0 k→¬P1 k)∧(∀k,P0 k→¬P3 k)∧(∀k,P0 k→¬P4 k)∧(∀k,P0 k→¬P5 k)∧(∀k,P1 k→¬P3 k)∧(∀k,P1 k→¬P4 k)∧(∀k,P1 k→¬P5 k)∧(∀k,P3 k→¬P4 k)∧(∀k,P3 k→¬P5 k)∧(∀k,P4 k→¬P5 k):=by
 obtain ⟨c0,d0,P0,B0,rfl,h0,h,a0,b0,x0⟩:=Own.apair_open h
 obtain ⟨c1,d1,P1,B1,rfl,h1,h,a1,b1,x1⟩:=Own.apair_open h
 obtain ⟨c2,d2,P2,B2,rfl,h2,h,a2,b2,x2⟩:=Own.apair_open h
 obtain ⟨c3,d3,P3,B3,rfl,h3,h,a3,b3,x3⟩:=Own.apair_open h
 obtain ⟨c4,d4,P4,B4,rfl,h4,h,a4,b4,x4⟩:=Own.apair_open h
 have h5:=h
 obtain ⟨v0,e0,h0⟩:=h0
 subst e0
 obtain ⟨v1,e1,h1⟩:=h1
 subst e1
 obtain rfl:c2=[.int .i64 l2]:=h2
 obtain ⟨v3,f3,e3,h3⟩:=h3
 subst e3
 obtain ⟨v4,f4,e4,h4⟩:=h4
 subst e4
 obtain ⟨v5,f5,e5,h5⟩:=h5
 subst e5
 exact ⟨v0,v1,v3,v4,v5,P0,P1,P3,P4,B4,rfl,Kd.S_R h0,Kd.S_R h1,Own.tagQ h3,Own.tagQ h4,Own.tagQ h5,fun k h2=>a0 k h2,fun k h2=>b0 k (a1 k h2),fun k h2=>b0 k (b1 k (b2 k (a3 k h2))),fun k h2=>b0 k (b1 k (b2 k (b3 k (a4 k h2)))),fun k h2=>b0 k (b1 k (b2 k (b3 k (b4 k (h2))))),fun k h1 h2=>x0 k h1 (a1 k h2),fun k h1 h2=>x0 k h1 (b1 k (b2 k (a3 k h2))),fun k h1 h2=>x0 k h1 (b1 k (b2 k (b3 k (a4 k h2)))),fun k h1 h2=>x0 k h1 (b1 k (b2 k (b3 k (b4 k (h2))))),fun k h1 h2=>x1 k h1 (b2 k (a3 k h2)),fun k h1 h2=>x1 k h1 (b2 k (b3 k (a4 k h2))),fun k h1 h2=>x1 k h1 (b2 k (b3 k (b4 k (h2)))),fun k h1 h2=>x3 k h1 (a4 k h2),fun k h1 h2=>x3 k h1 (b4 k (h2)),fun k h1 h2=>x4 k h1 (h2)⟩
theorem kWork_mkM {w:World} {base:Nat} {ok:Nat→Prop} {l0:List ByteArray} {l1:List S110} {l2:Int} {l3:List Int} {l4:List Int} {l5:List Int} {v0:Value} {P0:Nat→Prop} {v1:Value} {P1:Nat→Prop} {v3:Value} {P3:Nat→Prop} {v4:Value} {P4:Nat→Prop} {v5:Value} {P5:Nat→Prop} (r0:Kd.R Kd.string 9 w base P0 v0 l0) (r1:Kd.R k110 110 w base P1 v1 l1) (r3:Kd.Q (Kd.int .i64) 3 w base P3 v3 l3) (r4:Kd.Q (Kd.int .i64) 3 w base P4 v4 l4) (r5:Kd.Q (Kd.int .i64) 3 w base P5 v5 l5) (o0:∀k,P0 k→ok k) (o1:∀k,P1 k→ok k) (o3:∀k,P3 k→ok k) (o4:∀k,P4 k→ok k) (o5:∀k,P5 k→ok k) (x0:∀k,P0 k→¬P1 k) (x1:∀k,P0 k→¬P3 k) (x2:∀k,P0 k→¬P4 k) (x3:∀k,P0 k→¬P5 k) (x4:∀k,P1 k→¬P3 k) (x5:∀k,P1 k→¬P4 k) (x6:∀k,P1 k→¬P5 k) (x7:∀k,P3 k→¬P4 k) (x8:∀k,P3 k→¬P5 k) (x9:∀k,P4 k→¬P5 k):kWork.M w base ok (l0,l1,l2,l3,l4,l5) [v0,v1,.int .i64 l2,v3,v4,v5]:=by
 have t5:=(show (Own.arow 3 (Kd.int .i64)).M w base P5 l5 [v5] from Own.arow_of_Q rfl r5)
 have t4:=Own.apair_mk (ok:=fun k=>P4 k∨P5 k) (okA:=fun k=>P4 k) (okB:=fun k=>P5 k) (show (Own.arow 3 (Kd.int .i64)).M w base P4 l4 [v4] from Own.arow_of_Q rfl r4) t5 (fun k h=> .inl h) (fun k h=> .inr h) (fun k h1 h2=>x9 k h1 h2)
 have t3:=Own.apair_mk (ok:=fun k=>P3 k∨P4 k∨P5 k) (okA:=fun k=>P3 k) (okB:=fun k=>P4 k∨P5 k) (show (Own.arow 3 (Kd.int .i64)).M w base P3 l3 [v3] from Own.arow_of_Q rfl r3) t4 (fun k h=> .inl h) (fun k h=> .inr h) (fun k h1 h=>by
  rcases h with h|h
  ·exact x7 k h1 h
  ·exact x8 k h1 h)
 have t2:=Own.apair_mk (ok:=fun k=>P3 k∨P4 k∨P5 k) (okA:=fun _=>False) (okB:=fun k=>P3 k∨P4 k∨P5 k) (show (Kd.int .i64).M w base (fun _=>False) l2 [.int .i64 l2] from rfl) t3 (fun k h=>h.elim) (fun k h=>h) (fun k h1 _=>h1.elim)
 have t1:=Own.apair_mk (ok:=fun k=>P1 k∨P3 k∨P4 k∨P5 k) (okA:=fun k=>P1 k) (okB:=fun k=>P3 k∨P4 k∨P5 k) (show (Own.srow 110 k110).M w base P1 l1 [v1] from ((Own.srow 110 k110).M_mono (fun k hk=>(r1.1 k hk.symm)) (Own.srow_of_R rfl r1))) t2 (fun k h=> .inl h) (fun k h=> .inr h) (fun k h1 h=>by
  rcases h with h|h|h
  ·exact x4 k h1 h
  ·exact x5 k h1 h
  ·exact x6 k h1 h)
 have t0:=Own.apair_mk (ok:=ok) (okA:=fun k=>P0 k) (okB:=fun k=>P1 k∨P3 k∨P4 k∨P5 k) (show (Own.srow 9 Kd.string).M w base P0 l0 [v0] from ((Own.srow 9 Kd.string).M_mono (fun k hk=>(r0.1 k hk.symm)) (Own.srow_of_R rfl r0))) t1 (fun k h=>o0 k h) (fun k h=>by
  rcases h with h|h|h|h
  ·exact o1 k h
  ·exact o3 k h
  ·exact o4 k h
  ·exact o5 k h) (fun k h1 h=>by
  rcases h with h|h|h|h
  ·exact x0 k h1 h
  ·exact x1 k h1 h
  ·exact x2 k h1 h
  ·exact x3 k h1 h)
 exact t0
def kWorkL:Kd ((List ByteArray)×(List S156)×Int×(List Int)×(List Int)×(List Int)):=Own.apair (Own.srow 9 Kd.string) (Own.apair (Own.srow 156 k156) (Own.apair (Kd.int .i64) (Own.apair (Own.arow 3 (Kd.int .i64)) (Own.apair (Own.arow 3 (Kd.int .i64)) (Own.arow 3 (Kd.int .i64))))))
theorem kWorkL_open {w:World} {l0:List ByteArray} {l1:List S156} {l2:Int} {l3:List Int} {l4:List Int} {l5:List Int} {cs:List Value} (h:kWorkL.K w (l0,l1,l2,l3,l4,l5) cs):∃A0 c0 A1 c1 A3 c3 A4 c4 A5 c5,cs=[.slice A0 l0.length c0,.slice A1 l1.length c1,.int .i64 l2,.slice A3 l3.length c3,.slice A4 l4.length c4,.slice A5 l5.length c5]∧l0.length≤c0∧Kd.C Kd.string w A0 l0.length l0∧l1.length≤c1∧Kd.C k156 w A1 l1.length l1∧l3.length≤c3∧Kd.C (Kd.int .i64) w A3 l3.length l3∧l4.length≤c4∧Kd.C (Kd.int .i64) w A4 l4.length l4∧l5.length≤c5∧Kd.C (Kd.int .i64) w A5 l5.length l5:=zq175
theorem kWorkL_mk {w:World} {l0:List ByteArray} {l1:List S156} {l2:Int} {l3:List Int} {l4:List Int} {l5:List Int} {A0:Option Addr} {c0:Nat} {A1:Option Addr} {c1:Nat} {A3:Option Addr} {c3:Nat} {A4:Option Addr} {c4:Nat} {A5:Option Addr} {c5:Nat} (m0:l0.length≤c0) (r0:Kd.C Kd.string w A0 l0.length l0) (m1:l1.length≤c1) (r1:Kd.C k156 w A1 l1.length l1) (m3:l3.length≤c3) (r3:Kd.C (Kd.int .i64) w A3 l3.length l3) (m4:l4.length≤c4) (r4:Kd.C (Kd.int .i64) w A4 l4.length l4) (m5:l5.length≤c5) (r5:Kd.C (Kd.int .i64) w A5 l5.length l5):kWorkL.K w (l0,l1,l2,l3,l4,l5) [.slice A0 l0.length c0,.slice A1 l1.length c1,.int .i64 l2,.slice A3 l3.length c3,.slice A4 l4.length c4,.slice A5 l5.length c5]:=⟨[_],[_,_,_,_,_],rfl,⟨A0,c0,rfl,m0,r0⟩,⟨[_],[_,_,_,_],rfl,⟨A1,c1,rfl,m1,r1⟩,⟨[_],[_,_,_],rfl,rfl,⟨[_],[_,_],rfl,⟨A3,c3,rfl,m3,r3⟩,⟨[_],[_],rfl,⟨A4,c4,rfl,m4,r4⟩,⟨A5,c5,rfl,m5,r5⟩⟩⟩⟩⟩⟩
theorem markWork_o (k:Nat) (l0:List ByteArray) (l1:List S110) (l2:Int) (l3:List Int) (l4:List Int) (l5:List Int) (q0:List ByteArray) (q1:List S110) (q3:List Int) (q4:List Int) (q5:List Int) (a t1 t2 t3 r:Int) (ok:Nat→Prop) {cs:List Value} (w0 w:World) (hB:Below w0.heap.size w0 w) (hk:∀k,ok k→k<w.heap.size) (h:kWork.M w w0.heap.size ok (l0,l1,l2,l3,l4,l5) cs)
  (f1:laws_markDisk.f k l0 l1 a=some (t1,q0,q1)) (f2:laws_markIntS.f k l3 t1=some (t2,q3)) (f3:laws_markIntS.f k l4 t2=some (t3,q4)) (f4:laws_markIntS.f k l5 t3=some (r,q5)):
  Calls Tryz.prog 52 #[.agg cs.toArray,.int .i64 a] w fun e w'=>e= .returned (.int .i64 r)∧kWork.M w' w0.heap.size ok (q0,q1,l2,q3,q4,q5) cs∧Below w0.heap.size w0 w'∧Kept w w' ok:=by
 obtain ⟨v0,v1,v3,v4,v5,P0,P1,P3,P4,P5,rfl,R0,R1,R3,R4,R5,o0,o1,o3,o4,o5,x0,x1,x2,x3,x4,x5,x6,x7,x8,x9⟩:=kWork_openM h
 have bd0:∀k,P0 k→k<w.heap.size:=fun k h=>hk k (o0 k h)
 have bd1:∀k,P1 k→k<w.heap.size:=fun k h=>hk k (o1 k h)
 have bd3:∀k,P3 k→k<w.heap.size:=fun k h=>hk k (o3 k h)
 have bd4:∀k,P4 k→k<w.heap.size:=fun k h=>hk k (o4 k h)
 have bd5:∀k,P5 k→k<w.heap.size:=fun k h=>hk k (o5 k h)
 clear h
 obtain ⟨A0,c0,rfl⟩:=Kd.R_slice R0
 obtain ⟨A1,c1,rfl⟩:=Kd.R_slice R1
 obtain ⟨A3,c3,rfl,_⟩:=Kd.Q_slice R3
 obtain ⟨A4,c4,rfl,_⟩:=Kd.Q_slice R4
 obtain ⟨A5,c5,rfl,_⟩:=Kd.Q_slice R5
 have e0:=R0.1
 have e1:=R1.1
 have e3:=R3.1
 have e4:=R4.1
 have e5:=R5.1
 have K1:=zz f1
 have K2:=zz f2
 have K3:=zz f3
 have K4:=zz f4
 clear f1 f2 f3 f4
 replace R0:=zz (Kd.R_alloc R0 (.cells #[.slice A0 l0.length c0,.slice A1 l1.length c1,.int .i64 l2,.slice A3 l3.length c3,.slice A4 l4.length c4,.slice A5 l5.length c5] 44))
 replace R1:=zz (Kd.R_alloc R1 (.cells #[.slice A0 l0.length c0,.slice A1 l1.length c1,.int .i64 l2,.slice A3 l3.length c3,.slice A4 l4.length c4,.slice A5 l5.length c5] 44))
 replace R3:=zz (Kd.Q_alloc R3 (.cells #[.slice A0 l0.length c0,.slice A1 l1.length c1,.int .i64 l2,.slice A3 l3.length c3,.slice A4 l4.length c4,.slice A5 l5.length c5] 44))
 replace R4:=zz (Kd.Q_alloc R4 (.cells #[.slice A0 l0.length c0,.slice A1 l1.length c1,.int .i64 l2,.slice A3 l3.length c3,.slice A4 l4.length c4,.slice A5 l5.length c5] 44))
 replace R5:=zz (Kd.Q_alloc R5 (.cells #[.slice A0 l0.length c0,.slice A1 l1.length c1,.int .i64 l2,.slice A3 l3.length c3,.slice A4 l4.length c4,.slice A5 l5.length c5] 44))
 have HB:=zz (Own.below_more hB (.cells #[.slice A0 l0.length c0,.slice A1 l1.length c1,.int .i64 l2,.slice A3 l3.length c3,.slice A4 l4.length c4,.slice A5 l5.length c5] 44))
 have BX:=zz (zqa w (.cells #[.slice A0 l0.length c0,.slice A1 l1.length c1,.int .i64 l2,.slice A3 l3.length c3,.slice A4 l4.length c4,.slice A5 l5.length c5] 44))
 have HK:=zz (Kept.alloc (Kept.refl w ok) (.cells #[.slice A0 l0.length c0,.slice A1 l1.length c1,.int .i64 l2,.slice A3 l3.length c3,.slice A4 l4.length c4,.slice A5 l5.length c5] 44))
 clear hB
 have O0:=zz o0
 have O1:=zz o1
 have O3:=zz o3
 have O4:=zz o4
 have O5:=zz o5
 have X01:=zz x0
 have X03:=zz x1
 have X04:=zz x2
 have X05:=zz x3
 have X13:=zz x4
 have X14:=zz x5
 have X15:=zz x6
 have X34:=zz x7
 have X35:=zz x8
 have X45:=zz x9
 clear o0 o1 o3 o4 o5 x0 x1 x2 x3 x4 x5 x6 x7 x8 x9
 have bx:∀k,P0 k∨P1 k∨P3 k∨P4 k∨P5 k→k<(w.alloc (.cells #[.slice A0 l0.length c0,.slice A1 l1.length c1,.int .i64 l2,.slice A3 l3.length c3,.slice A4 l4.length c4,.slice A5 l5.length c5] 44)).heap.size→True:=fun _ _ _=>trivial
 clear bx
 have nb0:¬P0 w.heap.size:=fun h=>Nat.lt_irrefl _ (bd0 _ h)
 have nb1:¬P1 w.heap.size:=fun h=>Nat.lt_irrefl _ (bd1 _ h)
 have nb3:¬P3 w.heap.size:=fun h=>Nat.lt_irrefl _ (bd3 _ h)
 have nb4:¬P4 w.heap.size:=fun h=>Nat.lt_irrefl _ (bd4 _ h)
 have nb5:¬P5 w.heap.size:=fun h=>Nat.lt_irrefl _ (bd5 _ h)
 go_enter Tryz.func52,Tryz.ntmps52
 have hx0:(w.alloc (.cells #[.slice A0 l0.length c0,.slice A1 l1.length c1,.int .i64 l2,.slice A3 l3.length c3,.slice A4 l4.length c4,.slice A5 l5.length c5] 44)).cell? ⟨w.heap.size,0,none⟩=some (.slice A0 l0.length c0):=(zj BX.1 0).trans rfl
 have hx1:(w.alloc (.cells #[.slice A0 l0.length c0,.slice A1 l1.length c1,.int .i64 l2,.slice A3 l3.length c3,.slice A4 l4.length c4,.slice A5 l5.length c5] 44)).cell? ⟨w.heap.size,1,none⟩=some (.slice A1 l1.length c1):=(zj BX.1 1).trans rfl
 go_wp2_with fail
 clear hx0 hx1
 ((with_reducible refine (laws_markDisk.calls k P0 _ l0 P1 _ l1 a t1 q0 q1 w0 _ HB.1 R0.1 R1.1 K1.1).mono ?_);rintro e w1 ⟨rfl,G0,G1,hB1,hK1⟩)
 clear HB R0 R1
 have HB:=zz hB1
 have hK2:=zz hK1
 have R0:=zz G0
 have R1:=zz G1
 replace R3:=zz (Kd.Q_kept R3.1 hK1 (fun k hk h=>h.elim (fun h=>X03.1 k h hk) (fun h=>X13.1 k h hk)))
 replace R4:=zz (Kd.Q_kept R4.1 hK1 (fun k hk h=>h.elim (fun h=>X04.1 k h hk) (fun h=>X14.1 k h hk)))
 replace R5:=zz (Kd.Q_kept R5.1 hK1 (fun k hk h=>h.elim (fun h=>X05.1 k h hk) (fun h=>X15.1 k h hk)))
 replace BX:=zz (zab BX.1 hK1 (fun h=>h.elim (fun h=>nb0 h) (fun h=>nb1 h)))
 replace HK:=zz (HK.1.then_ hK1 (fun k h=> .inl (h.elim (O0.1 k) (O1.1 k))))
 clear G0 G1 hB1 hK1 hK2
 have hx:w1.cell? ⟨w.heap.size,3,none⟩=some (.slice A3 l3.length c3):=(zj BX.1 3).trans rfl
 go_wp2_with fail
 clear hx
 ((with_reducible refine (markIntS_Q k P3 _ l3 t1 t2 q3 w0 _ HB.1 R3.1 K2.1).mono ?_);rintro e w2 ⟨rfl,G3,hB1,hK1⟩)
 clear HB R3
 have HB:=zz hB1
 have R3:=zz G3
 replace R0:=zz (Kd.R_kept (Kd.R_mono (Own.R_tight2 rfl R0.1 e0) (fun k hk=>hk)) hK1 (fun k hk=>fun h=>X03.1 k hk h))
 replace R1:=zz (Kd.R_kept (Kd.R_mono (Own.R_tight2 rfl R1.1 e1) (fun k hk=>hk)) hK1 (fun k hk=>fun h=>X13.1 k hk h))
 replace R4:=zz (Kd.Q_kept R4.1 hK1 (fun k hk=>fun h=>X34.1 k h hk))
 replace R5:=zz (Kd.Q_kept R5.1 hK1 (fun k hk=>fun h=>X35.1 k h hk))
 replace BX:=zz (zab BX.1 hK1 nb3)
 replace HK:=zz (HK.1.then_ hK1 (fun k h=> .inl (O3.1 k h)))
 clear G3 hB1 hK1
 have hx:w2.cell? ⟨w.heap.size,4,none⟩=some (.slice A4 l4.length c4):=(zj BX.1 4).trans rfl
 go_wp2_with fail
 clear hx
 ((with_reducible refine (markIntS_Q k P4 _ l4 t2 t3 q4 w0 _ HB.1 R4.1 K3.1).mono ?_);rintro e w3 ⟨rfl,G4,hB1,hK1⟩)
 clear HB R4
 have HB:=zz hB1
 have R4:=zz G4
 replace R0:=zz (Kd.R_kept (Kd.R_mono (Own.R_tight2 rfl R0.1 e0) (fun k hk=>hk)) hK1 (fun k hk=>fun h=>X04.1 k hk h))
 replace R1:=zz (Kd.R_kept (Kd.R_mono (Own.R_tight2 rfl R1.1 e1) (fun k hk=>hk)) hK1 (fun k hk=>fun h=>X14.1 k hk h))
 replace R3:=zz (Kd.Q_kept (Own.Q_tight2 rfl R3.1 e3) hK1 (fun k hk=>fun h=>X34.1 k hk h))
 replace R5:=zz (Kd.Q_kept R5.1 hK1 (fun k hk=>fun h=>X45.1 k h hk))
 replace BX:=zz (zab BX.1 hK1 nb4)
 replace HK:=zz (HK.1.then_ hK1 (fun k h=> .inl (O4.1 k h)))
 clear G4 hB1 hK1
 have hx:w3.cell? ⟨w.heap.size,5,none⟩=some (.slice A5 l5.length c5):=(zj BX.1 5).trans rfl
 go_wp2_with fail
 clear hx
 ((with_reducible refine (markIntS_Q k P5 _ l5 t3 r q5 w0 _ HB.1 R5.1 K4.1).mono ?_);rintro e w4 ⟨rfl,G5,hB1,hK1⟩)
 clear HB R5
 have HB:=zz hB1
 have R5:=zz G5
 replace R0:=zz (Kd.R_kept (Kd.R_mono (Own.R_tight2 rfl R0.1 e0) (fun k hk=>hk)) hK1 (fun k hk=>fun h=>X05.1 k hk h))
 replace R1:=zz (Kd.R_kept (Kd.R_mono (Own.R_tight2 rfl R1.1 e1) (fun k hk=>hk)) hK1 (fun k hk=>fun h=>X15.1 k hk h))
 replace R3:=zz (Kd.Q_kept (Own.Q_tight2 rfl R3.1 e3) hK1 (fun k hk=>fun h=>X35.1 k hk h))
 replace R4:=zz (Kd.Q_kept (Own.Q_tight2 rfl R4.1 e4) hK1 (fun k hk=>fun h=>X45.1 k hk h))
 replace BX:=zz (zab BX.1 hK1 nb5)
 replace HK:=zz (HK.1.then_ hK1 (fun k h=> .inl (O5.1 k h)))
 clear G5 hB1 hK1
 go_wp2
 go_ret
 refine ⟨rfl,?_,HB.1,HK.1⟩
 exact kWork_mkM (Own.R_tight2 rfl R0.1 e0) (Own.R_tight2 rfl R1.1 e1) (Own.Q_tight2 rfl R3.1 e3) (Own.Q_tight2 rfl R4.1 e4) (Own.Q_tight2 rfl R5.1 e5) O0.1 O1.1 O3.1 O4.1 O5.1 X01.1 X03.1 X04.1 X05.1 X13.1 X14.1 X15.1 X34.1 X35.1 X45.1
section
variable {W:World} {g t o:Nat} {cs pre mid post new:List Value}
theorem zlc (h:W.heap[g]?=some (.cells cs.toArray t (0,0))) (e:cs=pre++(mid++post)) (ho:pre.length=o):W.rangeAt g o mid:=by
 subst e;subst ho
 intro j v hv
 have hj:=(List.getElem?_eq_some_iff.1 hv).1
 have:(pre++(mid++post))[pre.length+j]?=some v:=by
  rw [List.getElem?_append_right (Nat.le_add_right _ _),Nat.add_sub_cancel_left,List.getElem?_append_left hj]
  exact hv
 simp [World.cell?,h,this]
theorem part_cell {v:Value} (h:W.heap[g]?=some (.cells cs.toArray t (0,0))) (e:cs=pre++([v]++post)) (ho:pre.length=o):W.cell? ⟨g,o,none⟩=some v:=by
 have:=zlc h e ho 0 v rfl
 simpa using this
theorem part_there (h:W.heap[g]?=some (.cells cs.toArray t (0,0))) (e:cs=pre++(mid++post)) (ho:pre.length=o):W.there g o mid.length:=by
 intro j hj
 refine ⟨?_,zu h _⟩
 rw [zlc h e ho j _ (List.getElem?_eq_getElem hj)]
 rfl
theorem zjc:∀(new mid pre post:List Value) (W:World),new.length=mid.length→W.heap[g]?=some (.cells (pre++(mid++post)).toArray t (0,0))→(W.setCells g pre.length new).heap[g]?=some (.cells (pre++(new++post)).toArray t (0,0))
 |[],[],pre,post,W,_,h=>h
 |[],m::ms,pre,post,W,hl,h=>by simp at hl
 |n::ns,[],pre,post,W,hl,h=>by simp at hl
 |n::ns,m::ms,pre,post,W,hl,h=>by
  have h1:(W.setCell ⟨g,pre.length,none⟩ n).heap[g]?=some (.cells ((pre++[n])++(ms++post)).toArray t (0,0)):=
   zW (cs':=((pre++[n])++(ms++post)).toArray) h pre.length n zq38
  have ih:=zjc ns ms (pre++[n]) post _ (by simpa using hl) h1
  show ((W.setCell ⟨g,pre.length,none⟩ n).setCells g (pre.length+1) ns).heap[g]?=_
  rw [List.length_append,List.length_singleton] at ih
  rw [ih]
  simp
theorem setCells_below {w:World} (hg:w.heap.size≤g):∀(vs:List Value) (W:World) (i:Nat),Below w.heap.size w W→Below w.heap.size w (W.setCells g i vs)
 |[],W,i,h=>h
 |u::vs,W,i,h=>setCells_below hg vs _ _ (zZ h hg)
theorem setCells_kept:∀(vs:List Value) (W:World) (i:Nat),Kept W (W.setCells g i vs) (fun k=>k=g)
 |[],W,i=>Kept.refl W _
 |u::vs,W,i=>(Kept.setCell (Kept.refl W (fun k=>k=g)) (p:=⟨g,i,none⟩) (.inl rfl) u).then_ (setCells_kept vs _ _) (fun k h=> .inl h)
end
def kTxn:Kd (S40×(List ByteArray×List S110×Int×List Int×List Int×List Int)×Int):=Own.apair k40 (Own.apair kWork (Kd.int .i64))
def kStore:Kd ((List ByteArray×List S110)×S40×List S135×(S40×(List ByteArray×List S110×Int×List Int×List Int×List Int)×Int)×Bool×Bool):=Own.apair kDisk (Own.apair k40 (Own.apair (Own.srow 135 k135) (Own.apair kTxn (Own.apair Kd.bool Kd.bool))))
theorem markMeta_o (k:Nat) (x:S40) (a r:Int) (fr:List S112) (ok:Nat→Prop) {cs:List Value} (w0 w:World) (hB:Below w0.heap.size w0 w) (hk:∀k,ok k→k<w.heap.size) (h:k40.M w w0.heap.size ok x cs) (hf:markF.l0 k x.f3 a 0=some (r,fr)):
  Calls Tryz.prog 15 #[.agg cs.toArray,.int .i64 a] w fun e w'=>e= .returned (.int .i64 r)∧k40.M w' w0.heap.size ok (⟨x.f0,x.f1,x.f2,fr⟩:S40) cs∧Below w0.heap.size w0 w'∧Kept w w' ok:=by
 obtain ⟨v3,rfl,R⟩:=k40_openM h
 clear h
 obtain ⟨A3,c3,rfl⟩:=Kd.S_slice R
 have K1:=zz hf
 have hn:¬ok w.heap.size:=fun h=>Nat.lt_irrefl _ (hk _ h)
 have R1:=zz (Kd.S_alloc R (.cells #[.int .i64 x.f0,.int .i64 x.f1,.int .i64 x.f2,.slice A3 x.f3.length c3] 40))
 have HB:=zz (Own.below_more hB (.cells #[.int .i64 x.f0,.int .i64 x.f1,.int .i64 x.f2,.slice A3 x.f3.length c3] 40))
 have BX:=zz (zqa w (.cells #[.int .i64 x.f0,.int .i64 x.f1,.int .i64 x.f2,.slice A3 x.f3.length c3] 40))
 have HK:=zz (Kept.alloc (Kept.refl w ok) (.cells #[.int .i64 x.f0,.int .i64 x.f1,.int .i64 x.f2,.slice A3 x.f3.length c3] 40))
 clear R hB hf hk
 go_enter Tryz.func15,Tryz.ntmps15
 have hx:(w.alloc (.cells #[.int .i64 x.f0,.int .i64 x.f1,.int .i64 x.f2,.slice A3 x.f3.length c3] 40)).cell? ⟨w.heap.size,3,none⟩=some (.slice A3 x.f3.length c3):=(zj BX.1 3).trans rfl
 go_wp2_with fail
 clear hx
 ((with_reducible refine (markFreeS_o k ok _ x.f3 a r fr w0 _ HB.1 R1.1 K1.1).mono ?_);rintro e w1 ⟨rfl,hS,hB1,hK1⟩)
 go_wp2
 go_ret
 have hl:=(Kd.S_reads' hS).1
 refine ⟨rfl,?_,hB1,HK.1.then_ hK1 (fun k h=> .inl h)⟩
 have h3:=hS
 rw [hl] at h3
 show k40.M w1 w0.heap.size ok _ [.int .i64 x.f0,.int .i64 x.f1,.int .i64 x.f2,.slice A3 x.f3.length c3]
 rw [hl]
 exact zlb _ _ _ (⟨x.f0,x.f1,x.f2,fr⟩:S40) h3
structure Put1 (W W':World) (g:Nat):Prop where
 kept:Kept W W' (fun k=>k=g)
 below:∀w:World,w.heap.size≤g→Below w.heap.size w W→Below w.heap.size w W'
 size:W'.heap.size=W.heap.size
theorem setCells_size {g:Nat}:∀(vs:List Value) (W:World) (i:Nat),(W.setCells g i vs).heap.size=W.heap.size
 |[],W,i=>rfl
 |u::vs,W,i=>(setCells_size vs _ _).trans (by simp [World.setCell])
theorem Put1.cells {W:World} {g:Nat} (i:Nat) (vs:List Value):Put1 W (W.setCells g i vs) g:=⟨setCells_kept vs W i,fun w hg h=>setCells_below hg vs W i h,setCells_size vs W i⟩
section
variable {P:Program} {ops:Array Oper} {rest:List Oper} {o:Oper} {a:Act} {Q:Exit→Act→World→Prop} {W:World}
theorem run_loadpart (ty:TypeId) (x:Operand) (ho:o.op= .load ty x) (g off:Nat) (pre mid post:List Value) {cs:List Value} {t:TypeId} (d:TypeDesc) (hx:a.eval x= .pointer (some ⟨g,off,none⟩)) (hg:W.heap[g]?=some (.cells cs.toArray t (0,0))) (e:cs=pre++(mid++post)) (hp:pre.length=off)
  (hu:P.underlying ty=some d) (hd:d.isRow=true) (hi:(P.info? ty).map (·.size)=some mid.length):(execOp a.eval o).run P W= .ok (.value (.agg mid.toArray)) W:=by
 unfold execOp
 simp only [ho,hx,Instr.loadAt,Instr.sureAddr,Sem.run_bind,Sem.run_pure,Result.andThen_ok,run_loadVar_mid W g off ty mid d (zlc hg e hp) hu hd hi]
theorem zf (hgd:o.guard=none) (ty:TypeId) (x:Operand) (ho:o.op= .load ty x) (g off:Nat) (pre mid post:List Value) {cs:List Value} {t:TypeId} (d:TypeDesc) (hx:a.eval x= .pointer (some ⟨g,off,none⟩)) (hg:W.heap[g]?=some (.cells cs.toArray t (0,0))) (e:cs=pre++(mid++post)) (hp:pre.length=off)
  (hu:P.underlying ty=some d) (hd:d.isRow=true) (hi:(P.info? ty).map (·.size)=some mid.length) (h:wpList P ops Q rest (a.put o.dst (.agg mid.toArray)) W):wpList P ops Q (o::rest) a W:=
 wpList_load_mid hgd ty x ho g off hx mid d (zlc hg e hp) hu hd hi h
theorem zn (hgd:o.guard=none) (ty:TypeId) (x y:Operand) (ho:o.op= .store ty x y) (hN:o.dst=none) (g off:Nat) (new pre mid post:List Value) {cs:List Value} {t:TypeId} (hx:a.eval x= .pointer (some ⟨g,off,none⟩)) (hy:a.eval y= .agg new.toArray) (hg:W.heap[g]?=some (.cells cs.toArray t (0,0))) (e:cs=pre++(mid++post)) (hp:pre.length=off)
  (hl:new.length=mid.length) (hi:(P.info? ty).map (·.size)=some new.length) (h1:∀v∈new,v.oneCell'=true)
  (h:∀W',Put1 W W' g→W'.heap[g]?=some (.cells (pre++(new++post)).toArray t (0,0))→wpList P ops Q rest a W'):wpList P ops Q (o::rest) a W:=by
 refine wpList_store_mid hgd ty x y ho g off new.toArray hx hy zq130 (by rw [List.size_toArray];exact hi) (Array.all_eq_true_iff_forall_mem.2 (fun v hv=>h1 v (by simpa using hv))) ?_
 have hput:a.put o.dst undef=a:=by rw [hN];rfl
 rw [hput]
 refine h _ (Put1.cells off _) ?_
 subst e;subst hp
 exact zjc new mid pre post W hl hg
theorem zT (hgd:o.guard=none) (ty:TypeId) (x y:Operand) (ho:o.op= .store ty x y) (hN:o.dst=none) (g off:Nat) (v u:Value) (pre post:List Value) {cs:List Value} {t:TypeId} (hx:a.eval x= .pointer (some ⟨g,off,none⟩)) (hy:a.eval y=v) (hg:W.heap[g]?=some (.cells cs.toArray t (0,0))) (e:cs=pre++([u]++post)) (hp:pre.length=off)
  (hi:(P.info? ty).map (·.size)=some 1) (h1:v.oneCell'=true) (hc:v.cells= #[v])
  (h:∀W',Put1 W W' g→W'.heap[g]?=some (.cells (pre++([v]++post)).toArray t (0,0))→wpList P ops Q rest a W'):wpList P ops Q (o::rest) a W:=by
 refine wpList_plain hgd fun K hK=> ?_
 have hth:=part_there hg e hp
 have hrun:=run_storeCells_cells (P:=P) g off [v] 0 W (fun j hj=>(hth j hj).1) (fun j hj=>(hth j hj).2) (fun q hq=>by rw [List.mem_singleton.1 hq];exact h1)
 have hs:(storeVar ty ⟨g,off,none⟩ v).run P W= .ok () (W.setCells g off [v]):=zq165
 unfold Oper.wp execOp
 simp only [ho,hx,hy,Instr.storeAt,Instr.sureAddr,Sem.run_bind,Sem.run_pure,Result.andThen_ok,hs]
 show K (a.put o.dst undef) _
 rw [hN]
 refine hK _ _ (h _ (Put1.cells off _) ?_)
 subst e;subst hp
 exact zjc [v] [u] pre post W rfl hg
end
theorem putM {α:Type} {d:Kd α} {base g:Nat} {W W':World} {ok:Nat→Prop} {x:α} {cs:List Value} (h:d.M W base ok x cs) (p:Put1 W W' g) (hg:∀k,ok k→k≠g):d.M W' base ok x cs:=Kd.M_kept h p.kept hg
theorem zTa {W W':World} {g h:Nat} {o:Obj} (hb:W.heap[h]?=some o) (p:Put1 W W' g) (hn:h≠g):W'.heap[h]?=some o:=zab hb p.kept hn
end Go.Proofs.YtonhdiemjgdcnaaGreat.PFnExactGivePage
