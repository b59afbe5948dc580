import Derived.Test.YtonhdiemjgdcnaaGreatCW3
set_option maxHeartbeats 64000000
set_option maxRecDepth 100000
set_option linter.unusedVariables false
set_option linter.unusedSimpArgs false
namespace Go.Proofs
theorem zq30{P:Prop}(h:P:=by repeat (first|(with_reducible first|exact HK.1|apply Kept.alloc|apply Kept.drewN|apply Kept.drew)|exact HK.1)):P:=h
theorem zq65{P Q0:Prop}(q0:Q0)(h:Q0→P:=by intro q0;have h_:(x2:Int)<((x0.length:Int):Int):=z8 (by with_reducible assumption);first|exact h_|(have e_:=(Kd.R_reads' q0).1;omega)|simpa using h_):P:=h q0
theorem zq86{P Q0:Prop}(q0:Q0)(h:Q0→P:=by intro q0;repeat (first|(with_reducible first|exact HK.1|apply Kept.alloc|apply Kept.drewN|apply Kept.drew|refine Kept.setCell ?_ (.inr q0) _)|exact HK.1)):P:=h q0
theorem zq154{P:Prop}(h:P:=by
 rw [if_neg c3] at H
 have c3b0:=z7 c3
 clear c3
 obtain rfl:=z6a H
 go_wp2
 go_ret
 exact ⟨zq18,zq33⟩):P:=h
theorem zq156{P:Prop}(h:P:=by
 repeat' first
   |(with_reducible exact ih0 _ _)
   |(with_reducible exact LeO.refl _)
   |(with_reducible exact LeO.none _)
   |(with_reducible refine LeO.ite ?_ ?_)
   |(with_reducible refine LeO.bind ?_ (fun _=> ?_))
   |exact ih0 _ _):P:=h
theorem zq159{P:Prop}(h:P:=by
 repeat' first
 |(with_reducible exact ih0 _ _)
 |(with_reducible exact LeO.refl _)
 |(with_reducible exact LeO.none _)
 |(with_reducible refine LeO.ite ?_ ?_)
 |(with_reducible refine LeO.bind ?_ (fun _=> ?_))
 |exact ih0 _ _):P:=h
theorem zq177{P:Prop}(h:P:=by
 go_wp2
 go_ret
 exact ⟨zq16,by (with_reducible repeat (first|apply Kd.R_alloc|apply Kd.R_drewN|apply Kd.R_drew));exact O0.1,zq0,zq30⟩):P:=h
theorem zq184{P:Prop}(h:P:=by
 go_roundg k1
 case measure=>have:=HK1.1;omega
 case rel=>exact ⟨(y0),(wrap64 (x1+1)),(wrap64 (x2+1)),zq18,zq18,H',⟨zq51 HK1.1⟩,⟨by (with_reducible repeat (first|apply Kd.R_alloc|apply Kd.R_drewN|apply Kd.R_drew));exact O0.1⟩,⟨zq30⟩,⟨zq0⟩⟩):P:=h
end Go.Proofs
namespace Go.Proofs.YtonhdiemjgdcnaaGreat.PFnExactGivePage
open Go.RowKit Go.Proofs.YtonhdiemjgdcnaaGreatW.PrintWords Go.Proofs.YtonhdiemjgdcnaaGreatW.PrintLast Go.Proofs.YtonhdiemjgdcnaaGreatW.PrintMore
attribute [local go_sem] zma zla zwa zxa zba zca zoa zna
def laws_eqDisk.f (k:Nat) (l0_0:List ByteArray) (l0_1:List (S110)) (l1_0:List ByteArray) (l1_1:List (S110)):Option (Bool):=(laws_eqStringS.f k l0_0 l1_0).bind fun t271=>(if t271=true then ((laws_eqPutS.f k l0_1 l1_1).bind fun t272=>(if t272=true then (some true) else (none))) else (none))
theorem laws_eqDisk.calls (k:Nat) (A0:Option Addr) (c0:Nat) (l2:List ByteArray) (A1:Option Addr) (c1:Nat) (l3:List (S110)) (A2:Option Addr) (c11:Nat) (l4:List ByteArray) (A4:Option Addr) (c12:Nat) (l5:List (S110)) (r:Bool) (w:World) (r0:Kd.C Kd.string w A0 l2.length l2) (h0:l2.length≤c0) (r1:Kd.C k110 w A1 l3.length l3) (h2:l3.length≤c1) (r2:Kd.C Kd.string w A2 l4.length l4) (h3:l4.length≤c11) (r3:Kd.C k110 w A4 l5.length l5) (h4:l5.length≤c12) (h:laws_eqDisk.f k l2 l3 l4 l5=some r):
  Calls Tryz.prog 10 #[.agg #[.slice A0 l2.length c0,.slice A1 l3.length c1],.agg #[.slice A2 l4.length c11,.slice A4 l5.length c12]] w fun e w'=>e= .returned (.bool r)∧Below w.heap.size w w':=by
 have hu32:=Tryz.underlying37
 have R0:=zz r0
 have C0:=zz h0
 clear r0 h0
 have R1:=zz r1
 have C1:=zz h2
 clear r1 h2
 have R2:=zz r2
 have C2:=zz h3
 clear r2 h3
 have R3:=zz r3
 have C3:=zz h4
 clear r3 h4
 have HB:=zz (z1a w.heap.size w)
 have H:((laws_eqStringS.f k l2 l4).bind fun t0=>(if t0=true then ((laws_eqPutS.f k l3 l5).bind fun t1=>(if t1=true then (some true) else (none))) else (none)))=some r:=h
 clear h
 replace H:=z2a H
 obtain ⟨t0,A6,H⟩:=H
 replace H:(if t0=true then ((laws_eqPutS.f k l3 l5).bind fun t1=>(if t1=true then (some true) else (none))) else (none))=some r:=H
 have A3:=zz A6
 clear A6
 by_cases c4:t0=true
 ·subst c4
  rw [if_pos rfl] at H
  replace H:=z2a H
  obtain ⟨t1,A7,H⟩:=H
  replace H:(if t1=true then (some true) else (none))=some r:=H
  have A5:=zz A7
  clear A7
  by_cases c6:t1=true
  ·subst c6
   rw [if_pos rfl] at H
   obtain rfl:=z6a H
   go_enter Tryz.func10,Tryz.ntmps10
   go_wp2_with (first|((with_reducible refine zd (N:=2) rfl ?_);refine zx rfl (N:=2) rfl (cs:= #[.slice A0 l2.length c0,.slice A1 l3.length c1]) (t:=37) zq27 ?_;intro g0 hg w7 hbox hb;have B0:=zz hbox;have G0:=zz (zq15:w.heap.size≤g0);replace HB:=zz (ze zq0 hb);clear hb hbox hg)|((with_reducible refine zd (N:=3) rfl ?_);refine zx rfl (N:=3) rfl (cs:= #[.slice A2 l4.length c11,.slice A4 l5.length c12]) (t:=37) zq27 ?_;intro g1 hg w8 hbox hb;have B2:=zz hbox;have G1:=zz (zq25 G0.1:w.heap.size≤g1);have N0:=zz (zq28 B0.1:g0≠g1);have N1:=zz (zq29 B0.1:g1≠g0);replace B0:=zz (zg (g:=g0) (o:= .cells #[.slice A0 l2.length c0,.slice A1 l3.length c1] 37 (0,0)) (zq1 B0.1) hb);replace HB:=zz (ze (zq4 G0.1) hb);clear hb hbox hg;have hnb9:=N0.1;have hnc9:=N1.1;obtain ⟨_,_,_,_⟩:=zV B0.1;obtain ⟨_,_,_,_⟩:=zV B2.1)|((with_reducible refine zr (f:=48) rfl ?_);refine zN (some 9) rfl rfl Tryz.func48 zq13 rfl #[.slice A0 l2.length c0,.slice A2 l4.length c11] rfl zq8 ?_;(with_reducible refine (laws_eqStringS.calls k _ _ l2 _ _ l4 true _ ?side1 ?side2 ?side3 ?side4 A3.1).mono ?_);(case side1=>repeat (first|exact (Kd.C_below R0.1 HB.1)|(with_reducible refine Kd.C_alloc ?_ _)|(with_reducible refine Kd.C_drewN ?_ _)|(with_reducible refine Kd.C_drew ?_)));(case side2=>exact C0.1);(case side3=>repeat (first|exact (Kd.C_below R2.1 HB.1)|(with_reducible refine Kd.C_alloc ?_ _)|(with_reducible refine Kd.C_drewN ?_ _)|(with_reducible refine Kd.C_drew ?_)));(case side4=>exact C2.1);rintro e w' ⟨rfl,⟨nd,rfl⟩⟩;refine ⟨_,rfl,?_⟩)|((with_reducible refine zr (f:=49) rfl ?_);refine zN (some 15) rfl rfl Tryz.func49 zq13 rfl #[.slice A1 l3.length c1,.slice A4 l5.length c12] rfl zq8 ?_;(with_reducible refine (laws_eqPutS.calls k _ _ l3 _ _ l5 true _ ?side1 ?side2 ?side3 ?side4 A5.1).mono ?_);(case side1=>repeat (first|exact (Kd.C_below R1.1 (zq5 G0.1 G1.1))|(with_reducible refine Kd.C_alloc ?_ _)|(with_reducible refine Kd.C_drewN ?_ _)|(with_reducible refine Kd.C_drew ?_)));(case side2=>exact C1.1);(case side3=>repeat (first|exact (Kd.C_below R3.1 (zq5 G0.1 G1.1))|(with_reducible refine Kd.C_alloc ?_ _)|(with_reducible refine Kd.C_drewN ?_ _)|(with_reducible refine Kd.C_drew ?_)));(case side4=>exact C3.1);rintro e w12 ⟨rfl,hb⟩;refine ⟨_,rfl,?_⟩;replace B0:=zz (zg (g:=g0) (o:= .cells #[.slice A0 l2.length c0,.slice A1 l3.length c1] 37 (0,0)) (zq1 B0.1) hb);replace B2:=zz (zg (g:=g1) (o:= .cells #[.slice A2 l4.length c11,.slice A4 l5.length c12] 37 (0,0)) (zq1 B2.1) hb);replace HB:=zz (ze (zq5 G0.1 G1.1) hb);(try clear hb);(try clear hb2);(try clear hk);(try clear hi)))
   exact zq214
  ·replace c6:=Bool.eq_false_iff.mpr c6
   subst c6
   exact zq163
 ·replace c4:=Bool.eq_false_iff.mpr c4
  subst c4
  exact zq163
def laws_eqIntS.l0:Nat→List Int→List Int→Int→Option (Bool)
 |0,_,_,_=>none
 |k+1,x0,x1,x5=>if x5<(x0.length:Int) then (if 0≤x5 then (if x5<(x1.length:Int) then (if (rd x0 x5)=(rd x1 x5) then (laws_eqIntS.l0 k x0 x1 (wrap64 (x5+1))) else (none)) else (none)) else (none)) else (some true)
def laws_eqIntS.f (k:Nat) (l0:List Int) (l1:List Int):Option (Bool):=if (l0.length:Int)=(l1.length:Int) then (laws_eqIntS.l0 k l0 l1 0) else (none)
theorem laws_eqIntS.mono_l:∀k,(∀y0 y1 y2,LeO (laws_eqIntS.l0 k y0 y1 y2) (laws_eqIntS.l0 (k+1) y0 y1 y2))
 |0=>fun _ _ _ r h=>by simp [laws_eqIntS.l0] at h
 |k+1=>by
  have ih0:=laws_eqIntS.mono_l k
  ·intro y0 y1 y2
   unfold laws_eqIntS.l0
   exact zq145
theorem laws_eqIntS.mono:∀a0 a1 k,LeO (laws_eqIntS.f k a0 a1) (laws_eqIntS.f (k+1) a0 a1):=by
 intro a0 a1 k
 have ih0:=laws_eqIntS.mono_l k
 unfold laws_eqIntS.f
 exact zq144
theorem laws_eqIntS.calls (k:Nat) (A0:Option Addr) (c0:Nat) (l0:List Int) (A1:Option Addr) (c1:Nat) (l1:List Int) (r:Bool) (w:World) (hr0:Kd.C (Kd.int .i64) w A0 l0.length l0) (hc0:l0.length≤c0) (hr1:Kd.C (Kd.int .i64) w A1 l1.length l1) (hc1:l1.length≤c1) (h:laws_eqIntS.f k l0 l1=some r):
  Calls Tryz.prog 99 #[.slice A0 l0.length c0,.slice A1 l1.length c1] w fun e w'=>e= .returned (.bool r)∧Drawn0 w w':=by
 have HR0:=zz hr0
 clear hr0 hc0
 have HR1:=zz hr1
 clear hr1 hc1
 have H:(if (l0.length:Int)=(l1.length:Int) then (laws_eqIntS.l0 k l0 l1 0) else (none))=some r:=h
 clear h
 by_cases c3:(l0.length:Int)=(l1.length:Int)
 ·rw [if_pos c3] at H
  have c3b0:((l0.length:Int)==(l1.length:Int))=true:=beq_iff_eq.mpr c3
  have c3b1:((l0.length:Int) !=(l1.length:Int))=false:=bne_eq_false_iff_eq.mpr c3
  have c3b2:(l0.length==l1.length)=true:=zq120
  clear c3
  have H':=zz H
  clear H
  go_enter Tryz.func99,Tryz.ntmps99
  go_wp2
  repeat (go_quiet (fail);try go_wp2)
  go_loopg [5] k (fun kq v5 w'=>∃(x0:Int),v5= .int .i64 x0∧Z0 (laws_eqIntS.l0 kq l0 l1 x0=some r)∧Z0 (kq≤k)∧Drawn0 w w')
  case atStart=>exact ⟨(0),zq18,H',⟨z3a _⟩,zq33⟩
  case round=>
   clear H'
   try clear c1
   try clear c3
   try clear c3b0
   try clear c3b1
   try clear c3b2
   obtain ⟨x0,rfl,HA,HK1,⟨m1,rfl⟩⟩:=hrel
   cases gk with
   |zero=>exact absurd HA.1 (by simp [laws_eqIntS.l0])
   |succ k1=>
    have H:=HA.1
    clear HA
    simp only [laws_eqIntS.l0] at H
    by_cases c4:x0<(l0.length:Int)
    ·rw [if_pos c4] at H
     have c4b0:=z6 c4
     clear c4
     by_cases c5:0≤x0
     ·rw [if_pos c5] at H
      have c5b0:=z6 c5
      clear c5
      by_cases c6:x0<(l1.length:Int)
      ·rw [if_pos c6] at H
       have c6b0:=z6 c6
       clear c6
       by_cases c7:(rd l0 x0)=(rd l1 x0)
       ·rw [if_pos c7] at H
        have c7b0:((rd l0 x0)==(rd l1 x0))=true:=beq_iff_eq.mpr c7
        have c7b1:((rd l0 x0) !=(rd l1 x0))=false:=bne_eq_false_iff_eq.mpr c7
        clear c7
        have H':=zz H
        clear H
        have p0:0≤(x0:Int):=z8 zq21
        have q0:x0<(l0.length:Int):=z8 zq21
        obtain ⟨ad273,e0,hx273_0⟩:=Kd.at_int HR0.1 x0 p0 q0
        cases e0
        replace p0:=eq_true p0
        replace q0:=eq_true q0
        have p1:0≤(x0:Int):=z8 zq21
        have q1:x0<(l1.length:Int):=z8 zq21
        obtain ⟨ad274,e1,hx274_0⟩:=Kd.at_int HR1.1 x0 p1 q1
        exact zq189
       ·exact zq176
      ·exact zq201
     ·exact zq155
    ·exact zq198
 ·exact zq166
def laws_markText.l0:Nat→Int→ByteArray→Option (ByteArray)
 |0,_,_=>none
 |k+1,x0,x3=>if x0>0 then ((some (([(wrap64 (48+(Int.tmod x0 10)))%256]:List Int):List Int)).bind fun y281=>(if (strOfNums y281).size+x3.size≤9223372036854775807 then (laws_markText.l0 k (wrap64 (Int.tdiv x0 10)) ((strOfNums y281)++x3)) else (none))) else (if 1+x3.size≤9223372036854775807 then (some ((⟨#[109]⟩:ByteArray)++x3)) else (none))
def laws_markText.f (k:Nat) (a0:Int):Option (ByteArray):=if a0≤0 then (some (⟨#[109,48]⟩:ByteArray)) else (laws_markText.l0 k a0 (⟨#[]⟩:ByteArray))
theorem laws_markText.mono_l:∀k,(∀y0 y1,LeO (laws_markText.l0 k y0 y1) (laws_markText.l0 (k+1) y0 y1))
 |0=>fun _ _ r h=>by simp [laws_markText.l0] at h
 |k+1=>by
  have ih0:=laws_markText.mono_l k
  ·intro y0 y1
   unfold laws_markText.l0
   exact zq159
theorem laws_markText.mono:∀a0 k,LeO (laws_markText.f k a0) (laws_markText.f (k+1) a0):=by
 intro a0 k
 have ih0:=laws_markText.mono_l k
 unfold laws_markText.f
 exact zq156
theorem laws_markText.calls (k:Nat) (a0:Int) (r:ByteArray) (w:World) (h:laws_markText.f k a0=some r):
  Calls Tryz.prog 101 #[.int .i64 a0] w fun e w'=>e= .returned (.string r)∧Below w.heap.size w w':=by
 have HB:=zz (z1a w.heap.size w)
 have H:(if a0≤0 then (some (⟨#[109,48]⟩:ByteArray)) else (laws_markText.l0 k a0 (⟨#[]⟩:ByteArray)))=some r:=h
 clear h
 by_cases c2:a0≤0
 ·rw [if_pos c2] at H
  have c2b0:=z6 c2
  clear c2
  obtain rfl:=z6a H
  go_enter Tryz.func101,Tryz.ntmps101
  exact zq169
 ·rw [if_neg c2] at H
  have c2b0:=z7 c2
  clear c2
  have H':=zz H
  clear H
  go_enter Tryz.func101,Tryz.ntmps101
  go_wp2
  go_loopg [0,3] k (fun kq v0 v3 w'=>∃(x0:Int) (x1:ByteArray),v0= .int .i64 x0∧v3= .string x1∧Z0 (laws_markText.l0 kq x0 x1=some r)∧Z0 (kq≤k)∧Z0 (Below w.heap.size w w'))
  case atStart=>exact ⟨(a0),((⟨#[]⟩:ByteArray)),zq18,zq18,H',⟨z3a _⟩,⟨zq0⟩⟩
  case round=>
   clear H'
   try clear c2
   try clear c2b0
   obtain ⟨x0,x1,rfl,rfl,HA,HK1,HB⟩:=hrel
   cases gk with
   |zero=>exact absurd HA.1 (by simp [laws_markText.l0])
   |succ k1=>
    have H:=HA.1
    clear HA
    simp only [laws_markText.l0] at H
    by_cases c3:x0>0
    ·rw [if_pos c3] at H
     have c3b0:decide (0<x0)=true:=z6 c3
     clear c3
     obtain ⟨y0,i0⟩:∃y_:List Int,y_=(([(wrap64 (48+(Int.tmod x0 10)))%256]:List Int)):=⟨_,rfl⟩
     replace H:(if (strOfNums y0).size+x1.size≤9223372036854775807 then (laws_markText.l0 k1 (wrap64 (Int.tdiv x0 10)) ((strOfNums y0)++x1)) else (none))=some r:=zq20
     have Y0:=zz i0
     clear i0
     by_cases c4:(strOfNums y0).size+x1.size≤9223372036854775807
     ·rw [if_pos c4] at H
      have c4b0:=eq_true c4
      have c4b1:=z6 c4
      try have c4b2:(9223372036854775807<(strOfNums y0).size+x1.size)=False:=eq_false (Nat.not_lt.2 c4)
      have H':=zz H
      clear H
      go_wp2_with (first|((with_reducible refine zd (N:=12) rfl ?_);refine Kd.R_lit (Kd.int .u8) _ 5 ?hg (N:=12) ?hd (xs:=([(wrap64 (48+(Int.tmod x0 10)))%256]:List Int)) (inner:=[.int .u8 ((wrap64 (48+(Int.tmod x0 10)))%256)]) (ok:=fun _=>True) (okp:=fun _=>True) ?hr ?hp (fun _ hk=>hk) trivial (z1a _ _) (z3a _) zq38 ?_;(case hd=>rfl);(case hg=>rfl);(case hr=>first|(go_simp;done)|(go_simp;rfl));(case hp=>exact (Reps.one (show Kd.M (Kd.int .u8) _ _ _ ((wrap64 (48+(Int.tmod x0 10)))%256) [.int .u8 ((wrap64 (48+(Int.tmod x0 10)))%256)] from rfl) (Reps.none _ _)));intro v282 w5 ho6 hb hg_ hnew_;clear hg_ hnew_;(first|rw [←Y0.1] at ho6|(simp only [Int.reduceToNat] at ho6;rw [←Y0.1] at ho6));have O0:=zz (Kd.R_lower ho6 (zD zq0));replace HB:=zz (ze zq0 hb);clear hb ho6;have hcv7:=zYb (P:=Tryz.prog) Tryz.underlying141 Tryz.underlying5 Tryz.underlying9 (Kd.own_of_R O0.1)))
      go_roundg k1
      case measure=>have:=HK1.1;omega
      case rel=>exact ⟨(wrap64 (Int.tdiv x0 10)),((strOfNums y0)++x1),zq18,zq18,H',⟨zq51 HK1.1⟩,⟨zq0⟩⟩
     ·exact zq161
    ·rw [if_neg c3] at H
     have c3b0:decide (0<x0)=false:=z7 c3
     clear c3
     by_cases c8:1+x1.size≤9223372036854775807
     ·rw [if_pos c8] at H
      have c8b0:=eq_true c8
      have c8b1:=z6 c8
      try have c8b2:(9223372036854775807<1+x1.size)=False:=eq_false (Nat.not_lt.2 c8)
      obtain rfl:=z6a H
      exact zq169
     ·rw [if_neg c8] at H
      exact absurd H zq38
def laws_markStringS.l0:Nat→List ByteArray→Int→Int→Option (Int×List ByteArray)
 |0,_,_,_=>none
 |k+1,x0,x1,x5=>if x5<(x0.length:Int) then ((laws_markText.f k x1).bind fun t284=>(if 0≤x5 then (laws_markStringS.l0 k (x0.set (x5:Int).toNat t284) (wrap64 (x1+1)) (wrap64 (x5+1))) else (none))) else (some (x1,x0))
def laws_markStringS.f (k:Nat) (l0:List ByteArray) (a1:Int):Option (Int×List ByteArray):=laws_markStringS.l0 k l0 a1 0
theorem laws_markStringS.calls (k:Nat) (P0_:Nat→Prop) (u0:Value) (l0:List ByteArray) (a1:Int) (r1:Int) (r2:List ByteArray) (w0 w:World) (hB:Below w0.heap.size w0 w) (ho0:Kd.R Kd.string 9 w w0.heap.size P0_ u0 l0) (h:laws_markStringS.f k l0 a1=some (r1,r2)):
  Calls Tryz.prog 53 #[u0,.int .i64 a1] w fun e w'=>e= .returned (.int .i64 r1)∧Kd.R Kd.string 9 w' w0.heap.size (fun k_=>(P0_ k_∨w.heap.size≤k_)) u0 r2∧Below w0.heap.size w0 w'∧Kept w w' (fun k_=>P0_ k_):=by
 have HO0:=zz (show Kd.R Kd.string 9 w w0.heap.size (fun k_=>(P0_ k_∨w.heap.size≤k_)) u0 l0 from Kd.R_mono ho0 (fun k_ hk=>(.inl hk)))
 have HK:=zz (Kept.refl w (fun k_=>P0_ k_))
 have HB:=zz hB
 clear hB
 have H:(laws_markStringS.l0 k l0 a1 0)=some (r1,r2):=h
 clear h
 have H':=zz H
 clear H
 go_enter Tryz.func53,Tryz.ntmps53
 go_wp2
 go_loopg [1,5] k (fun kq v1 v5 w'=>∃(x0:List ByteArray) (x1:Int) (x2:Int),v1= .int .i64 x1∧v5= .int .i64 x2∧Z0 (laws_markStringS.l0 kq x0 x1 x2=some (r1,r2))∧Z0 (kq≤k)∧Z0 (Kd.R Kd.string 9 w' w0.heap.size (fun k_=>(P0_ k_∨w.heap.size≤k_)) u0 x0)∧Z0 (Kept w w' (fun k_=>P0_ k_))∧Z0 (Below w0.heap.size w0 w'))
 case atStart=>exact ⟨(l0),(a1),(0),zq18,zq18,H',⟨z3a _⟩,⟨by (with_reducible repeat (first|apply Kd.R_alloc|apply Kd.R_drewN|apply Kd.R_drew));exact HO0.1⟩,⟨zq30⟩,⟨zq0⟩⟩
 case round=>
  clear H'
  obtain ⟨x0,x1,x2,rfl,rfl,HA,HK1,O0,HK,HB⟩:=hrel
  cases gk with
  |zero=>exact absurd HA.1 (by simp [laws_markStringS.l0])
  |succ k1=>
   have H:=HA.1
   clear HA
   simp only [laws_markStringS.l0] at H
   by_cases c3:x2<(x0.length:Int)
   ·rw [if_pos c3] at H
    have c3b0:=z6 c3
    clear c3
    replace H:=z2a H
    obtain ⟨t0,A0,H⟩:=H
    replace H:(if 0≤x2 then (laws_markStringS.l0 k1 (x0.set (x2:Int).toNat t0) (wrap64 (x1+1)) (wrap64 (x2+1))) else (none))=some (r1,r2):=H
    have A4:=zz A0
    clear A0
    by_cases c5:0≤x2
    ·rw [if_pos c5] at H
     have c5b0:=z6 c5
     clear c5
     obtain ⟨y0,i0⟩:∃y_:List ByteArray,y_=(x0.set (x2:Int).toNat t0):=⟨_,rfl⟩
     replace H:(laws_markStringS.l0 k1 y0 (wrap64 (x1+1)) (wrap64 (x2+1)))=some (r1,r2):=zq20
     have Y0:=zz i0
     clear i0
     have H':=zz H
     clear H
     obtain ⟨Ao7,co7,eo7⟩:=Kd.R_slice O0.1
     subst eo7
     go_wp2_with (first|((with_reducible refine zr (f:=101) rfl ?_);refine zN (some 15) rfl rfl Tryz.func101 zq13 rfl #[.int .i64 x1] rfl zq8 ?_;(with_reducible refine (laws_markText.calls k1 x1 t0 _ A4.1).mono ?_);rintro e w8 ⟨rfl,hb⟩;refine ⟨_,rfl,?_⟩;replace O0:=zz (Kd.R_below (zq17 O0.1) hb);replace HK:=zz (Kept.below (S:=(fun k_=>P0_ k_)) zq30 hb);replace HB:=zz (ze zq0 hb);(try clear hb);(try clear hb2);(try clear hk);(try clear hi);have p6:0≤(x2:Int):=z8 zq21;have q6:(x2:Int)<((x0.length:Int):Int):=z8 zq21;obtain ⟨go6,co6,eo6,gb6,gl6,cl6,HG6⟩:=Kd.R_form O0.1 zq9;(first|cases eo6|(injection eo6 with ea_ en_ ec_;(first|subst ea_|(injection ea_ with ea_;subst ea_));subst ec_;clear en_));have GB6:=zz gb6;clear gb6 gl6 HG6;obtain ⟨hx6_0,hf6_0⟩:=Kd.R_celln (⟨#[]⟩:ByteArray) O0.1 (x2:Int) p6 q6;replace p6:=eq_true p6;replace q6:=eq_true q6;obtain ⟨hy9_,hz9_⟩:=Kd.R_celln (⟨#[]⟩:ByteArray) O0.1 (x2:Int) (z8 zq21) (z8 zq21);have HP9:=Kd.R_putg O0.1 (x2:Int) t0)|((with_reducible refine zm (t:=9) (p:=16) rfl ?_);refine zGa (t:=9) (p:=16) (v:= ?vo_w10) (w1:=(w8.setCell ⟨go6,(x2:Int).toNat,none⟩ (.string t0))) ?hg ?ho ?hn ?hr ?_;(case ho=>rfl);(case hg=>rfl);(case hn=>rfl);(case hr=>first|(go_simp;done)|(go_simp;rfl));intro w5 hw;have hg:w8.grownBy w5 (some go6):=(by rw [hw];exact HP9.2);have hp_:Kd.R Kd.string 9 w5 w0.heap.size (fun k_=>(P0_ k_∨w.heap.size≤k_)) (.slice (some ⟨go6,0,none⟩) x0.length co7) y0:=(by rw [hw,Y0.1];exact HP9.1);clear HP9;replace HB:=zz (zq108 GB6.1:Below w0.heap.size w0 w5);replace HK:=zz (Kept.of_grown (S:=(fun k_=>P0_ k_)) hg zq30 (fun k_ e_=>(O0.1.1 k_ e_)));replace O0:=zz hp_;clear hg hw hp_))
     exact zq184
    ·exact zq155
   ·rw [if_neg c3] at H
    have c3b0:=z7 c3
    clear c3
    simp only [Option.some.injEq,Prod.mk.injEq] at H
    obtain ⟨rfl,rfl⟩:=H
    obtain ⟨Ao11,co11,e0⟩:=Kd.R_slice O0.1
    subst e0
    exact zq177
def laws_markPutS.l0:Nat→List (S110)→Int→Int→Option (Int×(List (S110)))
 |0,_,_,_=>none
 |k+1,x0,x1,x5=>if x5<(x0.length:Int) then (if 0≤x5 then ((some (x0.set (x5:Int).toNat (⟨x1,(zv x0 x5).f1⟩:S110):List (S110))).bind fun y286=>((laws_markText.f k (wrap64 (x1+1))).bind fun t287=>(laws_markPutS.l0 k (y286.set (x5:Int).toNat (⟨(zv y286 x5).f0,t287⟩:S110)) (wrap64 ((wrap64 (x1+1))+1)) (wrap64 (x5+1))))) else (none)) else (some (x1,x0))
def laws_markPutS.f (k:Nat) (l0:List (S110)) (a1:Int):Option (Int×(List (S110))):=laws_markPutS.l0 k l0 a1 0
theorem laws_markPutS.calls (k:Nat) (P0_:Nat→Prop) (u0:Value) (l0:List (S110)) (a1:Int) (r1:Int) (r2:List (S110)) (w0 w:World) (hB:Below w0.heap.size w0 w) (ho0:Kd.R k110 110 w w0.heap.size P0_ u0 l0) (h:laws_markPutS.f k l0 a1=some (r1,r2)):
  Calls Tryz.prog 54 #[u0,.int .i64 a1] w fun e w'=>e= .returned (.int .i64 r1)∧Kd.R k110 110 w' w0.heap.size (fun k_=>(P0_ k_∨w.heap.size≤k_)) u0 r2∧Below w0.heap.size w0 w'∧Kept w w' (fun k_=>P0_ k_):=by
 have HO0:=zz (show Kd.R k110 110 w w0.heap.size (fun k_=>(P0_ k_∨w.heap.size≤k_)) u0 l0 from Kd.R_mono ho0 (fun k_ hk=>(.inl hk)))
 have HK:=zz (Kept.refl w (fun k_=>P0_ k_))
 have HB:=zz hB
 clear hB
 have H:(laws_markPutS.l0 k l0 a1 0)=some (r1,r2):=h
 clear h
 have H':=zz H
 clear H
 go_enter Tryz.func54,Tryz.ntmps54
 go_wp2
 go_loopg [1,5] k (fun kq v1 v5 w'=>∃(x0:List (S110)) (x1:Int) (x2:Int),v1= .int .i64 x1∧v5= .int .i64 x2∧Z0 (laws_markPutS.l0 kq x0 x1 x2=some (r1,r2))∧Z0 (kq≤k)∧Z0 (Kd.R k110 110 w' w0.heap.size (fun k_=>(P0_ k_∨w.heap.size≤k_)) u0 x0)∧Z0 (Kept w w' (fun k_=>P0_ k_))∧Z0 (Below w0.heap.size w0 w'))
 case atStart=>exact ⟨(l0),(a1),(0),zq18,zq18,H',⟨z3a _⟩,⟨by (with_reducible repeat (first|apply Kd.R_alloc|apply Kd.R_drewN|apply Kd.R_drew));exact HO0.1⟩,⟨zq30⟩,⟨zq0⟩⟩
 case round=>
  clear H'
  obtain ⟨x0,x1,x2,rfl,rfl,HA,HK1,O0,HK,HB⟩:=hrel
  cases gk with
  |zero=>exact absurd HA.1 (by simp [laws_markPutS.l0])
  |succ k1=>
   have H:=HA.1
   clear HA
   simp only [laws_markPutS.l0] at H
   by_cases c3:x2<(x0.length:Int)
   ·rw [if_pos c3] at H
    have c3b0:=z6 c3
    clear c3
    by_cases c4:0≤x2
    ·rw [if_pos c4] at H
     have c4b0:=z6 c4
     clear c4
     obtain ⟨y0,i0⟩:∃y_:List (S110),y_=(x0.set (x2:Int).toNat (⟨x1,(zv x0 x2).f1⟩:S110)):=⟨_,rfl⟩
     replace H:((laws_markText.f k1 (wrap64 (x1+1))).bind fun t0=>(laws_markPutS.l0 k1 (y0.set (x2:Int).toNat (⟨(zv y0 x2).f0,t0⟩:S110)) (wrap64 ((wrap64 (x1+1))+1)) (wrap64 (x2+1))))=some (r1,r2):=zq20
     have Y0:=zz i0
     clear i0
     replace H:=z2a H
     obtain ⟨t0,A0,H⟩:=H
     replace H:(laws_markPutS.l0 k1 (y0.set (x2:Int).toNat (⟨(zv y0 x2).f0,t0⟩:S110)) (wrap64 ((wrap64 (x1+1))+1)) (wrap64 (x2+1)))=some (r1,r2):=H
     have A6:=zz A0
     clear A0
     obtain ⟨y1,i1⟩:∃y_:List (S110),y_=(y0.set (x2:Int).toNat (⟨(zv y0 x2).f0,t0⟩:S110)):=⟨_,rfl⟩
     replace H:(laws_markPutS.l0 k1 y1 (wrap64 ((wrap64 (x1+1))+1)) (wrap64 (x2+1)))=some (r1,r2):=zq34
     have Y1:=zz i1
     clear i1
     have H':=zz H
     clear H
     obtain ⟨Ao8,co8,eo8⟩:=Kd.R_slice O0.1
     subst eo8
     have p5:0≤(x2:Int):=z8 zq21
     have q5:(x2:Int)<((x0.length:Int):Int):=z8 zq21
     obtain ⟨go5,co5,eo5,gb5,gl5,cl5,HG5⟩:=Kd.R_form O0.1 zq9
     (first|cases eo5|(injection eo5 with ea_ en_ ec_;(first|subst ea_|(injection ea_ with ea_;subst ea_));subst ec_;clear en_))
     have GB5:=zz gb5
     clear gb5 gl5 HG5
     obtain ⟨ce5,hcl5,hM5,hcc5,hfr5⟩:=Kd.R_elem O0.1 z110 (x2:Int) p5 q5
     obtain rfl:=zDb hM5
     have hx5_0:wr.cell? ⟨go5,(x2:Int).toNat*2,none⟩=some (.int .i64 ((zv x0 x2).f0)):=hcc5 0 _ rfl
     have hx5_1:wr.cell? ⟨go5,(x2:Int).toNat*2+1,none⟩=some (.string ((zv x0 x2).f1)):=hcc5 1 _ rfl
     have hf5_0:wr.frozen? ⟨go5,(x2:Int).toNat*2,none⟩=false:=hfr5 0
     have hf5_1:wr.frozen? ⟨go5,(x2:Int).toNat*2+1,none⟩=false:=hfr5 1
     clear hcl5 hcc5 hfr5 hM5
     replace p5:=eq_true p5
     replace q5:=eq_true q5
     have HX9:=zz (show Kd.R k110 110 wr w0.heap.size (fun k_=>(P0_ k_∨w.heap.size≤k_)) (.slice (some ⟨go5,0,none⟩) x0.length co8) x0 from (zq17 O0.1))
     obtain ⟨ce9,hcl9,hM9,hcc9,hfr9⟩:=Kd.R_elem HX9.1 z110 (x2:Int) (z8 zq21) (zq65 O0.1)
     obtain rfl:=zDb hM9
     have HP9:=Kd.R_seg HX9.1 (x2:Int) (z8 zq21) (zq65 O0.1) (seg:=[.int .i64 x1]) (j:=0) hcl9 hcc9 (show 1≤2 from by decide) (x':=(⟨x1,(zv x0 x2).f1⟩:S110)) (k110_mkM _ _ _ (⟨x1,(zv x0 x2).f1⟩:S110)) (fun _ hk=>hk)
     have k0:=hcc9 0 _ rfl
     (try simp only [show (k110).sz=2 from rfl,Nat.mul_one,Nat.add_zero] at k0)
     have hf9_0:=hfr9 0
     (try simp only [show (k110).sz=2 from rfl,Nat.mul_one,Nat.add_zero] at hf9_0)
     clear hcl9 hcc9 hfr9 hM9
     go_wp2_with (first|((with_reducible refine zm (t:=3) (p:=16) rfl ?_);refine zGa (t:=3) (p:=16) (v:= ?vo_w10) (w1:=(wr.setCell ⟨go5,(x2:Int).toNat*2,none⟩ (.int .i64 x1))) ?hg ?ho ?hn ?hr ?_;(case ho=>rfl);(case hg=>rfl);(case hn=>rfl);(case hr=>first|(go_simp;done)|(go_simp;rfl));intro w5 hw;have hg:wr.grownBy w5 (some go5):=(by rw [hw];exact HP9.2);have hp_:Kd.R k110 110 w5 w0.heap.size (fun k_=>(P0_ k_∨w.heap.size≤k_)) (.slice (some ⟨go5,0,none⟩) x0.length co8) y0:=(by rw [hw,Y0.1];exact HP9.1);clear HP9;replace HB:=zz (zq108 GB5.1:Below w0.heap.size w0 w5);replace HK:=zz (Kept.of_grown (S:=(fun k_=>P0_ k_)) hg zq30 (fun k_ e_=>(O0.1.1 k_ e_)));replace O0:=zz hp_;clear hg hw hp_)|((with_reducible refine zr (f:=101) rfl ?_);refine zN (some 22) rfl rfl Tryz.func101 zq13 rfl #[.int .i64 (wrap64 (x1+1))] rfl zq8 ?_;(with_reducible refine (laws_markText.calls k1 (wrap64 (x1+1)) t0 _ A6.1).mono ?_);rintro e w6 ⟨rfl,hb⟩;refine ⟨_,rfl,?_⟩;replace O0:=zz (Kd.R_below (zq17 O0.1) hb);replace HK:=zz (Kept.below (S:=(fun k_=>P0_ k_)) zq30 hb);replace HB:=zz (ze zq0 hb);(try clear hb);(try clear hb2);(try clear hk);(try clear hi);have p7:0≤(x2:Int):=z8 zq21;have q7:(x2:Int)<((x0.length:Int):Int):=z8 zq21;obtain ⟨ce7,hcl7,hM7,hcc7,hfr7⟩:=Kd.R_elem O0.1 z110 (x2:Int) p7 q7;obtain rfl:=zDb hM7;have hx7_0:w6.cell? ⟨go5,(x2:Int).toNat*2,none⟩=some (.int .i64 ((zv y0 x2).f0)):=hcc7 0 _ rfl;have hx7_1:w6.cell? ⟨go5,(x2:Int).toNat*2+1,none⟩=some (.string ((zv y0 x2).f1)):=hcc7 1 _ rfl;have hf7_0:w6.frozen? ⟨go5,(x2:Int).toNat*2,none⟩=false:=hfr7 0;have hf7_1:w6.frozen? ⟨go5,(x2:Int).toNat*2+1,none⟩=false:=hfr7 1;clear hcl7 hcc7 hfr7 hM7;replace p7:=eq_true p7;replace q7:=eq_true q7;have HX12:=zz (show Kd.R k110 110 w6 w0.heap.size (fun k_=>(P0_ k_∨w.heap.size≤k_)) (.slice (some ⟨go5,0,none⟩) x0.length co8) y0 from (zq17 O0.1));obtain ⟨ce12,hcl12,hM12,hcc12,hfr12⟩:=Kd.R_elem HX12.1 z110 (x2:Int) (z8 zq21) (zq65 O0.1);obtain rfl:=zDb hM12;have HP12:=Kd.R_seg HX12.1 (x2:Int) (z8 zq21) (zq65 O0.1) (seg:=[.string t0]) (j:=1) hcl12 hcc12 (show 2≤2 from by decide) (x':=(⟨(zv y0 x2).f0,t0⟩:S110)) (k110_mkM _ _ _ (⟨(zv y0 x2).f0,t0⟩:S110)) (fun _ hk=>hk);have k2:=hcc12 1 _ rfl;(try simp only [show (k110).sz=2 from rfl,Nat.mul_one,Nat.add_zero] at k2);have hf12_1:=hfr12 1;(try simp only [show (k110).sz=2 from rfl,Nat.mul_one,Nat.add_zero] at hf12_1);clear hcl12 hcc12 hfr12 hM12)|((with_reducible refine zm (t:=9) (p:=24) rfl ?_);refine zGa (t:=9) (p:=24) (v:= ?vo_w13) (w1:=(w6.setCell ⟨go5,(x2:Int).toNat*2+1,none⟩ (.string t0))) ?hg ?ho ?hn ?hr ?_;(case ho=>rfl);(case hg=>rfl);(case hn=>rfl);(case hr=>first|(go_simp;done)|(go_simp;rfl));intro w7 hw;have hg:w6.grownBy w7 (some go5):=(by rw [hw];exact HP12.2);have hp_:Kd.R k110 110 w7 w0.heap.size (fun k_=>(P0_ k_∨w.heap.size≤k_)) (.slice (some ⟨go5,0,none⟩) x0.length co8) y1:=(by rw [hw,Y1.1];exact HP12.1);clear HP12;replace HB:=zz (zq108 GB5.1:Below w0.heap.size w0 w7);replace HK:=zz (Kept.of_grown (S:=(fun k_=>P0_ k_)) hg zq30 (fun k_ e_=>(O0.1.1 k_ e_)));replace O0:=zz hp_;clear hg hw hp_))
     go_roundg k1
     case measure=>have:=HK1.1;omega
     case rel=>exact ⟨(y1),(wrap64 ((wrap64 (x1+1))+1)),(wrap64 (x2+1)),zq18,zq18,H',⟨zq51 HK1.1⟩,⟨by (with_reducible repeat (first|apply Kd.R_alloc|apply Kd.R_drewN|apply Kd.R_drew));exact O0.1⟩,⟨zq30⟩,⟨zq0⟩⟩
    ·exact zq161
   ·rw [if_neg c3] at H
    have c3b0:=z7 c3
    clear c3
    simp only [Option.some.injEq,Prod.mk.injEq] at H
    obtain ⟨rfl,rfl⟩:=H
    obtain ⟨Ao14,co14,e0⟩:=Kd.R_slice O0.1
    subst e0
    exact zq177
def laws_markDisk.f (k:Nat) (l0_0:List ByteArray) (l0_1:List (S110)) (a1:Int):Option (Int×List ByteArray×(List (S110))):=(laws_markStringS.f k l0_0 a1).bind fun bt290=>((laws_markPutS.f k l0_1 bt290.1).bind fun bt292=>(some (bt292.1,bt290.2,bt292.2)))
theorem laws_markDisk.calls (k:Nat) (P0_0_:Nat→Prop) (u0:Value) (l2:List ByteArray) (P0_1_:Nat→Prop) (u1:Value) (l3:List (S110)) (a1:Int) (r1:Int) (r2:List ByteArray) (r3:List (S110)) (w0 w:World) (hB:Below w0.heap.size w0 w) (ho0_0:Kd.R Kd.string 9 w w0.heap.size P0_0_ u0 l2) (ho0_1:Kd.R k110 110 w w0.heap.size P0_1_ u1 l3) (h:laws_markDisk.f k l2 l3 a1=some (r1,r2,r3)):
  Calls Tryz.prog 14 #[.agg #[u0,u1],.int .i64 a1] w fun e w'=>e= .returned (.int .i64 r1)∧Kd.R Kd.string 9 w' w0.heap.size (fun k_=>((P0_0_ k_∨P0_1_ k_)∨w.heap.size≤k_)) u0 r2∧Kd.R k110 110 w' w0.heap.size (fun k_=>((P0_0_ k_∨P0_1_ k_)∨w.heap.size≤k_)) u1 r3∧Below w0.heap.size w0 w'∧Kept w w' (fun k_=>P0_0_ k_∨P0_1_ k_):=by
 have hu32:=Tryz.underlying37
 have O0:=zz (show Kd.R Kd.string 9 w w0.heap.size (fun k_=>((P0_0_ k_∨P0_1_ k_)∨w.heap.size≤k_)) u0 l2 from Kd.R_mono ho0_0 (fun k_ hk=>(.inl (.inl hk))))
 have O1:=zz (show Kd.R k110 110 w w0.heap.size (fun k_=>((P0_0_ k_∨P0_1_ k_)∨w.heap.size≤k_)) u1 l3 from Kd.R_mono ho0_1 (fun k_ hk=>(.inl (.inr hk))))
 have HK:=zz (Kept.refl w (fun k_=>P0_0_ k_∨P0_1_ k_))
 have HB:=zz hB
 clear hB
 have H:((laws_markStringS.f k l2 a1).bind fun b0=>((laws_markPutS.f k l3 b0.1).bind fun b1=>(some (b1.1,b0.2,b1.2))))=some (r1,r2,r3):=h
 clear h
 replace H:=z2a H
 obtain ⟨⟨t0,t1⟩,A0,H⟩:=H
 replace H:((laws_markPutS.f k l3 t0).bind fun b1=>(some (b1.1,t1,b1.2)))=some (r1,r2,r3):=H
 have A3:=zz A0
 clear A0
 replace H:=z2a H
 obtain ⟨⟨t2,t3⟩,A1,H⟩:=H
 replace H:(some (t2,t1,t3))=some (r1,r2,r3):=H
 have A4:=zz A1
 clear A1
 simp only [Option.some.injEq,Prod.mk.injEq] at H
 obtain ⟨rfl,rfl,rfl⟩:=H
 obtain ⟨Ao5,co5,eo5⟩:=Kd.R_slice O0.1
 subst eo5
 obtain ⟨Ao6,co6,eo6⟩:=Kd.R_slice O1.1
 subst eo6
 go_enter Tryz.func14,Tryz.ntmps14
 go_wp2_with (first|((with_reducible refine zd (N:=2) rfl ?_);refine zx rfl (N:=2) rfl (cs:= #[.slice Ao5 l2.length co5,.slice Ao6 l3.length co6]) (t:=37) zq27 ?_;intro g0 hg w7 hbox hb;have B0:=zz hbox;have H0:=zz (by rw [hg];exact (by first|exact HK.1.1|exact (show Kept w _ (fun k_=>P0_0_ k_∨P0_1_ k_) from by repeat (first|(with_reducible first|exact HK.1|apply Kept.alloc|apply Kept.drewN|apply Kept.drew)|exact HK.1)).1):w.heap.size≤g0);have G0:=zz (zq15:w0.heap.size≤g0);replace O0:=zz (Kd.R_below (zq17 O0.1) hb);replace O1:=zz (Kd.R_below (zq17 O1.1) hb);replace HK:=zz (Kept.below (S:=(fun k_=>P0_0_ k_∨P0_1_ k_)) zq30 hb);replace HB:=zz (ze zq0 hb);clear hb hbox hg;obtain ⟨_,_,_,_⟩:=zV B0.1)|((with_reducible refine zr (f:=53) rfl ?_);refine zN (some 8) rfl rfl Tryz.func53 zq13 rfl #[.slice Ao5 l2.length co5,.int .i64 a1] rfl zq8 ?_;(with_reducible refine (laws_markStringS.calls k (fun k_=>some k_=(.slice Ao5 l2.length co5:Value).ownBlock) (.slice Ao5 l2.length co5) l2 a1 t0 t1 w0 _ ?side1 ?side2 A3.1).mono ?_);(case side1=>repeat (first|(with_reducible first|exact HB.1|apply zo|apply zO|apply zR|refine zZ ?_ G0.1)|exact HB.1));(case side2=>exact Kd.R_tight rfl O0.1);rintro e w9 ⟨rfl,hy0,hb,hkp⟩;refine ⟨_,rfl,?_⟩;replace O1:=zz (Kd.R_mono (ok':=fun k_=>((P0_0_ k_∨P0_1_ k_)∨w.heap.size≤k_)) (Kd.R_keptB ((Kd.R_apart' O1.1 (Kd.R_typed O0.1) zq31)) hkp (fun k_ hk_ hs_=>(hk_.2) hs_)) (fun k_ hk_=>hk_.1.1));replace B0:=zz (zab (zq1 B0.1) hkp (fun hs_=>(fun e_=>(Kd.R_ne O0.1 B0.1 zq31) e_) hs_));replace HK:=zz (Kept.then_ (S:=(fun k_=>P0_0_ k_∨P0_1_ k_)) (zq86 H0.1) hkp (fun k_ hs_=>(fun e_=>(O0.1.1 k_ e_.symm)) hs_));replace O0:=zz (Kd.R_reok rfl hy0 (fun k_ e_=>O0.1.1 k_ e_));replace HB:=zz hb;(try clear hb);(try clear hkp);(try clear hy0);obtain ⟨_,_,_,_⟩:=zV B0.1)|((with_reducible refine zr (f:=54) rfl ?_);refine zN (some 12) rfl rfl Tryz.func54 zq13 rfl #[.slice Ao6 l3.length co6,.int .i64 t0] rfl zq8 ?_;(with_reducible refine (laws_markPutS.calls k (fun k_=>some k_=(.slice Ao6 l3.length co6:Value).ownBlock) (.slice Ao6 l3.length co6) l3 t0 t2 t3 w0 _ ?side1 ?side2 A4.1).mono ?_);(case side1=>repeat (first|(with_reducible first|exact HB.1|apply zo|apply zO|apply zR|refine zZ ?_ G0.1)|exact HB.1));(case side2=>exact Kd.R_tight rfl O1.1);rintro e w11 ⟨rfl,hy0,hb,hkp⟩;refine ⟨_,rfl,?_⟩;replace O0:=zz (Kd.R_mono (ok':=fun k_=>((P0_0_ k_∨P0_1_ k_)∨w.heap.size≤k_)) (Kd.R_keptB ((Kd.R_apart' O0.1 (Kd.R_typed O1.1) zq31)) hkp (fun k_ hk_ hs_=>(hk_.2) hs_)) (fun k_ hk_=>hk_.1.1));replace B0:=zz (zab (zq1 B0.1) hkp (fun hs_=>(fun e_=>(Kd.R_ne O1.1 B0.1 zq31) e_) hs_));replace HK:=zz (Kept.then_ (S:=(fun k_=>P0_0_ k_∨P0_1_ k_)) (zq86 H0.1) hkp (fun k_ hs_=>(fun e_=>(O1.1.1 k_ e_.symm)) hs_));replace O1:=zz (Kd.R_reok rfl hy0 (fun k_ e_=>O1.1.1 k_ e_));replace HB:=zz hb;(try clear hb);(try clear hkp);(try clear hy0)))
 go_ret
 exact ⟨zq16,by (with_reducible repeat (first|apply Kd.R_alloc|apply Kd.R_drewN|apply Kd.R_drew));exact O0.1,by (with_reducible repeat (first|apply Kd.R_alloc|apply Kd.R_drewN|apply Kd.R_drew));exact O1.1,zq4 G0.1,zq86 H0.1⟩
def laws_markIntS.l0:Nat→List Int→Int→Int→Option (Int×List Int)
 |0,_,_,_=>none
 |k+1,x0,x1,x5=>if x5<(x0.length:Int) then (if 0≤x5 then (laws_markIntS.l0 k (x0.set (x5:Int).toNat x1) (wrap64 (x1+1)) (wrap64 (x5+1))) else (none)) else (some (x1,x0))
def laws_markIntS.f (k:Nat) (l0:List Int) (a1:Int):Option (Int×List Int):=laws_markIntS.l0 k l0 a1 0
theorem laws_markIntS.calls (k:Nat) (P0_:Nat→Prop) (u0:Value) (l0:List Int) (a1:Int) (r1:Int) (r2:List Int) (w0 w:World) (hB:Below w0.heap.size w0 w) (ho0:Kd.R (Kd.int .i64) 3 w w0.heap.size P0_ u0 l0) (h:laws_markIntS.f k l0 a1=some (r1,r2)):
  Calls Tryz.prog 100 #[u0,.int .i64 a1] w fun e w'=>e= .returned (.int .i64 r1)∧Kd.R (Kd.int .i64) 3 w' w0.heap.size (fun k_=>(P0_ k_∨w.heap.size≤k_)) u0 r2∧Below w0.heap.size w0 w'∧Kept w w' (fun k_=>P0_ k_):=by
 have HO0:=zz (show Kd.R (Kd.int .i64) 3 w w0.heap.size (fun k_=>(P0_ k_∨w.heap.size≤k_)) u0 l0 from Kd.R_mono ho0 (fun k_ hk=>(.inl hk)))
 have HK:=zz (Kept.refl w (fun k_=>P0_ k_))
 have HB:=zz hB
 clear hB
 have H:(laws_markIntS.l0 k l0 a1 0)=some (r1,r2):=h
 clear h
 have H':=zz H
 clear H
 go_enter Tryz.func100,Tryz.ntmps100
 go_wp2
 go_loopg [1,5] k (fun kq v1 v5 w'=>∃(x0:List Int) (x1:Int) (x2:Int),v1= .int .i64 x1∧v5= .int .i64 x2∧Z0 (laws_markIntS.l0 kq x0 x1 x2=some (r1,r2))∧Z0 (kq≤k)∧Z0 (Kd.R (Kd.int .i64) 3 w' w0.heap.size (fun k_=>(P0_ k_∨w.heap.size≤k_)) u0 x0)∧Z0 (Kept w w' (fun k_=>P0_ k_))∧Z0 (Below w0.heap.size w0 w'))
 case atStart=>exact ⟨(l0),(a1),(0),zq18,zq18,H',⟨z3a _⟩,⟨by (with_reducible repeat (first|apply Kd.R_alloc|apply Kd.R_drewN|apply Kd.R_drew));exact HO0.1⟩,⟨zq30⟩,⟨zq0⟩⟩
 case round=>
  clear H'
  obtain ⟨x0,x1,x2,rfl,rfl,HA,HK1,O0,HK,HB⟩:=hrel
  cases gk with
  |zero=>exact absurd HA.1 (by simp [laws_markIntS.l0])
  |succ k1=>
   have H:=HA.1
   clear HA
   simp only [laws_markIntS.l0] at H
   by_cases c3:x2<(x0.length:Int)
   ·rw [if_pos c3] at H
    have c3b0:=z6 c3
    clear c3
    by_cases c4:0≤x2
    ·rw [if_pos c4] at H
     have c4b0:=z6 c4
     clear c4
     obtain ⟨y0,i0⟩:∃y_:List Int,y_=(x0.set (x2:Int).toNat x1):=⟨_,rfl⟩
     replace H:(laws_markIntS.l0 k1 y0 (wrap64 (x1+1)) (wrap64 (x2+1)))=some (r1,r2):=zq20
     have Y0:=zz i0
     clear i0
     have H':=zz H
     clear H
     obtain ⟨Ao6,co6,eo6⟩:=Kd.R_slice O0.1
     subst eo6
     have p5:0≤(x2:Int):=z8 zq21
     have q5:(x2:Int)<((x0.length:Int):Int):=z8 zq21
     obtain ⟨go5,co5,eo5,gb5,gl5,cl5,HG5⟩:=Kd.R_form O0.1 zq9
     (first|cases eo5|(injection eo5 with ea_ en_ ec_;(first|subst ea_|(injection ea_ with ea_;subst ea_));subst ec_;clear en_))
     have GB5:=zz gb5
     clear gb5 gl5 HG5
     obtain ⟨hx5_0,hf5_0⟩:=Kd.R_celln 0 O0.1 (x2:Int) p5 q5
     replace p5:=eq_true p5
     replace q5:=eq_true q5
     have HP7:=Kd.R_putg O0.1 (x2:Int) x1
     go_wp2_with (first|((with_reducible refine zm (t:=3) (p:=15) rfl ?_);refine zGa (t:=3) (p:=15) (v:= ?vo_w8) (w1:=(wr.setCell ⟨go5,(x2:Int).toNat,none⟩ (.int .i64 x1))) ?hg ?ho ?hn ?hr ?_;(case ho=>rfl);(case hg=>rfl);(case hn=>rfl);(case hr=>first|(go_simp;done)|(go_simp;rfl));intro w8 hw;have hg:wr.grownBy w8 (some go5):=(by rw [hw];exact HP7.2);have hp_:Kd.R (Kd.int .i64) 3 w8 w0.heap.size (fun k_=>(P0_ k_∨w.heap.size≤k_)) (.slice (some ⟨go5,0,none⟩) x0.length co6) y0:=(by rw [hw,Y0.1];exact HP7.1);clear HP7;replace HB:=zz (zq108 GB5.1:Below w0.heap.size w0 w8);replace HK:=zz (Kept.of_grown (S:=(fun k_=>P0_ k_)) hg zq30 (fun k_ e_=>(O0.1.1 k_ e_)));replace O0:=zz hp_;clear hg hw hp_))
     exact zq184
    ·exact zq161
   ·rw [if_neg c3] at H
    have c3b0:=z7 c3
    clear c3
    simp only [Option.some.injEq,Prod.mk.injEq] at H
    obtain ⟨rfl,rfl⟩:=H
    obtain ⟨Ao9,co9,eo9⟩:=Kd.R_slice O0.1
    subst eo9
    exact zq177
def laws_heldStringS.l0:Nat→List ByteArray→Int→Int→Option (Int)
 |0,_,_,_=>none
 |k+1,x0,x1,x5=>if x5<(x0.length:Int) then (if 0≤x5 then ((laws_markText.f k x1).bind fun t306=>(if (zcc ByteArray.empty x0 x5).toList=t306.toList then (laws_heldStringS.l0 k x0 (wrap64 (x1+1)) (wrap64 (x5+1))) else (none))) else (none)) else (some x1)
def laws_heldStringS.f (k:Nat) (l0:List ByteArray) (a1:Int):Option (Int):=laws_heldStringS.l0 k l0 a1 0
theorem laws_heldStringS.calls (k:Nat) (A0:Option Addr) (c0:Nat) (l0:List ByteArray) (a1:Int) (r:Int) (w:World) (hr0:Kd.C Kd.string w A0 l0.length l0) (hc0:l0.length≤c0) (h:laws_heldStringS.f k l0 a1=some r):
  Calls Tryz.prog 56 #[.slice A0 l0.length c0,.int .i64 a1] w fun e w'=>e= .returned (.int .i64 r)∧Below w.heap.size w w':=by
 have HR0:=zz hr0
 clear hr0 hc0
 have HB:=zz (z1a w.heap.size w)
 have H:(laws_heldStringS.l0 k l0 a1 0)=some r:=h
 clear h
 have H':=zz H
 clear H
 go_enter Tryz.func56,Tryz.ntmps56
 go_wp2
 go_loopg [1,5] k (fun kq v1 v5 w'=>∃(x0:Int) (x1:Int),v1= .int .i64 x0∧v5= .int .i64 x1∧Z0 (laws_heldStringS.l0 kq l0 x0 x1=some r)∧Z0 (kq≤k)∧Z0 (Below w.heap.size w w'))
 case atStart=>exact ⟨(a1),(0),zq18,zq18,H',⟨z3a _⟩,⟨zq0⟩⟩
 case round=>
  clear H'
  obtain ⟨x0,x1,rfl,rfl,HA,HK1,HB⟩:=hrel
  cases gk with
  |zero=>exact absurd HA.1 (by simp [laws_heldStringS.l0])
  |succ k1=>
   have H:=HA.1
   clear HA
   simp only [laws_heldStringS.l0] at H
   by_cases c3:x1<(l0.length:Int)
   ·rw [if_pos c3] at H
    have c3b0:=z6 c3
    clear c3
    by_cases c4:0≤x1
    ·rw [if_pos c4] at H
     have c4b0:=z6 c4
     clear c4
     replace H:=z2a H
     obtain ⟨t0,A1,H⟩:=H
     replace H:(if (zcc ByteArray.empty l0 x1).toList=t0.toList then (laws_heldStringS.l0 k1 l0 (wrap64 (x0+1)) (wrap64 (x1+1))) else (none))=some r:=H
     have A5:=zz A1
     clear A1
     by_cases c6:(zcc ByteArray.empty l0 x1).toList=t0.toList
     ·rw [if_pos c6] at H
      have c6b0:((zcc ByteArray.empty l0 x1).toList==t0.toList)=true:=beq_iff_eq.mpr c6
      have c6b1:((zcc ByteArray.empty l0 x1).toList !=t0.toList)=false:=bne_eq_false_iff_eq.mpr c6
      clear c6
      have H':=zz H
      clear H
      try go_wp2
      have n0:=zz (zR HB.1)
      clear HB
      have HB:=n0
      clear n0
      have p0:0≤(x1:Int):=z8 zq21
      have q0:x1<(l0.length:Int):=z8 zq21
      obtain ⟨b0,e0,k0⟩:=Kd.at_string HR0.1 x1 p0 q0
      have h0:=k0
      cases e0
      replace k0:=(HB.1.cell (z0a w _ k0)).trans k0
      replace p0:=eq_true p0
      replace q0:=eq_true q0
      refine zVb (n:=7) (S:=fun w'=>w'.cell? (b0.add (x1).toNat)=some (.string (zcc ByteArray.empty l0 x1))) (ds:=[]) #[false,false,false,false,false,false,false] zq13 rfl rfl (((HB.1.cell (z0a w _ h0)).trans h0)) (fun hHeld=> ?_)
      generalize wr.drew=w7 at HB k0 hHeld ⊢
      refine zia (i:=0) (N:=some 12) (v:= ?_) (a':= ?_) #[true,false,false,false,false,false,false] rfl rfl zq13 (fun _ _ _ h=>h) (Or.inl ⟨zq22,zq12⟩) zq10 ?_
      refine zia (i:=1) (N:=some 13) (v:= ?_) (a':= ?_) #[true,true,false,false,false,false,false] rfl rfl zq13 (fun _ _ _ h=>h) (Or.inl ⟨zq22,zq12⟩) zq10 ?_
      refine zia (i:=2) (N:=some 14) (v:= ?_) (a':= ?_) #[true,true,true,false,false,false,false] rfl rfl zq13 (fun _ _ _ h=>h) (Or.inl ⟨zq22,zq12⟩) zq10 ?_
      refine zia (i:=4) (N:=some 16) (v:= ?_) (a':= ?_) #[true,true,true,false,true,false,false] rfl rfl zq13 (fun _ _ _ h=>h) (Or.inl ⟨zq22,zq12⟩) zq10 ?_
      refine take_ (i:=3) (N:=some 15) (v:= ?_) (a':= ?_) #[true,true,true,true,true,false,false] rfl rfl zq13 (fun _ _ _ h=>h) (Or.inl ⟨zq22,by intro w' s0;go_simp;with_reducible rfl⟩) hHeld zq10 ?_
      refine one_ (i:=5) (N:=some 17) #[true,true,true,true,true,true,false] rfl rfl zq13 zq31 (fun K hK=> ?_)
      refine goes_ Tryz.func101 zq13 rfl #[.int .i64 x0] zq22 rfl rfl zq8 ?_
      with_reducible refine (laws_markText.calls k1 x0 t0 _ A5.1).mono ?_
      rintro e w8 ⟨rfl,hb⟩
      refine ⟨_,rfl,?_⟩
      have n0:=zz (ze zq0 hb)
      clear HB
      have HB:=n0
      clear n0
      (try clear hb)
      (try clear hb2)
      (try clear hk)
      (try clear hi)
      refine hK.out _ _ (((HB.1.cell (z0a w _ h0)).trans h0)) (fun hHeld=> ?_)
      clear hK K
      refine zUb (a':= ?_) ?_ ?_
      rotate_left
      ·show Act.put _ (some 17) _=_
       exact zq146
      refine zia (i:=6) (N:=some 18) (v:= ?_) (a':= ?_) #[true,true,true,true,true,true,true] rfl rfl zq13 (fun _ _ _ h=>h) (Or.inl ⟨zq22,zq12⟩) zq10 ?_
      refine done_ zq13 ?_
      try go_wp2
      go_roundg k1
      case measure=>have:=HK1.1;omega
      case rel=>exact ⟨(wrap64 (x0+1)),(wrap64 (x1+1)),zq18,zq18,H',⟨zq51 HK1.1⟩,⟨zq0⟩⟩
     ·exact zq201
    ·exact zq161
   ·rw [if_neg c3] at H
    have c3b0:=z7 c3
    clear c3
    obtain rfl:=z6a H
    exact zq169
def laws_heldPutS.l0:Nat→List (S110)→Int→Int→Option (Int)
 |0,_,_,_=>none
 |k+1,x0,x1,x5=>if x5<(x0.length:Int) then (if 0≤x5 then (if ((zv x0 x5).f0)=x1 then ((laws_markText.f k (wrap64 (x1+1))).bind fun t309=>(if ((zv x0 x5).f1).toList=t309.toList then (laws_heldPutS.l0 k x0 (wrap64 ((wrap64 (x1+1))+1)) (wrap64 (x5+1))) else (none))) else (none)) else (none)) else (some x1)
def laws_heldPutS.f (k:Nat) (l0:List (S110)) (a1:Int):Option (Int):=laws_heldPutS.l0 k l0 a1 0
def laws_heldPutS.T7:Bool×List (List Nat×List Nat):=(true,[([],[]),([],[]),([0,1],[0,1]),([2],[2]),([3],[3]),([],[]),([5],[5]),([4,6],[4,6])])
def laws_heldPutS.B7:List Nat:=[0,0,3,7,15,0,32,127]
theorem laws_heldPutS.tab7:rtab .any (zFa Tryz.f57 7)=laws_heldPutS.T7:=zq13
theorem laws_heldPutS.bits7:zQa laws_heldPutS.T7.2 laws_heldPutS.B7=true:=zq13
theorem laws_heldPutS.calls (k:Nat) (A0:Option Addr) (c0:Nat) (l0:List (S110)) (a1:Int) (r:Int) (w:World) (hr0:Kd.C k110 w A0 l0.length l0) (hc0:l0.length≤c0) (h:laws_heldPutS.f k l0 a1=some r):
  Calls Tryz.prog 57 #[.slice A0 l0.length c0,.int .i64 a1] w fun e w'=>e= .returned (.int .i64 r)∧Below w.heap.size w w':=by
 have HR0:=zz hr0
 clear hr0 hc0
 have HB:=zz (z1a w.heap.size w)
 have H:(laws_heldPutS.l0 k l0 a1 0)=some r:=h
 clear h
 have H':=zz H
 clear H
 go_enter Tryz.func57,Tryz.ntmps57
 go_wp2
 go_loopg [1,5] k (fun kq v1 v5 w'=>∃(x0:Int) (x1:Int),v1= .int .i64 x0∧v5= .int .i64 x1∧Z0 (laws_heldPutS.l0 kq l0 x0 x1=some r)∧Z0 (kq≤k)∧Z0 (Below w.heap.size w w'))
 case atStart=>exact ⟨(a1),(0),zq18,zq18,H',⟨z3a _⟩,⟨zq0⟩⟩
 case round=>
  clear H'
  obtain ⟨x0,x1,rfl,rfl,HA,HK1,HB⟩:=hrel
  cases gk with
  |zero=>exact absurd HA.1 (by simp [laws_heldPutS.l0])
  |succ k1=>
   have H:=HA.1
   clear HA
   simp only [laws_heldPutS.l0] at H
   by_cases c3:x1<(l0.length:Int)
   ·rw [if_pos c3] at H
    have c3b0:=z6 c3
    clear c3
    by_cases c4:0≤x1
    ·rw [if_pos c4] at H
     have c4b0:=z6 c4
     clear c4
     by_cases c5:((zv l0 x1).f0)=x0
     ·rw [if_pos c5] at H
      have c5b0:(((zv l0 x1).f0)==x0)=true:=beq_iff_eq.mpr c5
      have c5b1:(((zv l0 x1).f0) !=x0)=false:=bne_eq_false_iff_eq.mpr c5
      clear c5
      replace H:=z2a H
      obtain ⟨t0,A1,H⟩:=H
      replace H:(if ((zv l0 x1).f1).toList=t0.toList then (laws_heldPutS.l0 k1 l0 (wrap64 ((wrap64 (x0+1))+1)) (wrap64 (x1+1))) else (none))=some r:=H
      have A6:=zz A1
      clear A1
      by_cases c7:((zv l0 x1).f1).toList=t0.toList
      ·rw [if_pos c7] at H
       have c7b0:(((zv l0 x1).f1).toList==t0.toList)=true:=beq_iff_eq.mpr c7
       have c7b1:(((zv l0 x1).f1).toList !=t0.toList)=false:=bne_eq_false_iff_eq.mpr c7
       clear c7
       have H':=zz H
       clear H
       have p0:0≤(x1:Int):=z8 zq21
       have q0:x1<(l0.length:Int):=z8 zq21
       obtain ⟨b0,e0,k0,k2⟩:=zIa HR0.1 x1 p0 q0
       cases e0
       replace k0:=(HB.1.cell (z0a w _ k0)).trans k0
       replace k2:=(HB.1.cell (z0a w _ k2)).trans k2
       replace p0:=eq_true p0
       replace q0:=eq_true q0
       try go_wp2
       have n0:=zz (zR HB.1)
       clear HB
       have HB:=n0
       clear n0
       have p1:0≤(x1:Int):=z8 zq21
       have q1:x1<(l0.length:Int):=z8 zq21
       obtain ⟨b1,e1,k3,k4⟩:=zIa HR0.1 x1 p1 q1
       have h0:=k4
       have h2:=k3
       obtain rfl:b0=b1:=(by injection e1)
       replace k3:=(HB.1.cell (z0a w _ k3)).trans k3
       replace k4:=(HB.1.cell (z0a w _ k4)).trans k4
       replace p1:=eq_true p1
       replace q1:=eq_true q1
       refine zVb (n:=8) (S:=fun w'=>w'.cell? (b0.add ((x1).toNat*2))=some (.int .i64 ((zv l0 x1).f0))∧w'.cell? ⟨(b0.add ((x1).toNat*2)).block,(b0.add ((x1).toNat*2)).off+1,none⟩=some (.string ((zv l0 x1).f1))) (ds:=[]) #[false,false,false,false,false,false,false,false] zq13 rfl rfl ⟨((HB.1.cell (z0a w _ h2)).trans h2),((HB.1.cell (z0a w _ h0)).trans h0)⟩ (fun hHeld=> ?_);refine zYa laws_heldPutS.tab7 laws_heldPutS.bits7 (fun HT_ HW_=> ?_)
       generalize wr.drew=w8 at HB k3 k4 hHeld ⊢
       refine zia (i:=0) (N:=some 21) (v:= ?_) (a':= ?_) #[true,false,false,false,false,false,false,false] rfl rfl (zQ HT_.1 zq13) (fun _ _ _ h=>h) (Or.inl ⟨zq22,zq12⟩) zq10 ?_
       refine zia (i:=1) (N:=some 22) (v:= ?_) (a':= ?_) #[true,true,false,false,false,false,false,false] rfl rfl (zQ HT_.1 zq13) (fun _ _ _ h=>h) (Or.inl ⟨zq22,zq12⟩) zq10 ?_
       refine zia (i:=2) (N:=some 23) (v:= ?_) (a':= ?_) #[true,true,true,false,false,false,false,false] rfl rfl (zQ HT_.1 zq13) (fun _ _ _ h=>h) (Or.inl ⟨zq22,zq12⟩) zq10 ?_
       refine zia (i:=3) (N:=some 24) (v:= ?_) (a':= ?_) #[true,true,true,true,false,false,false,false] rfl rfl (zQ HT_.1 zq13) (fun _ _ _ h=>h) (Or.inl ⟨zq22,zq12⟩) zq10 ?_
       refine zia (i:=5) (N:=some 26) (v:= ?_) (a':= ?_) #[true,true,true,true,false,true,false,false] rfl rfl (zQ HT_.1 zq13) (fun _ _ _ h=>h) (Or.inl ⟨zq22,zq12⟩) zq10 ?_
       refine take_ (i:=4) (N:=some 25) (v:= ?_) (a':= ?_) #[true,true,true,true,true,true,false,false] rfl rfl (zja HT_.1 HW_.1 zq13) (fun _ _ _ h=>h) (Or.inl ⟨zq22,zq85⟩) hHeld zq10 ?_
       refine one_ (i:=6) (N:=some 27) #[true,true,true,true,true,true,true,false] rfl rfl (zVa HT_.1 zq13) zq31 (fun K hK=> ?_)
       refine goes_ Tryz.func101 zq13 rfl #[.int .i64 (wrap64 (x0+1))] zq22 rfl rfl zq8 ?_
       with_reducible refine (laws_markText.calls k1 (wrap64 (x0+1)) t0 _ A6.1).mono ?_
       rintro e w9 ⟨rfl,hb⟩
       refine ⟨_,rfl,?_⟩
       have n0:=zz (ze zq0 hb)
       clear HB
       have HB:=n0
       clear n0
       (try clear hb)
       (try clear hb2)
       (try clear hk)
       (try clear hi)
       refine hK.out _ _ ⟨((HB.1.cell (z0a w _ h2)).trans h2),((HB.1.cell (z0a w _ h0)).trans h0)⟩ (fun hHeld=> ?_)
       clear hK K
       refine zUb (a':= ?_) ?_ ?_
       rotate_left
       ·show Act.put _ (some 27) _=_
        exact zq146
       refine zia (i:=7) (N:=some 28) (v:= ?_) (a':= ?_) #[true,true,true,true,true,true,true,true] rfl rfl (zQ HT_.1 zq13) (fun _ _ _ h=>h) (Or.inl ⟨zq22,zq12⟩) zq10 ?_
       refine done_ (done_of HT_.1 zq13) ?_
       try go_wp2
       go_roundg k1
       case measure=>have:=HK1.1;omega
       case rel=>exact ⟨(wrap64 ((wrap64 (x0+1))+1)),(wrap64 (x1+1)),zq18,zq18,H',⟨zq51 HK1.1⟩,⟨zq0⟩⟩
      ·exact zq176
     ·exact zq155
    ·exact zq161
   ·rw [if_neg c3] at H
    have c3b0:=z7 c3
    clear c3
    obtain rfl:=z6a H
    exact zq169
def laws_heldDisk.f (k:Nat) (l0_0:List ByteArray) (l0_1:List (S110)) (a1:Int):Option (Int):=(laws_heldStringS.f k l0_0 a1).bind fun t311=>(if t311<0 then (none) else ((laws_heldPutS.f k l0_1 t311).bind fun t312=>(if t312<0 then (none) else (some t312))))
theorem laws_heldDisk.calls (k:Nat) (A0:Option Addr) (c0:Nat) (l2:List ByteArray) (A1:Option Addr) (c1:Nat) (l3:List (S110)) (a1:Int) (r:Int) (w:World) (r0:Kd.C Kd.string w A0 l2.length l2) (h0:l2.length≤c0) (r1:Kd.C k110 w A1 l3.length l3) (h2:l3.length≤c1) (h:laws_heldDisk.f k l2 l3 a1=some r):
  Calls Tryz.prog 16 #[.agg #[.slice A0 l2.length c0,.slice A1 l3.length c1],.int .i64 a1] w fun e w'=>e= .returned (.int .i64 r)∧Below w.heap.size w w':=by
 have hu32:=Tryz.underlying37
 have R0:=zz r0
 have C0:=zz h0
 clear r0 h0
 have R1:=zz r1
 have C1:=zz h2
 clear r1 h2
 have HB:=zz (z1a w.heap.size w)
 have H:((laws_heldStringS.f k l2 a1).bind fun t0=>(if t0<0 then (none) else ((laws_heldPutS.f k l3 t0).bind fun t1=>(if t1<0 then (none) else (some t1)))))=some r:=h
 clear h
 replace H:=z2a H
 obtain ⟨t0,A2,H⟩:=H
 replace H:(if t0<0 then (none) else ((laws_heldPutS.f k l3 t0).bind fun t1=>(if t1<0 then (none) else (some t1))))=some r:=H
 have A3:=zz A2
 clear A2
 by_cases c4:t0<0
 ·rw [if_pos c4] at H
  exact absurd H zq38
 ·rw [if_neg c4] at H
  have c4b0:=z7 c4
  clear c4
  replace H:=z2a H
  obtain ⟨t1,A4,H⟩:=H
  replace H:(if t1<0 then (none) else (some t1))=some r:=H
  have A5:=zz A4
  clear A4
  by_cases c6:t1<0
  ·rw [if_pos c6] at H
   exact absurd H zq38
  ·rw [if_neg c6] at H
   have c6b0:=z7 c6
   clear c6
   obtain rfl:=z6a H
   go_enter Tryz.func16,Tryz.ntmps16
   go_wp2_with (first|((with_reducible refine zd (N:=2) rfl ?_);refine zx rfl (N:=2) rfl (cs:= #[.slice A0 l2.length c0,.slice A1 l3.length c1]) (t:=37) zq27 ?_;intro g0 hg w7 hbox hb;have B0:=zz hbox;have G0:=zz (zq15:w.heap.size≤g0);replace HB:=zz (ze zq0 hb);clear hb hbox hg;obtain ⟨_,_,_,_⟩:=zV B0.1)|((with_reducible refine zr (f:=56) rfl ?_);refine zN (some 8) rfl rfl Tryz.func56 zq13 rfl #[.slice A0 l2.length c0,.int .i64 a1] rfl zq8 ?_;(with_reducible refine (laws_heldStringS.calls k _ _ l2 a1 t0 _ ?side1 ?side2 A3.1).mono ?_);(case side1=>repeat (first|exact (Kd.C_below R0.1 HB.1)|(with_reducible refine Kd.C_alloc ?_ _)|(with_reducible refine Kd.C_drewN ?_ _)|(with_reducible refine Kd.C_drew ?_)));(case side2=>exact C0.1);rintro e w9 ⟨rfl,hb⟩;refine ⟨_,rfl,?_⟩;replace B0:=zz (zg (g:=g0) (o:= .cells #[.slice A0 l2.length c0,.slice A1 l3.length c1] 37 (0,0)) (zq1 B0.1) hb);replace HB:=zz (ze (zq4 G0.1) hb);(try clear hb);(try clear hb2);(try clear hk);(try clear hi);obtain ⟨_,_,_,_⟩:=zV B0.1)|((with_reducible refine zr (f:=57) rfl ?_);refine zN (some 14) rfl rfl Tryz.func57 zq13 rfl #[.slice A1 l3.length c1,.int .i64 t0] rfl zq8 ?_;(with_reducible refine (laws_heldPutS.calls k _ _ l3 t0 t1 _ ?side1 ?side2 A5.1).mono ?_);(case side1=>repeat (first|exact (Kd.C_below R1.1 HB.1)|(with_reducible refine Kd.C_alloc ?_ _)|(with_reducible refine Kd.C_drewN ?_ _)|(with_reducible refine Kd.C_drew ?_)));(case side2=>exact C1.1);rintro e w11 ⟨rfl,hb⟩;refine ⟨_,rfl,?_⟩;replace B0:=zz (zg (g:=g0) (o:= .cells #[.slice A0 l2.length c0,.slice A1 l3.length c1] 37 (0,0)) (zq1 B0.1) hb);replace HB:=zz (ze (zq4 G0.1) hb);(try clear hb);(try clear hb2);(try clear hk);(try clear hi)))
   exact zq153
def laws_heldIntS.l0:Nat→List Int→Int→Int→Option (Int)
 |0,_,_,_=>none
 |k+1,x0,x1,x5=>if x5<(x0.length:Int) then (if 0≤x5 then (if (rd x0 x5)=x1 then (laws_heldIntS.l0 k x0 (wrap64 (x1+1)) (wrap64 (x5+1))) else (none)) else (none)) else (some x1)
def laws_heldIntS.f (k:Nat) (l0:List Int) (a1:Int):Option (Int):=laws_heldIntS.l0 k l0 a1 0
theorem laws_heldIntS.calls (k:Nat) (A0:Option Addr) (c0:Nat) (l0:List Int) (a1:Int) (r:Int) (w:World) (hr0:Kd.C (Kd.int .i64) w A0 l0.length l0) (hc0:l0.length≤c0) (h:laws_heldIntS.f k l0 a1=some r):
  Calls Tryz.prog 102 #[.slice A0 l0.length c0,.int .i64 a1] w fun e w'=>e= .returned (.int .i64 r)∧Drawn0 w w':=by
 have HR0:=zz hr0
 clear hr0 hc0
 have H:(laws_heldIntS.l0 k l0 a1 0)=some r:=h
 clear h
 have H':=zz H
 clear H
 go_enter Tryz.func102,Tryz.ntmps102
 go_wp2
 go_loopg [1,5] k (fun kq v1 v5 w'=>∃(x0:Int) (x1:Int),v1= .int .i64 x0∧v5= .int .i64 x1∧Z0 (laws_heldIntS.l0 kq l0 x0 x1=some r)∧Z0 (kq≤k)∧Drawn0 w w')
 case atStart=>exact ⟨(a1),(0),zq18,zq18,H',⟨z3a _⟩,zq33⟩
 case round=>
  clear H'
  obtain ⟨x0,x1,rfl,rfl,HA,HK1,⟨m1,rfl⟩⟩:=hrel
  cases gk with
  |zero=>exact absurd HA.1 (by simp [laws_heldIntS.l0])
  |succ k1=>
   have H:=HA.1
   clear HA
   simp only [laws_heldIntS.l0] at H
   by_cases c3:x1<(l0.length:Int)
   ·rw [if_pos c3] at H
    have c3b0:=z6 c3
    clear c3
    by_cases c4:0≤x1
    ·rw [if_pos c4] at H
     have c4b0:=z6 c4
     clear c4
     by_cases c5:(rd l0 x1)=x0
     ·rw [if_pos c5] at H
      have c5b0:((rd l0 x1)==x0)=true:=beq_iff_eq.mpr c5
      have c5b1:((rd l0 x1) !=x0)=false:=bne_eq_false_iff_eq.mpr c5
      clear c5
      have H':=zz H
      clear H
      have p0:0≤(x1:Int):=z8 zq21
      have q0:x1<(l0.length:Int):=z8 zq21
      obtain ⟨ad313,e0,hx313_0⟩:=Kd.at_int HR0.1 x1 p0 q0
      cases e0
      replace p0:=eq_true p0
      replace q0:=eq_true q0
      go_wp2
      go_roundg k1
      case measure=>have:=HK1.1;omega
      case rel=>exact ⟨(wrap64 (x0+1)),(wrap64 (x1+1)),zq18,zq18,H',⟨zq51 HK1.1⟩,zq33⟩
     ·exact zq155
    ·exact zq161
   ·exact zq154
end Go.Proofs.YtonhdiemjgdcnaaGreat.PFnExactGivePage
