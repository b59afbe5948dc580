import Derived.Test.YtonhdiemjgdcnaaOA2
set_option maxHeartbeats 64000000
set_option maxRecDepth 100000
set_option linter.unusedVariables false
set_option linter.unusedSimpArgs false
namespace Go.Proofs
theorem zq17{P:Prop}(h:P:=by repeat (first|(with_reducible first|exact HK.1|apply Kept.alloc|apply Kept.drewN|apply Kept.drew)|exact HK.1)):P:=h
theorem zq39{P Q0:Prop}(q0:Q0)(h:Q0→P:=by intro q0;have h_:(x2:Int)<((x0.length:Int):Int):=z8 (by with_reducible assumption);first|exact h_|(have e_:=(Kd.R_reads' q0).1;omega)|simpa using h_):P:=h q0
theorem zq47{P Q0:Prop}(q0:Q0)(h:Q0→P:=by intro q0;repeat (first|(with_reducible first|exact HK.1|apply Kept.alloc|apply Kept.drewN|apply Kept.drew|refine Kept.setCell ?_ (.inr q0) _)|exact HK.1)):P:=h q0
theorem zq58{P:Prop}(h:P:=by rw [List.getElem?_eq_getElem hlt] at hat;exact z5a hat):P:=h
theorem zq59{P:Prop}(h:P:=by rw [e3 i (Nat.lt_succ_self i),List.getElem?_set_self (by omega)]):P:=h
theorem zq79{P:Prop}(h:P:=by unfold wrap64;omega):P:=h
theorem zq103{P:Prop}(h:P:=by
 rw [if_neg c3] at H
 have c3b0:=z7 c3
 clear c3
 obtain rfl:=z5a H
 go_wp2
 go_ret
 exact ⟨zq10,zq15⟩):P:=h
theorem zq107{P:Prop}(h:P:=by
 repeat' first
   |(with_reducible exact ih0 _ _)
   |(with_reducible exact LeO.refl _)
   |(with_reducible exact LeO.none _)
   |(with_reducible refine LeO.ite ?_ ?_)
   |(with_reducible refine LeO.bind ?_ (fun _=> ?_))
   |exact ih0 _ _):P:=h
theorem zq109{P:Prop}(h:P:=by
 repeat' first
 |(with_reducible exact ih0 _ _)
 |(with_reducible exact LeO.refl _)
 |(with_reducible exact LeO.none _)
 |(with_reducible refine LeO.ite ?_ ?_)
 |(with_reducible refine LeO.bind ?_ (fun _=> ?_))
 |exact ih0 _ _):P:=h
theorem zq133{P:Prop}(h:P:=by
 go_wp2
 go_ret
 exact ⟨zq9,by (with_reducible repeat (first|apply Kd.R_alloc|apply Kd.R_drewN|apply Kd.R_drew));exact O0.1,zq0,zq17⟩):P:=h
theorem zq135{P:Prop}(h:P:=by
 go_roundg k1
 case measure=>have:=HK1.1;omega
 case rel=>exact ⟨(y0),(wrap64 (x1+1)),(wrap64 (x2+1)),zq10,zq10,H',⟨zq37 HK1.1⟩,⟨by (with_reducible repeat (first|apply Kd.R_alloc|apply Kd.R_drewN|apply Kd.R_drew));exact O0.1⟩,⟨zq17⟩,⟨zq0⟩⟩):P:=h
theorem zq137{P:Prop}(h:P:=by
 refine ⟨r,by rw [show (i:Int)+1=((i+1:Nat):Int) by omega];exact h2,?_⟩
 rcases h3 with h3|⟨h4,h5,h6⟩
 ·exact .inl h3
 ·refine .inr ⟨h4,zq3,fun j hj h=> ?_⟩
  by_cases e:j=i
  ·subst e;omega
  ·have:=h6 j hj zq3;omega):P:=h
theorem zq148{P:Prop}(h:P:=by
 rcases h3 with h3|⟨h4,h5,h6⟩
 ·exact .inl h3
 ·refine .inr ⟨h4,zq3,zq3,fun s hs=> ?_⟩
  obtain ⟨j,hj,rfl⟩:=List.getElem_of_mem hs
  have:=h6 j hj (z7a _)
  omega):P:=h
end Go.Proofs
namespace Go.Proofs.Ytonhdiemjgdcnaa.PFnExactGivePage
open Go.RowKit Go.Proofs.YtonhdiemjgdcnaaW.PrintWords Go.Proofs.YtonhdiemjgdcnaaW.PrintLast Go.Proofs.YtonhdiemjgdcnaaW.PrintMore
attribute [local go_sem] zV zU zia zha zP zN zS zT
def laws_eqDisk.f (k:Nat) (l0_0:List ByteArray) (l0_1:List (S135)) (l1_0:List ByteArray) (l1_1:List (S135)):Option (Bool):=(laws_eqStringS.f k l0_0 l1_0).bind fun t271=>(if t271=true then ((laws_eqPutS.f k l0_1 l1_1).bind fun t272=>(if t272=true then (some true) else (none))) else (none))
theorem laws_eqDisk.calls (k:Nat) (A0:Option Addr) (c0:Nat) (l2:List ByteArray) (A1:Option Addr) (c1:Nat) (l3:List (S135)) (A2:Option Addr) (c11:Nat) (l4:List ByteArray) (A4:Option Addr) (c12:Nat) (l5:List (S135)) (r:Bool) (w:World) (r0:Kd.C Kd.string w A0 l2.length l2) (h0:l2.length≤c0) (r1:Kd.C k135 w A1 l3.length l3) (h2:l3.length≤c1) (r2:Kd.C Kd.string w A2 l4.length l4) (h3:l4.length≤c11) (r3:Kd.C k135 w A4 l5.length l5) (h4:l5.length≤c12) (h:laws_eqDisk.f k l2 l3 l4 l5=some r):
  Calls Try.prog 27 #[.agg #[.slice A0 l2.length c0,.slice A1 l3.length c1],.agg #[.slice A2 l4.length c11,.slice A4 l5.length c12]] w fun e w'=>e= .returned (.bool r)∧Below w.heap.size w w':=by
 have hu32:=Try.underlying32
 have R0:=zz r0
 have C0:=zz h0
 clear r0 h0
 have R1:=zz r1
 have C1:=zz h2
 clear r1 h2
 have R2:=zz r2
 have C2:=zz h3
 clear r2 h3
 have R3:=zz r3
 have C3:=zz h4
 clear r3 h4
 have HB:=zz (z0a w.heap.size w)
 have H:((laws_eqStringS.f k l2 l4).bind fun t0=>(if t0=true then ((laws_eqPutS.f k l3 l5).bind fun t1=>(if t1=true then (some true) else (none))) else (none)))=some r:=h
 clear h
 replace H:=z1a H
 obtain ⟨t0,A6,H⟩:=H
 replace H:(if t0=true then ((laws_eqPutS.f k l3 l5).bind fun t1=>(if t1=true then (some true) else (none))) else (none))=some r:=H
 have A3:=zz A6
 clear A6
 by_cases c4:t0=true
 ·subst c4
  rw [if_pos rfl] at H
  replace H:=z1a H
  obtain ⟨t1,A7,H⟩:=H
  replace H:(if t1=true then (some true) else (none))=some r:=H
  have A5:=zz A7
  clear A7
  by_cases c6:t1=true
  ·subst c6
   rw [if_pos rfl] at H
   obtain rfl:=z5a H
   go_enter Try.func27,Try.ntmps27
   go_wp2_with (first|((with_reducible refine zg (N:=2) rfl ?_);refine zA rfl (N:=2) rfl (cs:= #[.slice A0 l2.length c0,.slice A1 l3.length c1]) (t:=32) zq26 ?_;intro g0 hg w7 hbox hb;have B0:=zz hbox;have G0:=zz (zq12:w.heap.size≤g0);replace HB:=zz (zf zq0 hb);clear hb hbox hg)|((with_reducible refine zg (N:=3) rfl ?_);refine zA rfl (N:=3) rfl (cs:= #[.slice A2 l4.length c11,.slice A4 l5.length c12]) (t:=32) zq26 ?_;intro g1 hg w8 hbox hb;have B4:=zz hbox;have G1:=zz (zq24 G0.1:w.heap.size≤g1);have N0:=zz (zq50 B0.1:g0≠g1);have N1:=zz (zq51 B0.1:g1≠g0);replace B0:=zz (zj (g:=g0) (o:= .cells #[.slice A0 l2.length c0,.slice A1 l3.length c1] 32 (0,0)) (zq7 B0.1) hb);replace HB:=zz (zf (zq4 G0.1) hb);clear hb hbox hg;have hnb9:=N0.1;have hnc9:=N1.1;obtain ⟨_,_,_,_⟩:=zba B0.1;obtain ⟨_,_,_,_⟩:=zba B4.1)|((with_reducible refine zn (f:=60) rfl ?_);refine zQ (some 9) rfl rfl Try.func60 zq8 rfl #[.slice A0 l2.length c0,.slice A2 l4.length c11] rfl zq6 ?_;(with_reducible refine (laws_eqStringS.calls k _ _ l2 _ _ l4 true _ ?side1 ?side2 ?side3 ?side4 A3.1).mono ?_);(case side1=>repeat (first|exact (Kd.C_below R0.1 HB.1)|(with_reducible refine Kd.C_alloc ?_ _)|(with_reducible refine Kd.C_drewN ?_ _)|(with_reducible refine Kd.C_drew ?_)));(case side2=>exact C0.1);(case side3=>repeat (first|exact (Kd.C_below R2.1 HB.1)|(with_reducible refine Kd.C_alloc ?_ _)|(with_reducible refine Kd.C_drewN ?_ _)|(with_reducible refine Kd.C_drew ?_)));(case side4=>exact C2.1);rintro e w' ⟨rfl,⟨nd,rfl⟩⟩;refine ⟨_,rfl,?_⟩)|((with_reducible refine zn (f:=71) rfl ?_);refine zQ (some 15) rfl rfl Try.func71 zq8 rfl #[.slice A1 l3.length c1,.slice A4 l5.length c12] rfl zq6 ?_;(with_reducible refine (laws_eqPutS.calls k _ _ l3 _ _ l5 true _ ?side1 ?side2 ?side3 ?side4 A5.1).mono ?_);(case side1=>repeat (first|exact (Kd.C_below R1.1 (zq13 G0.1 G1.1))|(with_reducible refine Kd.C_alloc ?_ _)|(with_reducible refine Kd.C_drewN ?_ _)|(with_reducible refine Kd.C_drew ?_)));(case side2=>exact C1.1);(case side3=>repeat (first|exact (Kd.C_below R3.1 (zq13 G0.1 G1.1))|(with_reducible refine Kd.C_alloc ?_ _)|(with_reducible refine Kd.C_drewN ?_ _)|(with_reducible refine Kd.C_drew ?_)));(case side4=>exact C3.1);rintro e w12 ⟨rfl,hb⟩;refine ⟨_,rfl,?_⟩;replace B0:=zz (zj (g:=g0) (o:= .cells #[.slice A0 l2.length c0,.slice A1 l3.length c1] 32 (0,0)) (zq7 B0.1) hb);replace B4:=zz (zj (g:=g1) (o:= .cells #[.slice A2 l4.length c11,.slice A4 l5.length c12] 32 (0,0)) (zq7 B4.1) hb);replace HB:=zz (zf (zq13 G0.1 G1.1) hb);(try clear hb);(try clear hb2);(try clear hk);(try clear hi)))
   exact zq162
  ·replace c6:=Bool.eq_false_iff.mpr c6
   subst c6
   exact zq112
 ·replace c4:=Bool.eq_false_iff.mpr c4
  subst c4
  exact zq112
def laws_eqIntS.l0:Nat→List Int→List Int→Int→Option (Bool)
 |0,_,_,_=>none
 |k+1,x0,x1,x5=>if x5<(x0.length:Int) then (if 0≤x5 then (if x5<(x1.length:Int) then (if (rd x0 x5)=(rd x1 x5) then (laws_eqIntS.l0 k x0 x1 (wrap64 (x5+1))) else (none)) else (none)) else (none)) else (some true)
def laws_eqIntS.f (k:Nat) (l0:List Int) (l1:List Int):Option (Bool):=if (l0.length:Int)=(l1.length:Int) then (laws_eqIntS.l0 k l0 l1 0) else (none)
theorem laws_eqIntS.mono_l:∀k,(∀y0 y1 y2,LeO (laws_eqIntS.l0 k y0 y1 y2) (laws_eqIntS.l0 (k+1) y0 y1 y2))
 |0=>fun _ _ _ r h=>by simp [laws_eqIntS.l0] at h
 |k+1=>by
  have ih0:=laws_eqIntS.mono_l k
  ·intro y0 y1 y2
   unfold laws_eqIntS.l0
   exact zq90
theorem laws_eqIntS.mono:∀a0 a1 k,LeO (laws_eqIntS.f k a0 a1) (laws_eqIntS.f (k+1) a0 a1):=by
 intro a0 a1 k
 have ih0:=laws_eqIntS.mono_l k
 unfold laws_eqIntS.f
 exact zq89
theorem laws_eqIntS.calls (k:Nat) (A0:Option Addr) (c0:Nat) (l0:List Int) (A1:Option Addr) (c1:Nat) (l1:List Int) (r:Bool) (w:World) (hr0:Kd.C (Kd.int .i64) w A0 l0.length l0) (hc0:l0.length≤c0) (hr1:Kd.C (Kd.int .i64) w A1 l1.length l1) (hc1:l1.length≤c1) (h:laws_eqIntS.f k l0 l1=some r):
  Calls Try.prog 50 #[.slice A0 l0.length c0,.slice A1 l1.length c1] w fun e w'=>e= .returned (.bool r)∧Drawn0 w w':=by
 have HR0:=zz hr0
 clear hr0 hc0
 have HR1:=zz hr1
 clear hr1 hc1
 have H:(if (l0.length:Int)=(l1.length:Int) then (laws_eqIntS.l0 k l0 l1 0) else (none))=some r:=h
 clear h
 by_cases c3:(l0.length:Int)=(l1.length:Int)
 ·rw [if_pos c3] at H
  have c3b0:((l0.length:Int)==(l1.length:Int))=true:=beq_iff_eq.mpr c3
  have c3b1:((l0.length:Int) !=(l1.length:Int))=false:=bne_eq_false_iff_eq.mpr c3
  have c3b2:(l0.length==l1.length)=true:=zq71
  clear c3
  have H':=zz H
  clear H
  go_enter Try.func50,Try.ntmps50
  go_wp2
  repeat (go_quiet (fail);try go_wp2)
  go_loopg [5] k (fun kq v5 w'=>∃(x0:Int),v5= .int .i64 x0∧Z0 (laws_eqIntS.l0 kq l0 l1 x0=some r)∧Z0 (kq≤k)∧Drawn0 w w')
  case atStart=>exact ⟨(0),zq10,H',⟨z2a _⟩,zq15⟩
  case round=>
   clear H'
   try clear c1
   try clear c3
   try clear c3b0
   try clear c3b1
   try clear c3b2
   obtain ⟨x0,rfl,HA,HK1,⟨m1,rfl⟩⟩:=hrel
   cases gk with
   |zero=>exact absurd HA.1 (by simp [laws_eqIntS.l0])
   |succ k1=>
    have H:=HA.1
    clear HA
    simp only [laws_eqIntS.l0] at H
    by_cases c4:x0<(l0.length:Int)
    ·rw [if_pos c4] at H
     have c4b0:=z6 c4
     clear c4
     by_cases c5:0≤x0
     ·rw [if_pos c5] at H
      have c5b0:=z6 c5
      clear c5
      by_cases c6:x0<(l1.length:Int)
      ·rw [if_pos c6] at H
       have c6b0:=z6 c6
       clear c6
       by_cases c7:(rd l0 x0)=(rd l1 x0)
       ·rw [if_pos c7] at H
        have c7b0:((rd l0 x0)==(rd l1 x0))=true:=beq_iff_eq.mpr c7
        have c7b1:((rd l0 x0) !=(rd l1 x0))=false:=bne_eq_false_iff_eq.mpr c7
        clear c7
        have H':=zz H
        clear H
        have p0:0≤(x0:Int):=z8 zq11
        have q0:x0<(l0.length:Int):=z8 zq11
        obtain ⟨ad273,e0,hx273_0⟩:=Kd.at_int HR0.1 x0 p0 q0
        cases e0
        replace p0:=eq_true p0
        replace q0:=eq_true q0
        have p1:0≤(x0:Int):=z8 zq11
        have q1:x0<(l1.length:Int):=z8 zq11
        obtain ⟨ad274,e1,hx274_0⟩:=Kd.at_int HR1.1 x0 p1 q1
        exact zq140
       ·exact zq141
      ·exact zq145
     ·exact zq105
    ·exact zq149
 ·exact zq131
def laws_markText.l0:Nat→Int→ByteArray→Option (ByteArray)
 |0,_,_=>none
 |k+1,x0,x3=>if x0>0 then ((some (([(wrap64 (48+(Int.tmod x0 10)))%256]:List Int):List Int)).bind fun y281=>(if (strOfNums y281).size+x3.size≤9223372036854775807 then (laws_markText.l0 k (wrap64 (Int.tdiv x0 10)) ((strOfNums y281)++x3)) else (none))) else (if 1+x3.size≤9223372036854775807 then (some ((⟨#[109]⟩:ByteArray)++x3)) else (none))
def laws_markText.f (k:Nat) (a0:Int):Option (ByteArray):=if a0≤0 then (some (⟨#[109,48]⟩:ByteArray)) else (laws_markText.l0 k a0 (⟨#[]⟩:ByteArray))
theorem laws_markText.mono_l:∀k,(∀y0 y1,LeO (laws_markText.l0 k y0 y1) (laws_markText.l0 (k+1) y0 y1))
 |0=>fun _ _ r h=>by simp [laws_markText.l0] at h
 |k+1=>by
  have ih0:=laws_markText.mono_l k
  ·intro y0 y1
   unfold laws_markText.l0
   exact zq109
theorem laws_markText.mono:∀a0 k,LeO (laws_markText.f k a0) (laws_markText.f (k+1) a0):=by
 intro a0 k
 have ih0:=laws_markText.mono_l k
 unfold laws_markText.f
 exact zq107
theorem laws_markText.calls (k:Nat) (a0:Int) (r:ByteArray) (w:World) (h:laws_markText.f k a0=some r):
  Calls Try.prog 114 #[.int .i64 a0] w fun e w'=>e= .returned (.string r)∧Below w.heap.size w w':=by
 have HB:=zz (z0a w.heap.size w)
 have H:(if a0≤0 then (some (⟨#[109,48]⟩:ByteArray)) else (laws_markText.l0 k a0 (⟨#[]⟩:ByteArray)))=some r:=h
 clear h
 by_cases c2:a0≤0
 ·rw [if_pos c2] at H
  have c2b0:=z6 c2
  clear c2
  obtain rfl:=z5a H
  go_enter Try.func114,Try.ntmps114
  go_wp2
  go_ret
  exact ⟨zq9,zq0⟩
 ·rw [if_neg c2] at H
  have c2b0:=z7 c2
  clear c2
  have H':=zz H
  clear H
  go_enter Try.func114,Try.ntmps114
  go_wp2
  go_loopg [0,3] k (fun kq v0 v3 w'=>∃(x0:Int) (x1:ByteArray),v0= .int .i64 x0∧v3= .string x1∧Z0 (laws_markText.l0 kq x0 x1=some r)∧Z0 (kq≤k)∧Z0 (Below w.heap.size w w'))
  case atStart=>exact ⟨(a0),((⟨#[]⟩:ByteArray)),zq10,zq10,H',⟨z2a _⟩,⟨zq0⟩⟩
  case round=>
   clear H'
   try clear c2
   try clear c2b0
   obtain ⟨x0,x1,rfl,rfl,HA,HK1,HB⟩:=hrel
   cases gk with
   |zero=>exact absurd HA.1 (by simp [laws_markText.l0])
   |succ k1=>
    have H:=HA.1
    clear HA
    simp only [laws_markText.l0] at H
    by_cases c3:x0>0
    ·rw [if_pos c3] at H
     have c3b0:decide (0<x0)=true:=z6 c3
     clear c3
     obtain ⟨y0,i0⟩:∃y_:List Int,y_=(([(wrap64 (48+(Int.tmod x0 10)))%256]:List Int)):=⟨_,rfl⟩
     replace H:(if (strOfNums y0).size+x1.size≤9223372036854775807 then (laws_markText.l0 k1 (wrap64 (Int.tdiv x0 10)) ((strOfNums y0)++x1)) else (none))=some r:=zq16
     have Y0:=zz i0
     clear i0
     by_cases c4:(strOfNums y0).size+x1.size≤9223372036854775807
     ·rw [if_pos c4] at H
      have c4b0:=eq_true c4
      have c4b1:=z6 c4
      try have c4b2:(9223372036854775807<(strOfNums y0).size+x1.size)=False:=eq_false (Nat.not_lt.2 c4)
      have H':=zz H
      clear H
      go_wp2_with (first|((with_reducible refine zg (N:=12) rfl ?_);refine Kd.R_lit (Kd.int .u8) _ 5 ?hg (N:=12) ?hd (xs:=([(wrap64 (48+(Int.tmod x0 10)))%256]:List Int)) (inner:=[.int .u8 ((wrap64 (48+(Int.tmod x0 10)))%256)]) (ok:=fun _=>True) (okp:=fun _=>True) ?hr ?hp (fun _ hk=>hk) trivial (z0a _ _) (z2a _) zq29 ?_;(case hd=>rfl);(case hg=>rfl);(case hr=>first|(go_simp;done)|(go_simp;rfl));(case hp=>exact (Reps.one (show Kd.M (Kd.int .u8) _ _ _ ((wrap64 (48+(Int.tmod x0 10)))%256) [.int .u8 ((wrap64 (48+(Int.tmod x0 10)))%256)] from rfl) (Reps.none _ _)));intro v282 w5 ho6 hb hg_ hnew_;clear hg_ hnew_;(first|rw [←Y0.1] at ho6|(simp only [Int.reduceToNat] at ho6;rw [←Y0.1] at ho6));have O0:=zz (Kd.R_lower ho6 (zL zq0));replace HB:=zz (zf zq0 hb);clear hb ho6;have hcv7:=zib (P:=Try.prog) Try.underlying171 Try.underlying5 Try.underlying9 (Kd.own_of_R O0.1)))
      go_roundg k1
      case measure=>have:=HK1.1;omega
      case rel=>exact ⟨(wrap64 (Int.tdiv x0 10)),((strOfNums y0)++x1),zq10,zq10,H',⟨zq37 HK1.1⟩,⟨zq0⟩⟩
     ·exact zq110
    ·rw [if_neg c3] at H
     have c3b0:decide (0<x0)=false:=z7 c3
     clear c3
     by_cases c8:1+x1.size≤9223372036854775807
     ·rw [if_pos c8] at H
      have c8b0:=eq_true c8
      have c8b1:=z6 c8
      try have c8b2:(9223372036854775807<1+x1.size)=False:=eq_false (Nat.not_lt.2 c8)
      exact zq151
     ·exact zq158
def laws_markStringS.l0:Nat→List ByteArray→Int→Int→Option (Int×List ByteArray)
 |0,_,_,_=>none
 |k+1,x0,x1,x5=>if x5<(x0.length:Int) then ((laws_markText.f k x1).bind fun t284=>(if 0≤x5 then (laws_markStringS.l0 k (x0.set (x5:Int).toNat t284) (wrap64 (x1+1)) (wrap64 (x5+1))) else (none))) else (some (x1,x0))
def laws_markStringS.f (k:Nat) (l0:List ByteArray) (a1:Int):Option (Int×List ByteArray):=laws_markStringS.l0 k l0 a1 0
theorem laws_markStringS.calls (k:Nat) (P0_:Nat→Prop) (u0:Value) (l0:List ByteArray) (a1:Int) (r1:Int) (r2:List ByteArray) (w0 w:World) (hB:Below w0.heap.size w0 w) (ho0:Kd.R Kd.string 9 w w0.heap.size P0_ u0 l0) (h:laws_markStringS.f k l0 a1=some (r1,r2)):
  Calls Try.prog 61 #[u0,.int .i64 a1] w fun e w'=>e= .returned (.int .i64 r1)∧Kd.R Kd.string 9 w' w0.heap.size (fun k_=>(P0_ k_∨w.heap.size≤k_)) u0 r2∧Below w0.heap.size w0 w'∧Kept w w' (fun k_=>P0_ k_):=by
 have HO0:=zz (show Kd.R Kd.string 9 w w0.heap.size (fun k_=>(P0_ k_∨w.heap.size≤k_)) u0 l0 from Kd.R_mono ho0 (fun k_ hk=>(.inl hk)))
 have HK:=zz (Kept.refl w (fun k_=>P0_ k_))
 have HB:=zz hB
 clear hB
 have H:(laws_markStringS.l0 k l0 a1 0)=some (r1,r2):=h
 clear h
 have H':=zz H
 clear H
 go_enter Try.func61,Try.ntmps61
 go_wp2
 go_loopg [1,5] k (fun kq v1 v5 w'=>∃(x0:List ByteArray) (x1:Int) (x2:Int),v1= .int .i64 x1∧v5= .int .i64 x2∧Z0 (laws_markStringS.l0 kq x0 x1 x2=some (r1,r2))∧Z0 (kq≤k)∧Z0 (Kd.R Kd.string 9 w' w0.heap.size (fun k_=>(P0_ k_∨w.heap.size≤k_)) u0 x0)∧Z0 (Kept w w' (fun k_=>P0_ k_))∧Z0 (Below w0.heap.size w0 w'))
 case atStart=>exact ⟨(l0),(a1),(0),zq10,zq10,H',⟨z2a _⟩,⟨by (with_reducible repeat (first|apply Kd.R_alloc|apply Kd.R_drewN|apply Kd.R_drew));exact HO0.1⟩,⟨zq17⟩,⟨zq0⟩⟩
 case round=>
  clear H'
  obtain ⟨x0,x1,x2,rfl,rfl,HA,HK1,O0,HK,HB⟩:=hrel
  cases gk with
  |zero=>exact absurd HA.1 (by simp [laws_markStringS.l0])
  |succ k1=>
   have H:=HA.1
   clear HA
   simp only [laws_markStringS.l0] at H
   by_cases c3:x2<(x0.length:Int)
   ·rw [if_pos c3] at H
    have c3b0:=z6 c3
    clear c3
    replace H:=z1a H
    obtain ⟨t0,A0,H⟩:=H
    replace H:(if 0≤x2 then (laws_markStringS.l0 k1 (x0.set (x2:Int).toNat t0) (wrap64 (x1+1)) (wrap64 (x2+1))) else (none))=some (r1,r2):=H
    have A4:=zz A0
    clear A0
    by_cases c5:0≤x2
    ·rw [if_pos c5] at H
     have c5b0:=z6 c5
     clear c5
     obtain ⟨y0,i0⟩:∃y_:List ByteArray,y_=(x0.set (x2:Int).toNat t0):=⟨_,rfl⟩
     replace H:(laws_markStringS.l0 k1 y0 (wrap64 (x1+1)) (wrap64 (x2+1)))=some (r1,r2):=zq16
     have Y0:=zz i0
     clear i0
     have H':=zz H
     clear H
     obtain ⟨Ao7,co7,eo7⟩:=Kd.R_slice O0.1
     subst eo7
     go_wp2_with (first|((with_reducible refine zn (f:=114) rfl ?_);refine zQ (some 15) rfl rfl Try.func114 zq8 rfl #[.int .i64 x1] rfl zq6 ?_;(with_reducible refine (laws_markText.calls k1 x1 t0 _ A4.1).mono ?_);rintro e w8 ⟨rfl,hb⟩;refine ⟨_,rfl,?_⟩;replace O0:=zz (Kd.R_below (zq28 O0.1) hb);replace HK:=zz (Kept.below (S:=(fun k_=>P0_ k_)) zq17 hb);replace HB:=zz (zf zq0 hb);(try clear hb);(try clear hb2);(try clear hk);(try clear hi);have p6:0≤(x2:Int):=z8 zq11;have q6:(x2:Int)<((x0.length:Int):Int):=z8 zq11;obtain ⟨go6,co6,eo6,gb6,gl6,cl6,HG6⟩:=Kd.R_form O0.1 zq3;(first|cases eo6|(injection eo6 with ea_ en_ ec_;(first|subst ea_|(injection ea_ with ea_;subst ea_));subst ec_;clear en_));have GB6:=zz gb6;clear gb6 gl6 HG6;obtain ⟨hx6_0,hf6_0⟩:=Kd.R_celln (⟨#[]⟩:ByteArray) O0.1 (x2:Int) p6 q6;replace p6:=eq_true p6;replace q6:=eq_true q6;obtain ⟨hy9_,hz9_⟩:=Kd.R_celln (⟨#[]⟩:ByteArray) O0.1 (x2:Int) (z8 zq11) (z8 zq11);have HP9:=Kd.R_putg O0.1 (x2:Int) t0)|((with_reducible refine zI (t:=9) (p:=16) rfl ?_);refine zwa (t:=9) (p:=16) (v:= ?vo_w10) (w1:=(w8.setCell ⟨go6,(x2:Int).toNat,none⟩ (.string t0))) ?hg ?ho ?hn ?hr ?_;(case ho=>rfl);(case hg=>rfl);(case hn=>rfl);(case hr=>first|(go_simp;done)|(go_simp;rfl));intro w5 hw;have hg:w8.grownBy w5 (some go6):=(by rw [hw];exact HP9.2);have hp_:Kd.R Kd.string 9 w5 w0.heap.size (fun k_=>(P0_ k_∨w.heap.size≤k_)) (.slice (some ⟨go6,0,none⟩) x0.length co7) y0:=(by rw [hw,Y0.1];exact HP9.1);clear HP9;replace HB:=zz (zq72 GB6.1:Below w0.heap.size w0 w5);replace HK:=zz (Kept.of_grown (S:=(fun k_=>P0_ k_)) hg zq17 (fun k_ e_=>(O0.1.1 k_ e_)));replace O0:=zz hp_;clear hg hw hp_))
     exact zq135
    ·exact zq105
   ·rw [if_neg c3] at H
    have c3b0:=z7 c3
    clear c3
    simp only [Option.some.injEq,Prod.mk.injEq] at H
    obtain ⟨rfl,rfl⟩:=H
    obtain ⟨Ao11,co11,e0⟩:=Kd.R_slice O0.1
    subst e0
    exact zq133
def laws_markPutS.l0:Nat→List (S135)→Int→Int→Option (Int×(List (S135)))
 |0,_,_,_=>none
 |k+1,x0,x1,x5=>if x5<(x0.length:Int) then (if 0≤x5 then ((some (x0.set (x5:Int).toNat (⟨x1,(zm x0 x5).f1⟩:S135):List (S135))).bind fun y286=>((laws_markText.f k (wrap64 (x1+1))).bind fun t287=>(laws_markPutS.l0 k (y286.set (x5:Int).toNat (⟨(zm y286 x5).f0,t287⟩:S135)) (wrap64 ((wrap64 (x1+1))+1)) (wrap64 (x5+1))))) else (none)) else (some (x1,x0))
def laws_markPutS.f (k:Nat) (l0:List (S135)) (a1:Int):Option (Int×(List (S135))):=laws_markPutS.l0 k l0 a1 0
theorem laws_markPutS.calls (k:Nat) (P0_:Nat→Prop) (u0:Value) (l0:List (S135)) (a1:Int) (r1:Int) (r2:List (S135)) (w0 w:World) (hB:Below w0.heap.size w0 w) (ho0:Kd.R k135 135 w w0.heap.size P0_ u0 l0) (h:laws_markPutS.f k l0 a1=some (r1,r2)):
  Calls Try.prog 72 #[u0,.int .i64 a1] w fun e w'=>e= .returned (.int .i64 r1)∧Kd.R k135 135 w' w0.heap.size (fun k_=>(P0_ k_∨w.heap.size≤k_)) u0 r2∧Below w0.heap.size w0 w'∧Kept w w' (fun k_=>P0_ k_):=by
 have HO0:=zz (show Kd.R k135 135 w w0.heap.size (fun k_=>(P0_ k_∨w.heap.size≤k_)) u0 l0 from Kd.R_mono ho0 (fun k_ hk=>(.inl hk)))
 have HK:=zz (Kept.refl w (fun k_=>P0_ k_))
 have HB:=zz hB
 clear hB
 have H:(laws_markPutS.l0 k l0 a1 0)=some (r1,r2):=h
 clear h
 have H':=zz H
 clear H
 go_enter Try.func72,Try.ntmps72
 go_wp2
 go_loopg [1,5] k (fun kq v1 v5 w'=>∃(x0:List (S135)) (x1:Int) (x2:Int),v1= .int .i64 x1∧v5= .int .i64 x2∧Z0 (laws_markPutS.l0 kq x0 x1 x2=some (r1,r2))∧Z0 (kq≤k)∧Z0 (Kd.R k135 135 w' w0.heap.size (fun k_=>(P0_ k_∨w.heap.size≤k_)) u0 x0)∧Z0 (Kept w w' (fun k_=>P0_ k_))∧Z0 (Below w0.heap.size w0 w'))
 case atStart=>exact ⟨(l0),(a1),(0),zq10,zq10,H',⟨z2a _⟩,⟨by (with_reducible repeat (first|apply Kd.R_alloc|apply Kd.R_drewN|apply Kd.R_drew));exact HO0.1⟩,⟨zq17⟩,⟨zq0⟩⟩
 case round=>
  clear H'
  obtain ⟨x0,x1,x2,rfl,rfl,HA,HK1,O0,HK,HB⟩:=hrel
  cases gk with
  |zero=>exact absurd HA.1 (by simp [laws_markPutS.l0])
  |succ k1=>
   have H:=HA.1
   clear HA
   simp only [laws_markPutS.l0] at H
   by_cases c3:x2<(x0.length:Int)
   ·rw [if_pos c3] at H
    have c3b0:=z6 c3
    clear c3
    by_cases c4:0≤x2
    ·rw [if_pos c4] at H
     have c4b0:=z6 c4
     clear c4
     obtain ⟨y0,i0⟩:∃y_:List (S135),y_=(x0.set (x2:Int).toNat (⟨x1,(zm x0 x2).f1⟩:S135)):=⟨_,rfl⟩
     replace H:((laws_markText.f k1 (wrap64 (x1+1))).bind fun t0=>(laws_markPutS.l0 k1 (y0.set (x2:Int).toNat (⟨(zm y0 x2).f0,t0⟩:S135)) (wrap64 ((wrap64 (x1+1))+1)) (wrap64 (x2+1))))=some (r1,r2):=zq16
     have Y0:=zz i0
     clear i0
     replace H:=z1a H
     obtain ⟨t0,A0,H⟩:=H
     replace H:(laws_markPutS.l0 k1 (y0.set (x2:Int).toNat (⟨(zm y0 x2).f0,t0⟩:S135)) (wrap64 ((wrap64 (x1+1))+1)) (wrap64 (x2+1)))=some (r1,r2):=H
     have A6:=zz A0
     clear A0
     obtain ⟨y1,i1⟩:∃y_:List (S135),y_=(y0.set (x2:Int).toNat (⟨(zm y0 x2).f0,t0⟩:S135)):=⟨_,rfl⟩
     replace H:(laws_markPutS.l0 k1 y1 (wrap64 ((wrap64 (x1+1))+1)) (wrap64 (x2+1)))=some (r1,r2):=zq27
     have Y1:=zz i1
     clear i1
     have H':=zz H
     clear H
     obtain ⟨Ao8,co8,eo8⟩:=Kd.R_slice O0.1
     subst eo8
     have p5:0≤(x2:Int):=z8 zq11
     have q5:(x2:Int)<((x0.length:Int):Int):=z8 zq11
     obtain ⟨go5,co5,eo5,gb5,gl5,cl5,HG5⟩:=Kd.R_form O0.1 zq3
     (first|cases eo5|(injection eo5 with ea_ en_ ec_;(first|subst ea_|(injection ea_ with ea_;subst ea_));subst ec_;clear en_))
     have GB5:=zz gb5
     clear gb5 gl5 HG5
     obtain ⟨ce5,hcl5,hM5,hcc5,hfr5⟩:=Kd.R_elem O0.1 z135 (x2:Int) p5 q5
     obtain rfl:=zTa hM5
     have hx5_0:wr.cell? ⟨go5,(x2:Int).toNat*2,none⟩=some (.int .i64 ((zm x0 x2).f0)):=hcc5 0 _ rfl
     have hx5_1:wr.cell? ⟨go5,(x2:Int).toNat*2+1,none⟩=some (.string ((zm x0 x2).f1)):=hcc5 1 _ rfl
     have hf5_0:wr.frozen? ⟨go5,(x2:Int).toNat*2,none⟩=false:=hfr5 0
     have hf5_1:wr.frozen? ⟨go5,(x2:Int).toNat*2+1,none⟩=false:=hfr5 1
     clear hcl5 hcc5 hfr5 hM5
     replace p5:=eq_true p5
     replace q5:=eq_true q5
     have HX9:=zz (show Kd.R k135 135 wr w0.heap.size (fun k_=>(P0_ k_∨w.heap.size≤k_)) (.slice (some ⟨go5,0,none⟩) x0.length co8) x0 from (zq28 O0.1))
     obtain ⟨ce9,hcl9,hM9,hcc9,hfr9⟩:=Kd.R_elem HX9.1 z135 (x2:Int) (z8 zq11) (zq39 O0.1)
     obtain rfl:=zTa hM9
     have HP9:=Kd.R_seg HX9.1 (x2:Int) (z8 zq11) (zq39 O0.1) (seg:=[.int .i64 x1]) (j:=0) hcl9 hcc9 (show 1≤2 from by decide) (x':=(⟨x1,(zm x0 x2).f1⟩:S135)) (k135_mkM _ _ _ (⟨x1,(zm x0 x2).f1⟩:S135)) (fun _ hk=>hk)
     have k0:=hcc9 0 _ rfl
     (try simp only [show (k135).sz=2 from rfl,Nat.mul_one,Nat.add_zero] at k0)
     have hf9_0:=hfr9 0
     (try simp only [show (k135).sz=2 from rfl,Nat.mul_one,Nat.add_zero] at hf9_0)
     clear hcl9 hcc9 hfr9 hM9
     go_wp2_with (first|((with_reducible refine zI (t:=3) (p:=16) rfl ?_);refine zwa (t:=3) (p:=16) (v:= ?vo_w10) (w1:=(wr.setCell ⟨go5,(x2:Int).toNat*2,none⟩ (.int .i64 x1))) ?hg ?ho ?hn ?hr ?_;(case ho=>rfl);(case hg=>rfl);(case hn=>rfl);(case hr=>first|(go_simp;done)|(go_simp;rfl));intro w5 hw;have hg:wr.grownBy w5 (some go5):=(by rw [hw];exact HP9.2);have hp_:Kd.R k135 135 w5 w0.heap.size (fun k_=>(P0_ k_∨w.heap.size≤k_)) (.slice (some ⟨go5,0,none⟩) x0.length co8) y0:=(by rw [hw,Y0.1];exact HP9.1);clear HP9;replace HB:=zz (zq72 GB5.1:Below w0.heap.size w0 w5);replace HK:=zz (Kept.of_grown (S:=(fun k_=>P0_ k_)) hg zq17 (fun k_ e_=>(O0.1.1 k_ e_)));replace O0:=zz hp_;clear hg hw hp_)|((with_reducible refine zn (f:=114) rfl ?_);refine zQ (some 22) rfl rfl Try.func114 zq8 rfl #[.int .i64 (wrap64 (x1+1))] rfl zq6 ?_;(with_reducible refine (laws_markText.calls k1 (wrap64 (x1+1)) t0 _ A6.1).mono ?_);rintro e w6 ⟨rfl,hb⟩;refine ⟨_,rfl,?_⟩;replace O0:=zz (Kd.R_below (zq28 O0.1) hb);replace HK:=zz (Kept.below (S:=(fun k_=>P0_ k_)) zq17 hb);replace HB:=zz (zf zq0 hb);(try clear hb);(try clear hb2);(try clear hk);(try clear hi);have p7:0≤(x2:Int):=z8 zq11;have q7:(x2:Int)<((x0.length:Int):Int):=z8 zq11;obtain ⟨ce7,hcl7,hM7,hcc7,hfr7⟩:=Kd.R_elem O0.1 z135 (x2:Int) p7 q7;obtain rfl:=zTa hM7;have hx7_0:w6.cell? ⟨go5,(x2:Int).toNat*2,none⟩=some (.int .i64 ((zm y0 x2).f0)):=hcc7 0 _ rfl;have hx7_1:w6.cell? ⟨go5,(x2:Int).toNat*2+1,none⟩=some (.string ((zm y0 x2).f1)):=hcc7 1 _ rfl;have hf7_0:w6.frozen? ⟨go5,(x2:Int).toNat*2,none⟩=false:=hfr7 0;have hf7_1:w6.frozen? ⟨go5,(x2:Int).toNat*2+1,none⟩=false:=hfr7 1;clear hcl7 hcc7 hfr7 hM7;replace p7:=eq_true p7;replace q7:=eq_true q7;have HX12:=zz (show Kd.R k135 135 w6 w0.heap.size (fun k_=>(P0_ k_∨w.heap.size≤k_)) (.slice (some ⟨go5,0,none⟩) x0.length co8) y0 from (zq28 O0.1));obtain ⟨ce12,hcl12,hM12,hcc12,hfr12⟩:=Kd.R_elem HX12.1 z135 (x2:Int) (z8 zq11) (zq39 O0.1);obtain rfl:=zTa hM12;have HP12:=Kd.R_seg HX12.1 (x2:Int) (z8 zq11) (zq39 O0.1) (seg:=[.string t0]) (j:=1) hcl12 hcc12 (show 2≤2 from by decide) (x':=(⟨(zm y0 x2).f0,t0⟩:S135)) (k135_mkM _ _ _ (⟨(zm y0 x2).f0,t0⟩:S135)) (fun _ hk=>hk);have k2:=hcc12 1 _ rfl;(try simp only [show (k135).sz=2 from rfl,Nat.mul_one,Nat.add_zero] at k2);have hf12_1:=hfr12 1;(try simp only [show (k135).sz=2 from rfl,Nat.mul_one,Nat.add_zero] at hf12_1);clear hcl12 hcc12 hfr12 hM12)|((with_reducible refine zI (t:=9) (p:=24) rfl ?_);refine zwa (t:=9) (p:=24) (v:= ?vo_w13) (w1:=(w6.setCell ⟨go5,(x2:Int).toNat*2+1,none⟩ (.string t0))) ?hg ?ho ?hn ?hr ?_;(case ho=>rfl);(case hg=>rfl);(case hn=>rfl);(case hr=>first|(go_simp;done)|(go_simp;rfl));intro w7 hw;have hg:w6.grownBy w7 (some go5):=(by rw [hw];exact HP12.2);have hp_:Kd.R k135 135 w7 w0.heap.size (fun k_=>(P0_ k_∨w.heap.size≤k_)) (.slice (some ⟨go5,0,none⟩) x0.length co8) y1:=(by rw [hw,Y1.1];exact HP12.1);clear HP12;replace HB:=zz (zq72 GB5.1:Below w0.heap.size w0 w7);replace HK:=zz (Kept.of_grown (S:=(fun k_=>P0_ k_)) hg zq17 (fun k_ e_=>(O0.1.1 k_ e_)));replace O0:=zz hp_;clear hg hw hp_))
     go_roundg k1
     case measure=>have:=HK1.1;omega
     case rel=>exact ⟨(y1),(wrap64 ((wrap64 (x1+1))+1)),(wrap64 (x2+1)),zq10,zq10,H',⟨zq37 HK1.1⟩,⟨by (with_reducible repeat (first|apply Kd.R_alloc|apply Kd.R_drewN|apply Kd.R_drew));exact O0.1⟩,⟨zq17⟩,⟨zq0⟩⟩
    ·exact zq110
   ·rw [if_neg c3] at H
    have c3b0:=z7 c3
    clear c3
    simp only [Option.some.injEq,Prod.mk.injEq] at H
    obtain ⟨rfl,rfl⟩:=H
    obtain ⟨Ao14,co14,e0⟩:=Kd.R_slice O0.1
    subst e0
    exact zq133
def laws_markDisk.f (k:Nat) (l0_0:List ByteArray) (l0_1:List (S135)) (a1:Int):Option (Int×List ByteArray×(List (S135))):=(laws_markStringS.f k l0_0 a1).bind fun bt290=>((laws_markPutS.f k l0_1 bt290.1).bind fun bt292=>(some (bt292.1,bt290.2,bt292.2)))
theorem laws_markDisk.calls (k:Nat) (P0_0_:Nat→Prop) (u0:Value) (l2:List ByteArray) (P0_1_:Nat→Prop) (u1:Value) (l3:List (S135)) (a1:Int) (r1:Int) (r2:List ByteArray) (r3:List (S135)) (w0 w:World) (hB:Below w0.heap.size w0 w) (ho0_0:Kd.R Kd.string 9 w w0.heap.size P0_0_ u0 l2) (ho0_1:Kd.R k135 135 w w0.heap.size P0_1_ u1 l3) (h:laws_markDisk.f k l2 l3 a1=some (r1,r2,r3)):
  Calls Try.prog 28 #[.agg #[u0,u1],.int .i64 a1] w fun e w'=>e= .returned (.int .i64 r1)∧Kd.R Kd.string 9 w' w0.heap.size (fun k_=>((P0_0_ k_∨P0_1_ k_)∨w.heap.size≤k_)) u0 r2∧Kd.R k135 135 w' w0.heap.size (fun k_=>((P0_0_ k_∨P0_1_ k_)∨w.heap.size≤k_)) u1 r3∧Below w0.heap.size w0 w'∧Kept w w' (fun k_=>P0_0_ k_∨P0_1_ k_):=by
 have hu32:=Try.underlying32
 have O0:=zz (show Kd.R Kd.string 9 w w0.heap.size (fun k_=>((P0_0_ k_∨P0_1_ k_)∨w.heap.size≤k_)) u0 l2 from Kd.R_mono ho0_0 (fun k_ hk=>(.inl (.inl hk))))
 have O1:=zz (show Kd.R k135 135 w w0.heap.size (fun k_=>((P0_0_ k_∨P0_1_ k_)∨w.heap.size≤k_)) u1 l3 from Kd.R_mono ho0_1 (fun k_ hk=>(.inl (.inr hk))))
 have HK:=zz (Kept.refl w (fun k_=>P0_0_ k_∨P0_1_ k_))
 have HB:=zz hB
 clear hB
 have H:((laws_markStringS.f k l2 a1).bind fun b0=>((laws_markPutS.f k l3 b0.1).bind fun b1=>(some (b1.1,b0.2,b1.2))))=some (r1,r2,r3):=h
 clear h
 replace H:=z1a H
 obtain ⟨⟨t0,t1⟩,A0,H⟩:=H
 replace H:((laws_markPutS.f k l3 t0).bind fun b1=>(some (b1.1,t1,b1.2)))=some (r1,r2,r3):=H
 have A3:=zz A0
 clear A0
 replace H:=z1a H
 obtain ⟨⟨t2,t3⟩,A1,H⟩:=H
 replace H:(some (t2,t1,t3))=some (r1,r2,r3):=H
 have A4:=zz A1
 clear A1
 simp only [Option.some.injEq,Prod.mk.injEq] at H
 obtain ⟨rfl,rfl,rfl⟩:=H
 obtain ⟨Ao5,co5,eo5⟩:=Kd.R_slice O0.1
 subst eo5
 obtain ⟨Ao6,co6,eo6⟩:=Kd.R_slice O1.1
 subst eo6
 go_enter Try.func28,Try.ntmps28
 go_wp2_with (first|((with_reducible refine zg (N:=2) rfl ?_);refine zA rfl (N:=2) rfl (cs:= #[.slice Ao5 l2.length co5,.slice Ao6 l3.length co6]) (t:=32) zq26 ?_;intro g0 hg w7 hbox hb;have B0:=zz hbox;have H0:=zz (by rw [hg];exact (by first|exact HK.1.1|exact (show Kept w _ (fun k_=>P0_0_ k_∨P0_1_ k_) from by repeat (first|(with_reducible first|exact HK.1|apply Kept.alloc|apply Kept.drewN|apply Kept.drew)|exact HK.1)).1):w.heap.size≤g0);have G0:=zz (zq12:w0.heap.size≤g0);replace O0:=zz (Kd.R_below (zq28 O0.1) hb);replace O1:=zz (Kd.R_below (zq28 O1.1) hb);replace HK:=zz (Kept.below (S:=(fun k_=>P0_0_ k_∨P0_1_ k_)) zq17 hb);replace HB:=zz (zf zq0 hb);clear hb hbox hg;obtain ⟨_,_,_,_⟩:=zba B0.1)|((with_reducible refine zn (f:=61) rfl ?_);refine zQ (some 8) rfl rfl Try.func61 zq8 rfl #[.slice Ao5 l2.length co5,.int .i64 a1] rfl zq6 ?_;(with_reducible refine (laws_markStringS.calls k (fun k_=>some k_=(.slice Ao5 l2.length co5:Value).ownBlock) (.slice Ao5 l2.length co5) l2 a1 t0 t1 w0 _ ?side1 ?side2 A3.1).mono ?_);(case side1=>repeat (first|(with_reducible first|exact HB.1|apply zi|apply zG|apply zx|refine zD ?_ G0.1)|exact HB.1));(case side2=>exact Kd.R_tight rfl O0.1);rintro e w9 ⟨rfl,hy0,hb,hkp⟩;refine ⟨_,rfl,?_⟩;replace O1:=zz (Kd.R_mono (ok':=fun k_=>((P0_0_ k_∨P0_1_ k_)∨w.heap.size≤k_)) (Kd.R_keptB ((Kd.R_apart' O1.1 (Kd.R_typed O0.1) zq32)) hkp (fun k_ hk_ hs_=>(hk_.2) hs_)) (fun k_ hk_=>hk_.1.1));replace B0:=zz (zua (zq7 B0.1) hkp (fun hs_=>(fun e_=>(Kd.R_ne O0.1 B0.1 zq32) e_) hs_));replace HK:=zz (Kept.then_ (S:=(fun k_=>P0_0_ k_∨P0_1_ k_)) (zq47 H0.1) hkp (fun k_ hs_=>(fun e_=>(O0.1.1 k_ e_.symm)) hs_));replace O0:=zz (Kd.R_reok rfl hy0 (fun k_ e_=>O0.1.1 k_ e_));replace HB:=zz hb;(try clear hb);(try clear hkp);(try clear hy0);obtain ⟨_,_,_,_⟩:=zba B0.1)|((with_reducible refine zn (f:=72) rfl ?_);refine zQ (some 12) rfl rfl Try.func72 zq8 rfl #[.slice Ao6 l3.length co6,.int .i64 t0] rfl zq6 ?_;(with_reducible refine (laws_markPutS.calls k (fun k_=>some k_=(.slice Ao6 l3.length co6:Value).ownBlock) (.slice Ao6 l3.length co6) l3 t0 t2 t3 w0 _ ?side1 ?side2 A4.1).mono ?_);(case side1=>repeat (first|(with_reducible first|exact HB.1|apply zi|apply zG|apply zx|refine zD ?_ G0.1)|exact HB.1));(case side2=>exact Kd.R_tight rfl O1.1);rintro e w11 ⟨rfl,hy0,hb,hkp⟩;refine ⟨_,rfl,?_⟩;replace O0:=zz (Kd.R_mono (ok':=fun k_=>((P0_0_ k_∨P0_1_ k_)∨w.heap.size≤k_)) (Kd.R_keptB ((Kd.R_apart' O0.1 (Kd.R_typed O1.1) zq32)) hkp (fun k_ hk_ hs_=>(hk_.2) hs_)) (fun k_ hk_=>hk_.1.1));replace B0:=zz (zua (zq7 B0.1) hkp (fun hs_=>(fun e_=>(Kd.R_ne O1.1 B0.1 zq32) e_) hs_));replace HK:=zz (Kept.then_ (S:=(fun k_=>P0_0_ k_∨P0_1_ k_)) (zq47 H0.1) hkp (fun k_ hs_=>(fun e_=>(O1.1.1 k_ e_.symm)) hs_));replace O1:=zz (Kd.R_reok rfl hy0 (fun k_ e_=>O1.1.1 k_ e_));replace HB:=zz hb;(try clear hb);(try clear hkp);(try clear hy0)))
 go_ret
 exact ⟨zq9,by (with_reducible repeat (first|apply Kd.R_alloc|apply Kd.R_drewN|apply Kd.R_drew));exact O0.1,by (with_reducible repeat (first|apply Kd.R_alloc|apply Kd.R_drewN|apply Kd.R_drew));exact O1.1,zq4 G0.1,zq47 H0.1⟩
def laws_markIntS.l0:Nat→List Int→Int→Int→Option (Int×List Int)
 |0,_,_,_=>none
 |k+1,x0,x1,x5=>if x5<(x0.length:Int) then (if 0≤x5 then (laws_markIntS.l0 k (x0.set (x5:Int).toNat x1) (wrap64 (x1+1)) (wrap64 (x5+1))) else (none)) else (some (x1,x0))
def laws_markIntS.f (k:Nat) (l0:List Int) (a1:Int):Option (Int×List Int):=laws_markIntS.l0 k l0 a1 0
theorem laws_markIntS.calls (k:Nat) (P0_:Nat→Prop) (u0:Value) (l0:List Int) (a1:Int) (r1:Int) (r2:List Int) (w0 w:World) (hB:Below w0.heap.size w0 w) (ho0:Kd.R (Kd.int .i64) 3 w w0.heap.size P0_ u0 l0) (h:laws_markIntS.f k l0 a1=some (r1,r2)):
  Calls Try.prog 51 #[u0,.int .i64 a1] w fun e w'=>e= .returned (.int .i64 r1)∧Kd.R (Kd.int .i64) 3 w' w0.heap.size (fun k_=>(P0_ k_∨w.heap.size≤k_)) u0 r2∧Below w0.heap.size w0 w'∧Kept w w' (fun k_=>P0_ k_):=by
 have HO0:=zz (show Kd.R (Kd.int .i64) 3 w w0.heap.size (fun k_=>(P0_ k_∨w.heap.size≤k_)) u0 l0 from Kd.R_mono ho0 (fun k_ hk=>(.inl hk)))
 have HK:=zz (Kept.refl w (fun k_=>P0_ k_))
 have HB:=zz hB
 clear hB
 have H:(laws_markIntS.l0 k l0 a1 0)=some (r1,r2):=h
 clear h
 have H':=zz H
 clear H
 go_enter Try.func51,Try.ntmps51
 go_wp2
 go_loopg [1,5] k (fun kq v1 v5 w'=>∃(x0:List Int) (x1:Int) (x2:Int),v1= .int .i64 x1∧v5= .int .i64 x2∧Z0 (laws_markIntS.l0 kq x0 x1 x2=some (r1,r2))∧Z0 (kq≤k)∧Z0 (Kd.R (Kd.int .i64) 3 w' w0.heap.size (fun k_=>(P0_ k_∨w.heap.size≤k_)) u0 x0)∧Z0 (Kept w w' (fun k_=>P0_ k_))∧Z0 (Below w0.heap.size w0 w'))
 case atStart=>exact ⟨(l0),(a1),(0),zq10,zq10,H',⟨z2a _⟩,⟨by (with_reducible repeat (first|apply Kd.R_alloc|apply Kd.R_drewN|apply Kd.R_drew));exact HO0.1⟩,⟨zq17⟩,⟨zq0⟩⟩
 case round=>
  clear H'
  obtain ⟨x0,x1,x2,rfl,rfl,HA,HK1,O0,HK,HB⟩:=hrel
  cases gk with
  |zero=>exact absurd HA.1 (by simp [laws_markIntS.l0])
  |succ k1=>
   have H:=HA.1
   clear HA
   simp only [laws_markIntS.l0] at H
   by_cases c3:x2<(x0.length:Int)
   ·rw [if_pos c3] at H
    have c3b0:=z6 c3
    clear c3
    by_cases c4:0≤x2
    ·rw [if_pos c4] at H
     have c4b0:=z6 c4
     clear c4
     obtain ⟨y0,i0⟩:∃y_:List Int,y_=(x0.set (x2:Int).toNat x1):=⟨_,rfl⟩
     replace H:(laws_markIntS.l0 k1 y0 (wrap64 (x1+1)) (wrap64 (x2+1)))=some (r1,r2):=zq16
     have Y0:=zz i0
     clear i0
     have H':=zz H
     clear H
     obtain ⟨Ao6,co6,eo6⟩:=Kd.R_slice O0.1
     subst eo6
     have p5:0≤(x2:Int):=z8 zq11
     have q5:(x2:Int)<((x0.length:Int):Int):=z8 zq11
     obtain ⟨go5,co5,eo5,gb5,gl5,cl5,HG5⟩:=Kd.R_form O0.1 zq3
     (first|cases eo5|(injection eo5 with ea_ en_ ec_;(first|subst ea_|(injection ea_ with ea_;subst ea_));subst ec_;clear en_))
     have GB5:=zz gb5
     clear gb5 gl5 HG5
     obtain ⟨hx5_0,hf5_0⟩:=Kd.R_celln 0 O0.1 (x2:Int) p5 q5
     replace p5:=eq_true p5
     replace q5:=eq_true q5
     have HP7:=Kd.R_putg O0.1 (x2:Int) x1
     go_wp2_with (first|((with_reducible refine zI (t:=3) (p:=15) rfl ?_);refine zwa (t:=3) (p:=15) (v:= ?vo_w8) (w1:=(wr.setCell ⟨go5,(x2:Int).toNat,none⟩ (.int .i64 x1))) ?hg ?ho ?hn ?hr ?_;(case ho=>rfl);(case hg=>rfl);(case hn=>rfl);(case hr=>first|(go_simp;done)|(go_simp;rfl));intro w8 hw;have hg:wr.grownBy w8 (some go5):=(by rw [hw];exact HP7.2);have hp_:Kd.R (Kd.int .i64) 3 w8 w0.heap.size (fun k_=>(P0_ k_∨w.heap.size≤k_)) (.slice (some ⟨go5,0,none⟩) x0.length co6) y0:=(by rw [hw,Y0.1];exact HP7.1);clear HP7;replace HB:=zz (zq72 GB5.1:Below w0.heap.size w0 w8);replace HK:=zz (Kept.of_grown (S:=(fun k_=>P0_ k_)) hg zq17 (fun k_ e_=>(O0.1.1 k_ e_)));replace O0:=zz hp_;clear hg hw hp_))
     exact zq135
    ·exact zq110
   ·rw [if_neg c3] at H
    have c3b0:=z7 c3
    clear c3
    simp only [Option.some.injEq,Prod.mk.injEq] at H
    obtain ⟨rfl,rfl⟩:=H
    obtain ⟨Ao9,co9,eo9⟩:=Kd.R_slice O0.1
    subst eo9
    exact zq133
def laws_heldStringS.l0:Nat→List ByteArray→Int→Int→Option (Int)
 |0,_,_,_=>none
 |k+1,x0,x1,x5=>if x5<(x0.length:Int) then (if 0≤x5 then ((laws_markText.f k x1).bind fun t306=>(if (zkb ByteArray.empty x0 x5).toList=t306.toList then (laws_heldStringS.l0 k x0 (wrap64 (x1+1)) (wrap64 (x5+1))) else (none))) else (none)) else (some x1)
def laws_heldStringS.f (k:Nat) (l0:List ByteArray) (a1:Int):Option (Int):=laws_heldStringS.l0 k l0 a1 0
theorem laws_heldStringS.calls (k:Nat) (A0:Option Addr) (c0:Nat) (l0:List ByteArray) (a1:Int) (r:Int) (w:World) (hr0:Kd.C Kd.string w A0 l0.length l0) (hc0:l0.length≤c0) (h:laws_heldStringS.f k l0 a1=some r):
  Calls Try.prog 103 #[.slice A0 l0.length c0,.int .i64 a1] w fun e w'=>e= .returned (.int .i64 r)∧Below w.heap.size w w':=by
 have HR0:=zz hr0
 clear hr0 hc0
 have HB:=zz (z0a w.heap.size w)
 have H:(laws_heldStringS.l0 k l0 a1 0)=some r:=h
 clear h
 have H':=zz H
 clear H
 go_enter Try.func103,Try.ntmps103
 go_wp2
 go_loopg [1,5] k (fun kq v1 v5 w'=>∃(x0:Int) (x1:Int),v1= .int .i64 x0∧v5= .int .i64 x1∧Z0 (laws_heldStringS.l0 kq l0 x0 x1=some r)∧Z0 (kq≤k)∧Z0 (Below w.heap.size w w'))
 case atStart=>exact ⟨(a1),(0),zq10,zq10,H',⟨z2a _⟩,⟨zq0⟩⟩
 case round=>
  clear H'
  obtain ⟨x0,x1,rfl,rfl,HA,HK1,HB⟩:=hrel
  cases gk with
  |zero=>exact absurd HA.1 (by simp [laws_heldStringS.l0])
  |succ k1=>
   have H:=HA.1
   clear HA
   simp only [laws_heldStringS.l0] at H
   by_cases c3:x1<(l0.length:Int)
   ·rw [if_pos c3] at H
    have c3b0:=z6 c3
    clear c3
    by_cases c4:0≤x1
    ·rw [if_pos c4] at H
     have c4b0:=z6 c4
     clear c4
     replace H:=z1a H
     obtain ⟨t0,A1,H⟩:=H
     replace H:(if (zkb ByteArray.empty l0 x1).toList=t0.toList then (laws_heldStringS.l0 k1 l0 (wrap64 (x0+1)) (wrap64 (x1+1))) else (none))=some r:=H
     have A5:=zz A1
     clear A1
     by_cases c6:(zkb ByteArray.empty l0 x1).toList=t0.toList
     ·rw [if_pos c6] at H
      have c6b0:((zkb ByteArray.empty l0 x1).toList==t0.toList)=true:=beq_iff_eq.mpr c6
      have c6b1:((zkb ByteArray.empty l0 x1).toList !=t0.toList)=false:=bne_eq_false_iff_eq.mpr c6
      clear c6
      have H':=zz H
      clear H
      try go_wp2
      have n0:=zz (zx HB.1)
      clear HB
      have HB:=n0
      clear n0
      have p0:0≤(x1:Int):=z8 zq11
      have q0:x1<(l0.length:Int):=z8 zq11
      obtain ⟨b0,e0,k0⟩:=Kd.at_string HR0.1 x1 p0 q0
      have h0:=k0
      cases e0
      replace k0:=(HB.1.cell (z9 w _ k0)).trans k0
      replace p0:=eq_true p0
      replace q0:=eq_true q0
      refine zGa (n:=7) (S:=fun w'=>w'.cell? (b0.add (x1).toNat)=some (.string (zkb ByteArray.empty l0 x1))) (ds:=[]) #[false,false,false,false,false,false,false] zq8 rfl rfl (((HB.1.cell (z9 w _ h0)).trans h0)) (fun hHeld=> ?_)
      generalize wr.drew=w7 at HB k0 hHeld ⊢
      refine zr (i:=0) (N:=some 12) (v:= ?_) (a':= ?_) #[true,false,false,false,false,false,false] rfl rfl zq8 (fun _ _ _ h=>h) (Or.inl ⟨zq19,zq5⟩) zq1 ?_
      refine zr (i:=1) (N:=some 13) (v:= ?_) (a':= ?_) #[true,true,false,false,false,false,false] rfl rfl zq8 (fun _ _ _ h=>h) (Or.inl ⟨zq19,zq5⟩) zq1 ?_
      refine zr (i:=2) (N:=some 14) (v:= ?_) (a':= ?_) #[true,true,true,false,false,false,false] rfl rfl zq8 (fun _ _ _ h=>h) (Or.inl ⟨zq19,zq5⟩) zq1 ?_
      refine zr (i:=4) (N:=some 16) (v:= ?_) (a':= ?_) #[true,true,true,false,true,false,false] rfl rfl zq8 (fun _ _ _ h=>h) (Or.inl ⟨zq19,zq5⟩) zq1 ?_
      refine take_ (i:=3) (N:=some 15) (v:= ?_) (a':= ?_) #[true,true,true,true,true,false,false] rfl rfl zq8 (fun _ _ _ h=>h) (Or.inl ⟨zq19,by intro w' s0;go_simp;with_reducible rfl⟩) hHeld zq1 ?_
      refine one_ (i:=5) (N:=some 17) #[true,true,true,true,true,true,false] rfl rfl zq8 zq32 (fun K hK=> ?_)
      refine zjb Try.func114 zq8 rfl #[.int .i64 x0] zq19 rfl rfl zq6 ?_
      with_reducible refine (laws_markText.calls k1 x0 t0 _ A5.1).mono ?_
      rintro e w8 ⟨rfl,hb⟩
      refine ⟨_,rfl,?_⟩
      have n0:=zz (zf zq0 hb)
      clear HB
      have HB:=n0
      clear n0
      (try clear hb)
      (try clear hb2)
      (try clear hk)
      (try clear hi)
      refine hK.out _ _ (((HB.1.cell (z9 w _ h0)).trans h0)) (fun hHeld=> ?_)
      clear hK K
      refine norm_ (a':= ?_) ?_ ?_
      rotate_left
      ·show Act.put _ (some 17) _=_
       exact zq86
      refine zr (i:=6) (N:=some 18) (v:= ?_) (a':= ?_) #[true,true,true,true,true,true,true] rfl rfl zq8 (fun _ _ _ h=>h) (Or.inl ⟨zq19,zq5⟩) zq1 ?_
      refine done_ zq8 ?_
      try go_wp2
      go_roundg k1
      case measure=>have:=HK1.1;omega
      case rel=>exact ⟨(wrap64 (x0+1)),(wrap64 (x1+1)),zq10,zq10,H',⟨zq37 HK1.1⟩,⟨zq0⟩⟩
     ·exact zq145
    ·exact zq110
   ·rw [if_neg c3] at H
    have c3b0:=z7 c3
    clear c3
    exact zq151
def laws_heldPutS.l0:Nat→List (S135)→Int→Int→Option (Int)
 |0,_,_,_=>none
 |k+1,x0,x1,x5=>if x5<(x0.length:Int) then (if 0≤x5 then (if ((zm x0 x5).f0)=x1 then ((laws_markText.f k (wrap64 (x1+1))).bind fun t309=>(if ((zm x0 x5).f1).toList=t309.toList then (laws_heldPutS.l0 k x0 (wrap64 ((wrap64 (x1+1))+1)) (wrap64 (x5+1))) else (none))) else (none)) else (none)) else (some x1)
def laws_heldPutS.f (k:Nat) (l0:List (S135)) (a1:Int):Option (Int):=laws_heldPutS.l0 k l0 a1 0
def laws_heldPutS.T7:Bool×List (List Nat×List Nat):=(true,[([],[]),([],[]),([0,1],[0,1]),([2],[2]),([3],[3]),([],[]),([5],[5]),([4,6],[4,6])])
def laws_heldPutS.B7:List Nat:=[0,0,3,7,15,0,32,127]
theorem laws_heldPutS.tab7:rtab .any (zgb Try.f104 7)=laws_heldPutS.T7:=zq8
theorem laws_heldPutS.bits7:zqa laws_heldPutS.T7.2 laws_heldPutS.B7=true:=zq8
theorem laws_heldPutS.calls (k:Nat) (A0:Option Addr) (c0:Nat) (l0:List (S135)) (a1:Int) (r:Int) (w:World) (hr0:Kd.C k135 w A0 l0.length l0) (hc0:l0.length≤c0) (h:laws_heldPutS.f k l0 a1=some r):
  Calls Try.prog 104 #[.slice A0 l0.length c0,.int .i64 a1] w fun e w'=>e= .returned (.int .i64 r)∧Below w.heap.size w w':=by
 have HR0:=zz hr0
 clear hr0 hc0
 have HB:=zz (z0a w.heap.size w)
 have H:(laws_heldPutS.l0 k l0 a1 0)=some r:=h
 clear h
 have H':=zz H
 clear H
 go_enter Try.func104,Try.ntmps104
 go_wp2
 go_loopg [1,5] k (fun kq v1 v5 w'=>∃(x0:Int) (x1:Int),v1= .int .i64 x0∧v5= .int .i64 x1∧Z0 (laws_heldPutS.l0 kq l0 x0 x1=some r)∧Z0 (kq≤k)∧Z0 (Below w.heap.size w w'))
 case atStart=>exact ⟨(a1),(0),zq10,zq10,H',⟨z2a _⟩,⟨zq0⟩⟩
 case round=>
  clear H'
  obtain ⟨x0,x1,rfl,rfl,HA,HK1,HB⟩:=hrel
  cases gk with
  |zero=>exact absurd HA.1 (by simp [laws_heldPutS.l0])
  |succ k1=>
   have H:=HA.1
   clear HA
   simp only [laws_heldPutS.l0] at H
   by_cases c3:x1<(l0.length:Int)
   ·rw [if_pos c3] at H
    have c3b0:=z6 c3
    clear c3
    by_cases c4:0≤x1
    ·rw [if_pos c4] at H
     have c4b0:=z6 c4
     clear c4
     by_cases c5:((zm l0 x1).f0)=x0
     ·rw [if_pos c5] at H
      have c5b0:(((zm l0 x1).f0)==x0)=true:=beq_iff_eq.mpr c5
      have c5b1:(((zm l0 x1).f0) !=x0)=false:=bne_eq_false_iff_eq.mpr c5
      clear c5
      replace H:=z1a H
      obtain ⟨t0,A1,H⟩:=H
      replace H:(if ((zm l0 x1).f1).toList=t0.toList then (laws_heldPutS.l0 k1 l0 (wrap64 ((wrap64 (x0+1))+1)) (wrap64 (x1+1))) else (none))=some r:=H
      have A6:=zz A1
      clear A1
      by_cases c7:((zm l0 x1).f1).toList=t0.toList
      ·rw [if_pos c7] at H
       have c7b0:(((zm l0 x1).f1).toList==t0.toList)=true:=beq_iff_eq.mpr c7
       have c7b1:(((zm l0 x1).f1).toList !=t0.toList)=false:=bne_eq_false_iff_eq.mpr c7
       clear c7
       have H':=zz H
       clear H
       have p0:0≤(x1:Int):=z8 zq11
       have q0:x1<(l0.length:Int):=z8 zq11
       obtain ⟨b0,e0,k0,k2⟩:=zka HR0.1 x1 p0 q0
       cases e0
       replace k0:=(HB.1.cell (z9 w _ k0)).trans k0
       replace k2:=(HB.1.cell (z9 w _ k2)).trans k2
       replace p0:=eq_true p0
       replace q0:=eq_true q0
       try go_wp2
       have n0:=zz (zx HB.1)
       clear HB
       have HB:=n0
       clear n0
       have p1:0≤(x1:Int):=z8 zq11
       have q1:x1<(l0.length:Int):=z8 zq11
       obtain ⟨b1,e1,k3,k4⟩:=zka HR0.1 x1 p1 q1
       have h0:=k4
       have h2:=k3
       obtain rfl:b0=b1:=(by injection e1)
       replace k3:=(HB.1.cell (z9 w _ k3)).trans k3
       replace k4:=(HB.1.cell (z9 w _ k4)).trans k4
       replace p1:=eq_true p1
       replace q1:=eq_true q1
       refine zGa (n:=8) (S:=fun w'=>w'.cell? (b0.add ((x1).toNat*2))=some (.int .i64 ((zm l0 x1).f0))∧w'.cell? ⟨(b0.add ((x1).toNat*2)).block,(b0.add ((x1).toNat*2)).off+1,none⟩=some (.string ((zm l0 x1).f1))) (ds:=[]) #[false,false,false,false,false,false,false,false] zq8 rfl rfl ⟨((HB.1.cell (z9 w _ h2)).trans h2),((HB.1.cell (z9 w _ h0)).trans h0)⟩ (fun hHeld=> ?_);refine zW laws_heldPutS.tab7 laws_heldPutS.bits7 (fun HT_ HW_=> ?_)
       generalize wr.drew=w8 at HB k3 k4 hHeld ⊢
       refine zr (i:=0) (N:=some 21) (v:= ?_) (a':= ?_) #[true,false,false,false,false,false,false,false] rfl rfl (zk HT_.1 zq8) (fun _ _ _ h=>h) (Or.inl ⟨zq19,zq5⟩) zq1 ?_
       refine zr (i:=1) (N:=some 22) (v:= ?_) (a':= ?_) #[true,true,false,false,false,false,false,false] rfl rfl (zk HT_.1 zq8) (fun _ _ _ h=>h) (Or.inl ⟨zq19,zq5⟩) zq1 ?_
       refine zr (i:=2) (N:=some 23) (v:= ?_) (a':= ?_) #[true,true,true,false,false,false,false,false] rfl rfl (zk HT_.1 zq8) (fun _ _ _ h=>h) (Or.inl ⟨zq19,zq5⟩) zq1 ?_
       refine zr (i:=3) (N:=some 24) (v:= ?_) (a':= ?_) #[true,true,true,true,false,false,false,false] rfl rfl (zk HT_.1 zq8) (fun _ _ _ h=>h) (Or.inl ⟨zq19,zq5⟩) zq1 ?_
       refine zr (i:=5) (N:=some 26) (v:= ?_) (a':= ?_) #[true,true,true,true,false,true,false,false] rfl rfl (zk HT_.1 zq8) (fun _ _ _ h=>h) (Or.inl ⟨zq19,zq5⟩) zq1 ?_
       refine take_ (i:=4) (N:=some 25) (v:= ?_) (a':= ?_) #[true,true,true,true,true,true,false,false] rfl rfl (zFa HT_.1 HW_.1 zq8) (fun _ _ _ h=>h) (Or.inl ⟨zq19,zq57⟩) hHeld zq1 ?_
       refine one_ (i:=6) (N:=some 27) #[true,true,true,true,true,true,true,false] rfl rfl (zpa HT_.1 zq8) zq32 (fun K hK=> ?_)
       refine zjb Try.func114 zq8 rfl #[.int .i64 (wrap64 (x0+1))] zq19 rfl rfl zq6 ?_
       with_reducible refine (laws_markText.calls k1 (wrap64 (x0+1)) t0 _ A6.1).mono ?_
       rintro e w9 ⟨rfl,hb⟩
       refine ⟨_,rfl,?_⟩
       have n0:=zz (zf zq0 hb)
       clear HB
       have HB:=n0
       clear n0
       (try clear hb)
       (try clear hb2)
       (try clear hk)
       (try clear hi)
       refine hK.out _ _ ⟨((HB.1.cell (z9 w _ h2)).trans h2),((HB.1.cell (z9 w _ h0)).trans h0)⟩ (fun hHeld=> ?_)
       clear hK K
       refine norm_ (a':= ?_) ?_ ?_
       rotate_left
       ·show Act.put _ (some 27) _=_
        exact zq86
       refine zr (i:=7) (N:=some 28) (v:= ?_) (a':= ?_) #[true,true,true,true,true,true,true,true] rfl rfl (zk HT_.1 zq8) (fun _ _ _ h=>h) (Or.inl ⟨zq19,zq5⟩) zq1 ?_
       refine done_ (done_of HT_.1 zq8) ?_
       try go_wp2
       go_roundg k1
       case measure=>have:=HK1.1;omega
       case rel=>exact ⟨(wrap64 ((wrap64 (x0+1))+1)),(wrap64 (x1+1)),zq10,zq10,H',⟨zq37 HK1.1⟩,⟨zq0⟩⟩
      ·exact zq141
     ·exact zq105
    ·exact zq110
   ·rw [if_neg c3] at H
    have c3b0:=z7 c3
    clear c3
    exact zq151
def laws_heldDisk.f (k:Nat) (l0_0:List ByteArray) (l0_1:List (S135)) (a1:Int):Option (Int):=(laws_heldStringS.f k l0_0 a1).bind fun t311=>(if t311<0 then (none) else ((laws_heldPutS.f k l0_1 t311).bind fun t312=>(if t312<0 then (none) else (some t312))))
theorem laws_heldDisk.calls (k:Nat) (A0:Option Addr) (c0:Nat) (l2:List ByteArray) (A1:Option Addr) (c1:Nat) (l3:List (S135)) (a1:Int) (r:Int) (w:World) (r0:Kd.C Kd.string w A0 l2.length l2) (h0:l2.length≤c0) (r1:Kd.C k135 w A1 l3.length l3) (h2:l3.length≤c1) (h:laws_heldDisk.f k l2 l3 a1=some r):
  Calls Try.prog 52 #[.agg #[.slice A0 l2.length c0,.slice A1 l3.length c1],.int .i64 a1] w fun e w'=>e= .returned (.int .i64 r)∧Below w.heap.size w w':=by
 have hu32:=Try.underlying32
 have R0:=zz r0
 have C0:=zz h0
 clear r0 h0
 have R1:=zz r1
 have C1:=zz h2
 clear r1 h2
 have HB:=zz (z0a w.heap.size w)
 have H:((laws_heldStringS.f k l2 a1).bind fun t0=>(if t0<0 then (none) else ((laws_heldPutS.f k l3 t0).bind fun t1=>(if t1<0 then (none) else (some t1)))))=some r:=h
 clear h
 replace H:=z1a H
 obtain ⟨t0,A2,H⟩:=H
 replace H:(if t0<0 then (none) else ((laws_heldPutS.f k l3 t0).bind fun t1=>(if t1<0 then (none) else (some t1))))=some r:=H
 have A3:=zz A2
 clear A2
 by_cases c4:t0<0
 ·rw [if_pos c4] at H
  exact absurd H zq29
 ·rw [if_neg c4] at H
  have c4b0:=z7 c4
  clear c4
  replace H:=z1a H
  obtain ⟨t1,A4,H⟩:=H
  replace H:(if t1<0 then (none) else (some t1))=some r:=H
  have A5:=zz A4
  clear A4
  by_cases c6:t1<0
  ·rw [if_pos c6] at H
   exact absurd H zq29
  ·rw [if_neg c6] at H
   have c6b0:=z7 c6
   clear c6
   obtain rfl:=z5a H
   go_enter Try.func52,Try.ntmps52
   go_wp2_with (first|((with_reducible refine zg (N:=2) rfl ?_);refine zA rfl (N:=2) rfl (cs:= #[.slice A0 l2.length c0,.slice A1 l3.length c1]) (t:=32) zq26 ?_;intro g0 hg w7 hbox hb;have B0:=zz hbox;have G0:=zz (zq12:w.heap.size≤g0);replace HB:=zz (zf zq0 hb);clear hb hbox hg;obtain ⟨_,_,_,_⟩:=zba B0.1)|((with_reducible refine zn (f:=103) rfl ?_);refine zQ (some 8) rfl rfl Try.func103 zq8 rfl #[.slice A0 l2.length c0,.int .i64 a1] rfl zq6 ?_;(with_reducible refine (laws_heldStringS.calls k _ _ l2 a1 t0 _ ?side1 ?side2 A3.1).mono ?_);(case side1=>repeat (first|exact (Kd.C_below R0.1 HB.1)|(with_reducible refine Kd.C_alloc ?_ _)|(with_reducible refine Kd.C_drewN ?_ _)|(with_reducible refine Kd.C_drew ?_)));(case side2=>exact C0.1);rintro e w9 ⟨rfl,hb⟩;refine ⟨_,rfl,?_⟩;replace B0:=zz (zj (g:=g0) (o:= .cells #[.slice A0 l2.length c0,.slice A1 l3.length c1] 32 (0,0)) (zq7 B0.1) hb);replace HB:=zz (zf (zq4 G0.1) hb);(try clear hb);(try clear hb2);(try clear hk);(try clear hi);obtain ⟨_,_,_,_⟩:=zba B0.1)|((with_reducible refine zn (f:=104) rfl ?_);refine zQ (some 14) rfl rfl Try.func104 zq8 rfl #[.slice A1 l3.length c1,.int .i64 t0] rfl zq6 ?_;(with_reducible refine (laws_heldPutS.calls k _ _ l3 t0 t1 _ ?side1 ?side2 A5.1).mono ?_);(case side1=>repeat (first|exact (Kd.C_below R1.1 HB.1)|(with_reducible refine Kd.C_alloc ?_ _)|(with_reducible refine Kd.C_drewN ?_ _)|(with_reducible refine Kd.C_drew ?_)));(case side2=>exact C1.1);rintro e w11 ⟨rfl,hb⟩;refine ⟨_,rfl,?_⟩;replace B0:=zz (zj (g:=g0) (o:= .cells #[.slice A0 l2.length c0,.slice A1 l3.length c1] 32 (0,0)) (zq7 B0.1) hb);replace HB:=zz (zf (zq4 G0.1) hb);(try clear hb);(try clear hb2);(try clear hk);(try clear hi)))
   exact zq115
def laws_heldIntS.l0:Nat→List Int→Int→Int→Option (Int)
 |0,_,_,_=>none
 |k+1,x0,x1,x5=>if x5<(x0.length:Int) then (if 0≤x5 then (if (rd x0 x5)=x1 then (laws_heldIntS.l0 k x0 (wrap64 (x1+1)) (wrap64 (x5+1))) else (none)) else (none)) else (some x1)
def laws_heldIntS.f (k:Nat) (l0:List Int) (a1:Int):Option (Int):=laws_heldIntS.l0 k l0 a1 0
theorem laws_heldIntS.calls (k:Nat) (A0:Option Addr) (c0:Nat) (l0:List Int) (a1:Int) (r:Int) (w:World) (hr0:Kd.C (Kd.int .i64) w A0 l0.length l0) (hc0:l0.length≤c0) (h:laws_heldIntS.f k l0 a1=some r):
  Calls Try.prog 53 #[.slice A0 l0.length c0,.int .i64 a1] w fun e w'=>e= .returned (.int .i64 r)∧Drawn0 w w':=by
 have HR0:=zz hr0
 clear hr0 hc0
 have H:(laws_heldIntS.l0 k l0 a1 0)=some r:=h
 clear h
 have H':=zz H
 clear H
 go_enter Try.func53,Try.ntmps53
 go_wp2
 go_loopg [1,5] k (fun kq v1 v5 w'=>∃(x0:Int) (x1:Int),v1= .int .i64 x0∧v5= .int .i64 x1∧Z0 (laws_heldIntS.l0 kq l0 x0 x1=some r)∧Z0 (kq≤k)∧Drawn0 w w')
 case atStart=>exact ⟨(a1),(0),zq10,zq10,H',⟨z2a _⟩,zq15⟩
 case round=>
  clear H'
  obtain ⟨x0,x1,rfl,rfl,HA,HK1,⟨m1,rfl⟩⟩:=hrel
  cases gk with
  |zero=>exact absurd HA.1 (by simp [laws_heldIntS.l0])
  |succ k1=>
   have H:=HA.1
   clear HA
   simp only [laws_heldIntS.l0] at H
   by_cases c3:x1<(l0.length:Int)
   ·rw [if_pos c3] at H
    have c3b0:=z6 c3
    clear c3
    by_cases c4:0≤x1
    ·rw [if_pos c4] at H
     have c4b0:=z6 c4
     clear c4
     by_cases c5:(rd l0 x1)=x0
     ·rw [if_pos c5] at H
      have c5b0:((rd l0 x1)==x0)=true:=beq_iff_eq.mpr c5
      have c5b1:((rd l0 x1) !=x0)=false:=bne_eq_false_iff_eq.mpr c5
      clear c5
      have H':=zz H
      clear H
      have p0:0≤(x1:Int):=z8 zq11
      have q0:x1<(l0.length:Int):=z8 zq11
      obtain ⟨ad313,e0,hx313_0⟩:=Kd.at_int HR0.1 x1 p0 q0
      cases e0
      replace p0:=eq_true p0
      replace q0:=eq_true q0
      go_wp2
      go_roundg k1
      case measure=>have:=HK1.1;omega
      case rel=>exact ⟨(wrap64 (x0+1)),(wrap64 (x1+1)),zq10,zq10,H',⟨zq37 HK1.1⟩,zq15⟩
     ·exact zq105
    ·exact zq110
   ·exact zq103
end Go.Proofs.Ytonhdiemjgdcnaa.PFnExactGivePage
namespace Go.Proofs.Ytonhdiemjgdcnaa.PFnExactGivePage
open Go.RowKit Go.Proofs.YtonhdiemjgdcnaaW.PrintWords Go.Proofs.YtonhdiemjgdcnaaW.PrintLast Go.Proofs.YtonhdiemjgdcnaaW.PrintMore
attribute [local go_sem] zV zU zia zha zP zN zS zT
theorem rdOf_nat {α:Type} (d:α) (xs:List α) (k:Nat) (hk:k<xs.length):zkb d xs (k:Int)=xs[k]:=by
 simp [zkb,List.getD_eq_getElem?_getD,List.getElem?_eq_getElem hk]
theorem rd_nat (xs:List Int) (k:Nat) (hk:k<xs.length):rd xs (k:Int)=xs[k]:=by
 simp [rd,List.getD_eq_getElem?_getD,List.getElem?_eq_getElem hk]
theorem rd_T135_nat (xs:List S135) (k:Nat) (hk:k<xs.length):zm xs (k:Int)=xs[k]:=by
 simp [zm,List.getD_eq_getElem?_getD,List.getElem?_eq_getElem hk]
theorem rd_T140_nat (xs:List S140) (k:Nat) (hk:k<xs.length):zea xs (k:Int)=xs[k]:=by
 simp [zea,List.getD_eq_getElem?_getD,List.getElem?_eq_getElem hk]
theorem zB {x:Int} (h1: -9223372036854775808≤x) (h2:x≤9223372036854775807):wrap64 x=x:=zq79
theorem szS_go (l:List ByteArray) (hs:∀s∈l,s.size≤9223372036854775807) (hl:l.length≤9223372036854775807):∀(n i:Nat) (x:Int),i+n=l.length→0≤x→x≤1048576→∃r,laws_szStringS.l0 (n+1) l x (i:Int)=some r∧(r<0∨(0≤r∧r≤x∧∀j (hj:j<l.length),i≤j→(l[j].size:Int)≤x)):=by
 intro n
 induction n with
 |zero=>
  intro i x hi h0 h1
  refine ⟨x,?_,.inr ⟨h0,Int.le_refl _,fun j hj h=>by omega⟩⟩
  rw [laws_szStringS.l0,if_neg zq3]
 |succ n ih=>
  intro i x hi h0 h1
  have hlt:i<l.length:=zq3
  have hsz:=hs l[i] (List.getElem_mem hlt)
  rw [laws_szStringS.l0,if_pos zq3,if_pos zq3,rdOf_nat _ _ _ hlt,zB zq3 zq3,zB zq3 zq3]
  by_cases hneg:x-(l[i].size:Int)<0
  ·rw [if_pos hneg]
   exact ⟨-1,rfl,.inl zq3⟩
  ·rw [if_neg hneg]
   obtain ⟨r,h2,h3⟩:=ih (i+1) (x-(l[i].size:Int)) zq3 zq3 zq3
   exact zq137
theorem szS_ev (l:List ByteArray) (hs:∀s∈l,s.size≤9223372036854775807) (hl:l.length≤9223372036854775807) (x:Int) (h0:0≤x) (h1:x≤1048576):∃r,Ev (fun k=>laws_szStringS.f k l x) r∧(r<0∨(0≤r∧r≤x∧(l.length:Int)≤x∧∀s∈l,(s.size:Int)≤x)):=by
 by_cases hneg:x-(l.length:Int)<0
 ·refine ⟨-1,Ev.of (k:=0) (fun k=>laws_szStringS.mono _ _ k) ?_,.inl zq3⟩
  unfold laws_szStringS.f
  rw [zB zq3 zq3,if_pos hneg]
 ·obtain ⟨r,h2,h3⟩:=szS_go l hs hl l.length 0 (x-(l.length:Int)) zq3 zq3 zq3
  refine ⟨r,Ev.of (k:=l.length+1) (fun k=>laws_szStringS.mono _ _ k) ?_,?_⟩
  ·unfold laws_szStringS.f
   rw [zB zq3 zq3,if_neg hneg]
   exact h2
  ·exact zq148
theorem szP_go (l:List S140) (hs:∀s∈l,s.f1.size≤9223372036854775807) (hl:l.length≤9223372036854775807):∀(n i:Nat) (x:Int),i+n=l.length→0≤x→x≤1048576→∃r,laws_szPutS.l0 (n+1) l x (i:Int)=some r∧(r<0∨(0≤r∧r≤x∧∀j (hj:j<l.length),i≤j→(l[j].f1.size:Int)≤x)):=by
 intro n
 induction n with
 |zero=>
  intro i x hi h0 h1
  refine ⟨x,?_,.inr ⟨h0,Int.le_refl _,fun j hj h=>by omega⟩⟩
  rw [laws_szPutS.l0,if_neg zq3]
 |succ n ih=>
  intro i x hi h0 h1
  have hlt:i<l.length:=zq3
  have hsz:=hs l[i] (List.getElem_mem hlt)
  rw [laws_szPutS.l0,if_pos zq3,if_pos zq3,rd_T140_nat _ _ hlt,laws_szPut.f,zB (x:=x-_) zq3 zq3,zB (x:=(i:Int)+1) zq3 zq3]
  by_cases hneg:x-(l[i].f1.size:Int)<0
  ·rw [if_pos hneg,Option.bind_some,if_pos zq3]
   exact ⟨-1,rfl,.inl zq3⟩
  ·rw [if_neg hneg,Option.bind_some,if_neg hneg]
   obtain ⟨r,h2,h3⟩:=ih (i+1) (x-(l[i].f1.size:Int)) zq3 zq3 zq3
   exact zq137
theorem szP_ev (l:List S140) (hs:∀s∈l,s.f1.size≤9223372036854775807) (hl:l.length≤9223372036854775807) (x:Int) (h0:0≤x) (h1:x≤1048576):∃r,Ev (fun k=>laws_szPutS.f k l x) r∧(r<0∨(0≤r∧r≤x∧(l.length:Int)≤x∧∀s∈l,(s.f1.size:Int)≤x)):=by
 by_cases hneg:x-(l.length:Int)<0
 ·refine ⟨-1,Ev.of (k:=0) (fun k=>laws_szPutS.mono _ _ k) ?_,.inl zq3⟩
  unfold laws_szPutS.f
  rw [zB zq3 zq3,if_pos hneg]
 ·obtain ⟨r,h2,h3⟩:=szP_go l hs hl l.length 0 (x-(l.length:Int)) zq3 zq3 zq3
  refine ⟨r,Ev.of (k:=l.length+1) (fun k=>laws_szPutS.mono _ _ k) ?_,?_⟩
  ·unfold laws_szPutS.f
   rw [zB zq3 zq3,if_neg hneg]
   exact h2
  ·exact zq148
def Small (pages:List ByteArray) (late:List S140):Prop:=(pages.length≤1048576∧∀s∈pages,s.size≤1048576)∧(late.length≤1048576∧∀s∈late,s.f1.size≤1048576)
theorem set_front {α:Type} (l r:List α) (x y:α):(l++x::r).set l.length y=(l++[y])++r:=by
 rw [List.set_append_right _ _ (Nat.le_refl _),Nat.sub_self,List.set_cons_zero,List.append_assoc,List.singleton_append]
theorem toS_go (l:List ByteArray) (hl:l.length≤1048576):∀(n i:Nat),i+n=l.length→laws_toStringS.l0 (n+1) l (l.take i++List.replicate n (⟨#[]⟩:ByteArray)) (i:Int)=some l:=by
 intro n
 induction n with
 |zero=>
  intro i hi
  rw [laws_toStringS.l0,if_neg zq3,List.replicate_zero,List.append_nil,List.take_of_length_le zq3]
 |succ n ih=>
  intro i hi
  have hlt:i<l.length:=zq3
  have hti:(l.take i).length=i:=by rw [List.length_take];omega
  rw [laws_toStringS.l0,if_pos zq3,if_pos zq3,if_pos zq80,rdOf_nat _ _ _ hlt,zB zq3 zq3,Int.toNat_natCast,List.replicate_succ]
  have:=set_front (l.take i) (List.replicate n (⟨#[]⟩:ByteArray)) ⟨#[]⟩ l[i]
  rw [hti] at this
  rw [this,List.take_append_getElem hlt,show (i:Int)+1=((i+1:Nat):Int) by omega]
  exact ih (i+1) zq3
theorem toS_ev (l:List ByteArray) (hl:l.length≤1048576):Ev (fun k=>laws_toStringS.f k l) l:=by
 refine Ev.of (k:=l.length+1) (fun k=>laws_toStringS.mono _ k) ?_
 unfold laws_toStringS.f
 rw [if_pos zq3,if_pos (by rw [Int.toNat_natCast];omega),Int.toNat_natCast]
 have:=toS_go l hl l.length 0 zq3
 simpa using this
def conv (x:S140):S135:=⟨x.f0,x.f1⟩
theorem toP_go (l:List S140) (hl:l.length≤1048576):∀(n i:Nat),i+n=l.length→laws_toPutS.l0 (n+1) l ((l.map conv).take i++List.replicate n z135) (i:Int)=some (l.map conv):=by
 intro n
 induction n with
 |zero=>
  intro i hi
  rw [laws_toPutS.l0,if_neg zq3,List.replicate_zero,List.append_nil,List.take_of_length_le (by rw [List.length_map];omega)]
 |succ n ih=>
  intro i hi
  have hlt:i<l.length:=zq3
  have hlt':i<(l.map conv).length:=by rw [List.length_map];exact hlt
  have hti:((l.map conv).take i).length=i:=by rw [List.length_take,List.length_map];omega
  rw [laws_toPutS.l0,if_pos zq3,if_pos zq3,rd_T140_nat _ _ hlt,laws_toPut.f,Option.bind_some,if_pos zq80,zB zq3 zq3,Int.toNat_natCast,List.replicate_succ]
  have:=set_front ((l.map conv).take i) (List.replicate n z135) z135 (conv l[i])
  rw [hti] at this
  show laws_toPutS.l0 (n+1) l (((l.map conv).take i++z135::List.replicate n z135).set i (conv l[i])) _=_
  rw [this,show conv l[i]=(l.map conv)[i] by rw [List.getElem_map],List.take_append_getElem hlt',show (i:Int)+1=((i+1:Nat):Int) by omega]
  exact ih (i+1) zq3
theorem toP_ev (l:List S140) (hl:l.length≤1048576):Ev (fun k=>laws_toPutS.f k l) (l.map conv):=by
 refine Ev.of (k:=l.length+1) (fun k=>laws_toPutS.mono _ k) ?_
 unfold laws_toPutS.f
 rw [if_pos zq3,if_pos (by rw [Int.toNat_natCast];omega),Int.toNat_natCast]
 have:=toP_go l hl l.length 0 zq3
 simpa using this
theorem toD_ev (pages:List ByteArray) (late:List S140) (h:Small pages late):Ev (fun k=>laws_toDisk.f k pages late) (pages,late.map conv):=
 Ev.bind (toS_ev pages h.1.1) (Ev.bind (toP_ev late h.2.1) (Ev.now _))
theorem eqS_go (l:List ByteArray) (hl:l.length≤2000000):∀(n i:Nat),i+n=l.length→laws_eqStringS.l0 (n+1) l l (i:Int)=some true:=by
 intro n
 induction n with
 |zero=>intro i hi;rw [laws_eqStringS.l0,if_neg zq3]
 |succ n ih=>
  intro i hi
  rw [laws_eqStringS.l0,if_pos zq3,if_pos zq3,if_pos zq3,if_pos rfl,zB zq3 zq3,show (i:Int)+1=((i+1:Nat):Int) by omega]
  exact ih (i+1) zq3
theorem eqP_go (l:List S135) (hl:l.length≤2000000):∀(n i:Nat),i+n=l.length→laws_eqPutS.l0 (n+1) l l (i:Int)=some true:=by
 intro n
 induction n with
 |zero=>intro i hi;rw [laws_eqPutS.l0,if_neg zq3]
 |succ n ih=>
  intro i hi
  rw [laws_eqPutS.l0,if_pos zq3,if_pos zq3,if_pos zq3,laws_eqPut.f,if_pos rfl,if_pos rfl,Option.bind_some,if_pos rfl,zB zq3 zq3,show (i:Int)+1=((i+1:Nat):Int) by omega]
  exact ih (i+1) zq3
theorem eqD_ev (pages:List ByteArray) (late:List S135) (h1:pages.length≤2000000) (h2:late.length≤2000000):Ev (fun k=>laws_eqDisk.f k pages late pages late) true:=by
 refine Ev.bind (a:=true) (Ev.of (k:=pages.length+1) (fun k=>laws_eqStringS.mono _ _ k) ?_) ?_
 ·unfold laws_eqStringS.f
  rw [if_pos rfl]
  exact eqS_go pages h1 pages.length 0 zq3
 ·simp only [if_true]
  refine Ev.bind (a:=true) (Ev.of (k:=late.length+1) (fun k=>laws_eqPutS.mono _ _ k) ?_) ?_
  ·unfold laws_eqPutS.f
   rw [if_pos rfl]
   exact eqP_go late h2 late.length 0 zq3
  ·simp only [if_true]
   exact Ev.now _
theorem eqI_go (l:List Int) (hl:l.length≤2000000):∀(n i:Nat),i+n=l.length→laws_eqIntS.l0 (n+1) l l (i:Int)=some true:=by
 intro n
 induction n with
 |zero=>intro i hi;rw [laws_eqIntS.l0,if_neg zq3]
 |succ n ih=>
  intro i hi
  rw [laws_eqIntS.l0,if_pos zq3,if_pos zq3,if_pos zq3,if_pos rfl,zB zq3 zq3,show (i:Int)+1=((i+1:Nat):Int) by omega]
  exact ih (i+1) zq3
theorem eqI_ev (l:List Int) (hl:l.length≤2000000):Ev (fun k=>laws_eqIntS.f k l l) true:=by
 refine Ev.of (k:=l.length+1) (fun k=>laws_eqIntS.mono _ _ k) ?_
 unfold laws_eqIntS.f
 rw [if_pos rfl]
 exact eqI_go l hl l.length 0 zq3
theorem mt_go:∀(n:Nat) (a:Int) (x:ByteArray),0≤a→a<10^n→a≤9223372036854775807→x.size+n≤1000→∃t,laws_markText.l0 (n+1) a x=some t:=by
 intro n
 induction n with
 |zero=>
  intro a x h0 h1 _ h2
  rw [laws_markText.l0,if_neg zq3,if_pos zq3]
  exact ⟨_,rfl⟩
 |succ n ih=>
  intro a x h0 h1 hb h2
  by_cases ha:a>0
  ·rw [laws_markText.l0,if_pos ha,Option.bind_some,if_pos (by rw [strOfNums_size];simp;omega)]
   have e:wrap64 (Int.tdiv a 10)=a/10:=by rw [Int.tdiv_eq_ediv_of_nonneg h0];exact zB zq3 zq3
   rw [e]
   refine ih (a/10) _ zq3 ?_ zq3 ?_
   ·rw [Int.pow_succ] at h1
    omega
   ·rw [ByteArray.size_append,strOfNums_size]
    simp
    omega
  ·rw [laws_markText.l0,if_neg ha,if_pos zq3]
   exact ⟨_,rfl⟩
theorem mt_ex (a:Int) (h0:0<a) (h1:a≤4000000000000000000):∃t,Ev (fun k=>laws_markText.f k a) t:=by
 obtain ⟨t,ht⟩:=mt_go 19 a ⟨#[]⟩ zq3 (by have:(10:Int)^19=10000000000000000000:=zq32;omega) zq3 zq32
 refine ⟨t,Ev.of (k:=20) (fun k=>laws_markText.mono _ k) ?_⟩
 unfold laws_markText.f
 rw [if_neg zq3]
 exact ht
open Classical in
noncomputable def mt (a:Int):ByteArray:=if h:∃t,Ev (fun k=>laws_markText.f k a) t then Classical.choose h else ⟨#[]⟩
theorem mt_ev (a:Int) (h0:0<a) (h1:a≤4000000000000000000):Ev (fun k=>laws_markText.f k a) (mt a):=by
 unfold mt
 rw [dif_pos (mt_ex a h0 h1)]
 exact Classical.choose_spec (mt_ex a h0 h1)
def INd (pages:List ByteArray) (late:List S140):Prop:=(∀s∈pages,s.size≤9223372036854775807)∧pages.length≤9223372036854775807∧(∀s∈late,s.f1.size≤9223372036854775807)∧late.length≤9223372036854775807
theorem szDx (pages:List ByteArray) (late:List S140) (h:INd pages late) (x:Int) (h0:0≤x) (hx:x≤1048576):∃r,Ev (fun k=>laws_szDisk.f k pages late x) r∧(r<0∨(0≤r∧r≤x∧Small pages late)):=by
 obtain ⟨h1,h2,h3,h4⟩:=h
 obtain ⟨a,ea,ha⟩:=szS_ev pages h1 h2 x h0 hx
 rcases ha with ha|⟨a0,a1,a2,a3⟩
 ·exact ⟨-1,Ev.bind ea (by simp only [if_pos ha];exact Ev.now _),.inl zq3⟩
 ·obtain ⟨b,eb,hb⟩:=szP_ev late h3 h4 a a0 zq3
  rcases hb with hb|⟨b0,b1,b2,b3⟩
  ·exact ⟨-1,Ev.bind ea (by simp only [if_neg (show ¬a<0 by omega)];exact Ev.bind eb (by simp only [if_pos hb];exact Ev.now _)),.inl zq3⟩
  ·exact ⟨b,Ev.bind ea (by simp only [if_neg (show ¬a<0 by omega)];exact Ev.bind eb (by simp only [if_neg (show ¬b<0 by omega)];exact Ev.now _)),.inr ⟨b0,zq3,⟨zq3,fun s hs=>by have:=a3 s hs;omega⟩,⟨zq3,fun s hs=>by have:=b3 s hs;omega⟩⟩⟩
theorem rd135 (xs:List S135) (i:Nat) (h:i<xs.length):zm xs (i:Int)=xs[i]:=rd_T135_nat xs i h
theorem mhS:∀(n i:Nat) (l:List ByteArray) (a:Int),i+n=l.length→0<a→a+n<4000000000000000000→l.length≤2000000→∃l',Ev (fun k=>laws_markStringS.l0 k l a (i:Int)) (a+n,l')∧l'.length=l.length∧(∀j,j<i→l'[j]?=l[j]?)∧Ev (fun k=>laws_heldStringS.l0 k l' a (i:Int)) (a+n):=by
 intro n
 induction n with
 |zero=>
  intro i l a hi h0 h1 hl
  refine ⟨l,Ev.step (f:=fun _=>some (a+((0:Nat):Int),l)) (fun k=> ?_) (Ev.now _),rfl,fun _ _=>rfl,Ev.step (f:=fun _=>some (a+((0:Nat):Int))) (fun k=> ?_) (Ev.now _)⟩
  ·rw [laws_markStringS.l0,if_neg zq3]
   simp
  ·rw [laws_heldStringS.l0,if_neg zq3]
   simp
 |succ n ih=>
  intro i l a hi h0 h1 hl
  obtain ⟨l',e1,e2,e3,e4⟩:=ih (i+1) (l.set i (mt a)) (a+1) (by rw [List.length_set];omega) zq3 zq3 (by rw [List.length_set];exact hl)
  rw [List.length_set] at e2
  have hat:l'[i]?=some (mt a):=zq59
  have hlt:i<l'.length:=zq3
  have hget:l'[i]=mt a:=zq58
  have hn:a+1+(n:Int)=a+((n+1:Nat):Int):=zq3
  rw [hn] at e1 e4
  refine ⟨l',Ev.step (f:=fun k=>(laws_markText.f k a).bind fun t=>laws_markStringS.l0 k (l.set i t) (a+1) ((i+1:Nat):Int)) (fun k=> ?_) (Ev.bind (mt_ev a h0 zq3) e1),e2,fun j hj=> ?_,Ev.step (f:=fun k=>(laws_markText.f k a).bind fun t=>if (mt a).toList=t.toList then laws_heldStringS.l0 k l' (a+1) ((i+1:Nat):Int) else none) (fun k=> ?_) (Ev.bind (mt_ev a h0 zq3) (by simp only [if_true];exact e4))⟩
  ·rw [laws_markStringS.l0,if_pos zq3]
   congr 1
   funext t
   rw [if_pos zq3,zB zq3 zq3,zB zq3 zq3,Int.toNat_natCast]
   rfl
  ·rw [e3 j zq3,List.getElem?_set_ne zq3]
  ·rw [laws_heldStringS.l0,if_pos zq3,if_pos zq3,rdOf_nat _ _ _ hlt,hget,zB (x:=a+1) zq3 zq3,zB (x:=(i:Int)+1) zq3 zq3]
   rfl
theorem mhP:∀(n i:Nat) (l:List S135) (a:Int),i+n=l.length→0<a→a+2*n<4000000000000000000→l.length≤2000000→∃l',Ev (fun k=>laws_markPutS.l0 k l a (i:Int)) (a+2*n,l')∧l'.length=l.length∧(∀j,j<i→l'[j]?=l[j]?)∧Ev (fun k=>laws_heldPutS.l0 k l' a (i:Int)) (a+2*n):=by
 intro n
 induction n with
 |zero=>
  intro i l a hi h0 h1 hl
  refine ⟨l,Ev.step (f:=fun _=>some (a+2*((0:Nat):Int),l)) (fun k=> ?_) (Ev.now _),rfl,fun _ _=>rfl,Ev.step (f:=fun _=>some (a+2*((0:Nat):Int))) (fun k=> ?_) (Ev.now _)⟩
  ·rw [laws_markPutS.l0,if_neg zq3]
   simp
  ·rw [laws_heldPutS.l0,if_neg zq3]
   simp
 |succ n ih=>
  intro i l a hi h0 h1 hl
  obtain ⟨l1,hl1⟩:∃z,z=l.set i (⟨a,(zm l i).f1⟩:S135):=⟨_,rfl⟩
  have hs:l1.length=l.length:=by rw [hl1,List.length_set]
  have h10:(zm l1 i).f0=a:=by
   rw [rd135 l1 i zq3]
   simp [hl1]
  obtain ⟨l',e1,e2,e3,e4⟩:=ih (i+1) (l1.set i (⟨a,mt (a+1)⟩:S135)) (a+2) (by rw [List.length_set,hs];omega) zq3 zq3 (by rw [List.length_set,hs];exact hl)
  rw [List.length_set,hs] at e2
  have hlt:i<l'.length:=zq3
  have hat:l'[i]?=some (⟨a,mt (a+1)⟩:S135):=zq59
  have hget:l'[i]=(⟨a,mt (a+1)⟩:S135):=zq58
  have hn:a+2+2*(n:Int)=a+2*((n+1:Nat):Int):=zq3
  rw [hn] at e1 e4
  refine ⟨l',Ev.step (f:=fun k=>(laws_markText.f k (a+1)).bind fun t=>laws_markPutS.l0 k (l1.set i (⟨a,t⟩:S135)) (a+2) ((i+1:Nat):Int)) (fun k=> ?_) (Ev.bind (mt_ev (a+1) zq3 zq3) e1),e2,fun j hj=> ?_,Ev.step (f:=fun k=>(laws_markText.f k (a+1)).bind fun t=>if (mt (a+1)).toList=t.toList then laws_heldPutS.l0 k l' (a+2) ((i+1:Nat):Int) else none) (fun k=> ?_) (Ev.bind (mt_ev (a+1) zq3 zq3) (by simp only [if_true];exact e4))⟩
  ·rw [laws_markPutS.l0,if_pos zq3,if_pos zq3,Option.bind_some,Int.toNat_natCast,←hl1,h10,zB (x:=a+1) zq3 zq3,zB (x:=a+1+1) zq3 zq3,zB (x:=(i:Int)+1) zq3 zq3,show a+1+1=a+2 by omega]
   rfl
  ·rw [e3 j zq3,List.getElem?_set_ne zq3,hl1,List.getElem?_set_ne zq3]
  ·rw [laws_heldPutS.l0,if_pos zq3,if_pos zq3,rd135 _ _ hlt,hget,if_pos rfl,zB (x:=a+1) zq3 zq3,zB (x:=a+1+1) zq3 zq3,zB (x:=(i:Int)+1) zq3 zq3,show a+1+1=a+2 by omega]
   rfl
theorem mhI:∀(n i:Nat) (l:List Int) (a:Int),i+n=l.length→0<a→a+n<4000000000000000000→l.length≤2000000→∃l',Ev (fun k=>laws_markIntS.l0 k l a (i:Int)) (a+n,l')∧l'.length=l.length∧(∀j,j<i→l'[j]?=l[j]?)∧Ev (fun k=>laws_heldIntS.l0 k l' a (i:Int)) (a+n):=by
 intro n
 induction n with
 |zero=>
  intro i l a hi h0 h1 hl
  refine ⟨l,Ev.step (f:=fun _=>some (a+((0:Nat):Int),l)) (fun k=> ?_) (Ev.now _),rfl,fun _ _=>rfl,Ev.step (f:=fun _=>some (a+((0:Nat):Int))) (fun k=> ?_) (Ev.now _)⟩
  ·rw [laws_markIntS.l0,if_neg zq3]
   simp
  ·rw [laws_heldIntS.l0,if_neg zq3]
   simp
 |succ n ih=>
  intro i l a hi h0 h1 hl
  obtain ⟨l',e1,e2,e3,e4⟩:=ih (i+1) (l.set i a) (a+1) (by rw [List.length_set];omega) zq3 zq3 (by rw [List.length_set];exact hl)
  rw [List.length_set] at e2
  have hat:l'[i]?=some a:=zq59
  have hlt:i<l'.length:=zq3
  have hget:l'[i]=a:=zq58
  have hn:a+1+(n:Int)=a+((n+1:Nat):Int):=zq3
  rw [hn] at e1 e4
  refine ⟨l',Ev.step (f:=fun k=>laws_markIntS.l0 k (l.set i a) (a+1) ((i+1:Nat):Int)) (fun k=> ?_) e1,e2,fun j hj=> ?_,Ev.step (f:=fun k=>laws_heldIntS.l0 k l' (a+1) ((i+1:Nat):Int)) (fun k=> ?_) e4⟩
  ·rw [laws_markIntS.l0,if_pos zq3,if_pos zq3,zB zq3 zq3,zB zq3 zq3,Int.toNat_natCast]
   rfl
  ·rw [e3 j zq3,List.getElem?_set_ne zq3]
  ·rw [laws_heldIntS.l0,if_pos zq3,if_pos zq3,rd_nat _ _ hlt,hget,if_pos rfl,zB (x:=a+1) zq3 zq3,zB (x:=(i:Int)+1) zq3 zq3]
   rfl
theorem mhI_ev (l:List Int) (a:Int) (h0:0<a) (h1:a+l.length<4000000000000000000) (hl:l.length≤2000000):∃l',Ev (fun k=>laws_markIntS.f k l a) (a+l.length,l')∧Ev (fun k=>laws_heldIntS.f k l' a) (a+l.length):=by
 obtain ⟨l',e1,_,_,e4⟩:=mhI l.length 0 l a zq3 h0 h1 hl
 exact ⟨l',e1,e4⟩
theorem mhD_ev (p:List ByteArray) (q:List S135) (a:Int) (h0:0<a) (h1:a+10000000<4000000000000000000) (hp:p.length≤2000000) (hq:q.length≤2000000):∃p' q',Ev (fun k=>laws_markDisk.f k p q a) (a+p.length+2*q.length,p',q')∧Ev (fun k=>laws_heldDisk.f k p' q' a) (a+p.length+2*q.length):=by
 obtain ⟨p',e1,_,_,e4⟩:=mhS p.length 0 p a zq3 h0 zq3 hp
 obtain ⟨q',g1,_,_,g4⟩:=mhP q.length 0 q (a+p.length) zq3 zq3 zq3 hq
 refine ⟨p',q',Ev.bind e1 (Ev.bind g1 (Ev.now _)),?_⟩
 refine Ev.bind e4 ?_
 simp only [if_neg (show ¬a+(p.length:Int)<0 by omega)]
 refine Ev.bind g4 ?_
 simp only [if_neg (show ¬a+(p.length:Int)+2*(q.length:Int)<0 by omega)]
 exact Ev.now _
theorem hld {F:Nat→Option Int} {G:Nat→Int→Option Int} {x r:Int} (h:Ev F x) (h0:0≤x) (h2:Ev (fun k=>G k x) r):Ev (fun k=>(F k).bind fun t=>if t<0 then none else G k t) r:=Ev.bind h (by simp only [if_neg (show ¬x<0 by omega)];exact h2)
end Go.Proofs.Ytonhdiemjgdcnaa.PFnExactGivePage
namespace Go.Proofs.Ytonhdiemjgdcnaa.Own
open Go.RowKit Go.Proofs.YtonhdiemjgdcnaaW.PrintWords Go.Proofs.YtonhdiemjgdcnaaW.PrintLast Go.Proofs.YtonhdiemjgdcnaaW.PrintMore
theorem tagQ {α:Type} {d:Kd α} {f:Nat→Nat} {e base:Nat} {w:World} {ok:Nat→Prop} {v:Value} {xs:List α} (h:(Kd.tag f d).Q e w base ok v xs.zipIdx):d.Q e w base ok v xs:=by
 obtain ⟨h0,inner,ho,hr⟩:=h
 rw [List.length_zipIdx] at ho
 exact ⟨h0,inner,ho,by have:=hr.1;rw [List.length_zipIdx] at this;exact this,fun j p hj=>d.M_mono (fun _ hk=>⟨hk.1.1,hk.1.2⟩) (hr.2 j (p,j) (Kd.zip_at hj))⟩
def apair {α β:Type} (a:Kd α) (b:Kd β):Kd (α×β) where
 sz:=a.sz+b.sz
 E:=a.E++b.E
 K:=fun w x cs=>∃c0 c1,cs=c0++c1∧a.K w x.1 c0∧b.K w x.2 c1
 M:=fun w base ok x cs=>∃c0 c1,∃f:Nat→Bool,cs=c0++c1∧a.M w base (fun k=>ok k∧f k=true) x.1 c0∧b.M w base (fun k=>ok k∧f k=false) x.2 c1
 K_len:=by
  rintro w x cs ⟨c0,c1,rfl,h0,h1⟩
  rw [List.length_append,a.K_len h0,b.K_len h1]
 K_one:=by
  rintro w x cs ⟨c0,c1,rfl,h0,h1⟩ u hu
  rcases List.mem_append.1 hu with hu|hu
  ·exact a.K_one h0 u hu
  ·exact b.K_one h1 u hu
 K_below:=by
  rintro w w1 x cs hb ⟨c0,c1,rfl,h0,h1⟩
  exact ⟨c0,c1,rfl,a.K_below hb h0,b.K_below hb h1⟩
 K_of_M:=by
  rintro w base ok x cs ⟨c0,c1,f,rfl,h0,h1⟩
  exact ⟨c0,c1,rfl,a.K_of_M h0,b.K_of_M h1⟩
 M_mono:=by
  rintro w base ok ok' x cs hok ⟨c0,c1,f,rfl,h0,h1⟩
  exact ⟨c0,c1,f,rfl,a.M_mono (fun k hk=>⟨hok k hk.1,hk.2⟩) h0,b.M_mono (fun k hk=>⟨hok k hk.1,hk.2⟩) h1⟩
 M_bound:=by
  rintro w base ok x cs ⟨c0,c1,f,rfl,h0,h1⟩
  refine ⟨c0,c1,f,rfl,a.M_mono ?_ (a.M_bound h0),b.M_mono ?_ (b.M_bound h1)⟩
  ·rintro k ⟨⟨h2,h2'⟩,h3,h4,q,hq,hc⟩
   exact ⟨⟨h2,h3,h4,q,List.mem_append_left _ hq,hc⟩,h2'⟩
  ·rintro k ⟨⟨h2,h2'⟩,h3,h4,q,hq,hc⟩
   exact ⟨⟨h2,h3,h4,q,List.mem_append_right _ hq,hc⟩,h2'⟩
 M_move:=by
  rintro w w1 base ok x cs hm ⟨c0,c1,f,rfl,h0,h1⟩
  exact ⟨c0,c1,f,rfl,a.M_move (fun k hk=>hm k hk.1) h0,b.M_move (fun k hk=>hm k hk.1) h1⟩
 M_lower:=by
  rintro w base base' ok x cs hb ⟨c0,c1,f,rfl,h0,h1⟩
  exact ⟨c0,c1,f,rfl,a.M_lower hb h0,b.M_lower hb h1⟩
def arow {α:Type} (e:Nat) (d:Kd α):Kd (List α) where
 sz:=1
 E:=e::d.E
 K:=fun w xs cs=>∃A c,cs=[.slice A xs.length c]∧xs.length≤c∧d.C w A xs.length xs
 M:=fun w base ok xs cs=>∃v,∃f:Nat→Nat,cs=[v]∧(Kd.tag f d).Q e w base ok v xs.zipIdx
 K_len:=by
  rintro w x cs ⟨A,c,rfl,_⟩
  rfl
 K_one:=by
  rintro w x cs ⟨A,c,rfl,_⟩ u hu
  rw [List.mem_singleton.1 hu]
  rfl
 K_below:=by
  rintro w w1 x cs hb ⟨A,c,rfl,hl,hr⟩
  exact ⟨A,c,rfl,hl,Kd.C_below hr hb⟩
 K_of_M:=by
  rintro w base ok x cs ⟨v,f,rfl,h⟩
  obtain ⟨A,c,rfl,hl,hr⟩:=Kd.Q_reads (tagQ h)
  exact ⟨A,c,rfl,hl,hr⟩
 M_mono:=by
  rintro w base ok ok' x cs hok ⟨v,f,rfl,h⟩
  exact ⟨v,f,rfl,Kd.Q_mono h hok⟩
 M_bound:=by
  rintro w base ok x cs ⟨v,f,rfl,h⟩
  exact ⟨v,f,rfl,Kd.Q_bound h⟩
 M_move:=by
  rintro w w1 base ok x cs hm ⟨v,f,rfl,h⟩
  exact ⟨v,f,rfl,Kd.Q_move h hm⟩
 M_lower:=by
  rintro w base base' ok x cs hb ⟨v,f,rfl,h⟩
  exact ⟨v,f,rfl,Kd.Q_lower h hb⟩
theorem flatM {α:Type} {d:Kd α} (hE:d.E=[]) {w:World} {base:Nat} {ok ok':Nat→Prop} {x:α} {cs:List Value} (h:d.M w base ok x cs):d.M w base ok' x cs:=
 d.M_mono (fun k hk=>by
  obtain ⟨_,_,_,q,hq,_⟩:=hk
  rw [hE] at hq
  cases hq) (d.M_bound h)
theorem arow_of_Q {α:Type} {d:Kd α} (hE:d.E=[]) {e base:Nat} {w:World} {ok:Nat→Prop} {v:Value} {xs:List α} (h:d.Q e w base ok v xs):(arow e d).M w base ok xs [v]:=by
 obtain ⟨h0,inner,ho,hr⟩:=h
 refine ⟨v,fun _=>0,rfl,h0,inner,by rw [List.length_zipIdx];exact ho,by rw [List.length_zipIdx];exact hr.1,fun j p hj=> ?_⟩
 rw [List.getElem?_zipIdx] at hj
 obtain ⟨a,ha,rfl⟩:=Option.map_eq_some_iff.1 hj
 exact flatM hE (hr.2 j a ha)
def srow {α:Type} (e:Nat) (d:Kd α):Kd (List α) where
 sz:=1
 E:=e::d.E
 K:=fun w xs cs=>∃A c,cs=[.slice A xs.length c]∧xs.length≤c∧d.C w A xs.length xs
 M:=fun w base ok xs cs=>∃v,cs=[v]∧Kd.S d e w base ok v xs
 K_len:=by
  rintro w x cs ⟨A,c,rfl,_⟩
  rfl
 K_one:=by
  rintro w x cs ⟨A,c,rfl,_⟩ u hu
  rw [List.mem_singleton.1 hu]
  rfl
 K_below:=by
  rintro w w1 x cs hb ⟨A,c,rfl,hl,hr⟩
  exact ⟨A,c,rfl,hl,Kd.C_below hr hb⟩
 K_of_M:=by
  rintro w base ok x cs ⟨v,rfl,h⟩
  obtain ⟨A,c,rfl,hl,hr⟩:=Kd.R_reads (Kd.S_R h)
  exact ⟨A,c,rfl,hl,hr⟩
 M_mono:=by
  rintro w base ok ok' x cs hok ⟨v,rfl,h⟩
  exact ⟨v,rfl,Kd.S_mono h hok⟩
 M_bound:=by
  rintro w base ok x cs ⟨v,rfl,h⟩
  exact ⟨v,rfl,Kd.S_bound h⟩
 M_move:=by
  rintro w w1 base ok x cs hm ⟨v,rfl,h⟩
  exact ⟨v,rfl,Kd.S_move h hm⟩
 M_lower:=by
  rintro w base base' ok x cs hb ⟨v,rfl,h⟩
  exact ⟨v,rfl,Kd.S_lower h hb⟩
theorem srow_of_R {α:Type} {d:Kd α} (hE:d.E=[]) {e base:Nat} {w:World} {ok:Nat→Prop} {v:Value} {xs:List α} (h:d.R e w base ok v xs):(srow e d).M w base (fun k=>some k=v.ownBlock) xs [v]:=by
 refine ⟨v,rfl,fun _=>0,?_⟩
 obtain ⟨h0,inner,ho,hr⟩:=Kd.R_tight hE h
 refine ⟨h0,inner,by rw [List.length_zipIdx];exact ho,by rw [List.length_zipIdx];exact hr.1,fun j p hj=> ?_⟩
 rw [List.getElem?_zipIdx] at hj
 obtain ⟨a,ha,rfl⟩:=Option.map_eq_some_iff.1 hj
 exact flatM hE (hr.2 j a ha)
theorem Q_tight {α:Type} {d:Kd α} (hE:d.E=[]) {e base:Nat} {w:World} {ok:Nat→Prop} {v:Value} {xs:List α} (h:d.Q e w base ok v xs):d.Q e w base (fun k=>some k=v.ownBlock) v xs:=by
 obtain ⟨h0,inner,ho,hr⟩:=h
 exact ⟨fun k hk=>hk.symm,inner,ho,hr.imp_ (fun p c hp=>flatM hE hp)⟩
open Classical in
theorem apair_mk {α β:Type} {a:Kd α} {b:Kd β} {w:World} {base:Nat} {ok okA okB:Nat→Prop} {x:α} {y:β} {c0 c1:List Value} (ha:a.M w base okA x c0) (hb:b.M w base okB y c1) (hA:∀k,okA k→ok k) (hB:∀k,okB k→ok k) (hd:∀k,okA k→¬okB k):
  (apair a b).M w base ok (x,y) (c0++c1):=by
 refine ⟨c0,c1,fun k=>decide (okA k),rfl,a.M_mono (fun k hk=>⟨hA k hk,z6 hk⟩) ha,b.M_mono (fun k hk=>⟨hB k hk,z7 (fun h=>hd k h hk)⟩) hb⟩
theorem apair_open {α β:Type} {a:Kd α} {b:Kd β} {w:World} {base:Nat} {ok:Nat→Prop} {x:α} {y:β} {cs:List Value} (h:(apair a b).M w base ok (x,y) cs):
  ∃c0 c1,∃okA okB:Nat→Prop,cs=c0++c1∧a.M w base okA x c0∧b.M w base okB y c1∧(∀k,okA k→ok k)∧(∀k,okB k→ok k)∧(∀k,okA k→¬okB k):=by
 obtain ⟨c0,c1,f,rfl,ha,hb⟩:=h
 exact ⟨c0,c1,_,_,rfl,ha,hb,fun k hk=>hk.1,fun k hk=>hk.1,fun k hk h2=>by have h1:=hk.2;rw [h2.2] at h1;cases h1⟩
theorem R_tightB {α:Type} {d:Kd α} (hE:d.E=[]) {e base:Nat} {w:World} {ok:Nat→Prop} {v:Value} {xs:List α} (h:d.R e w base ok v xs):d.R e w base (fun k=>some k=v.ownBlock) v xs∧(∀k,some k=v.ownBlock→base≤k∧k<w.heap.size)∧(∀k,some k=v.ownBlock→∃cells,w.heap[k]?=some (.cells cells e (0,0))):=
 ⟨Kd.R_tight hE h,fun k hk=>⟨Kd.R_base h k hk.symm,Kd.R_lt h k hk.symm⟩,fun k hk=>Kd.R_typed h k hk.symm⟩
theorem types_ne {w:World} {p q:Nat→Prop} {e e':Nat} (h:∀k,p k→∃cells,w.heap[k]?=some (.cells cells e (0,0))) (h':∀k,q k→∃cells,w.heap[k]?=some (.cells cells e' (0,0))) (hn:e≠e'):∀k,p k→¬q k:=by
 intro k hp hq
 obtain ⟨c,hc⟩:=h k hp
 obtain ⟨c',hc'⟩:=h' k hq
 rw [hc] at hc'
 injection hc' with hc'
 injection hc' with _ hc'
 exact hn hc'
theorem R_tight2 {α:Type} {d:Kd α} (hE:d.E=[]) {e base:Nat} {w:World} {ok P:Nat→Prop} {v:Value} {xs:List α} (h:d.R e w base ok v xs) (hP:∀k,v.ownBlock=some k→P k):d.R e w base P v xs:=Kd.R_mono (Kd.R_tight hE h) (fun k hk=>hP k hk.symm)
theorem Q_tight2 {α:Type} {d:Kd α} (hE:d.E=[]) {e base:Nat} {w:World} {ok P:Nat→Prop} {v:Value} {xs:List α} (h:d.Q e w base ok v xs) (hP:∀k,v.ownBlock=some k→P k):d.Q e w base P v xs:=Kd.Q_mono (Q_tight hE h) (fun k hk=>hP k hk.symm)
theorem below_more {w0 w:World} (h:Below w0.heap.size w0 w) (o:Obj):Below w0.heap.size w0 (w.alloc o):=zi h o
end Go.Proofs.Ytonhdiemjgdcnaa.Own
namespace Go.Proofs.Ytonhdiemjgdcnaa.PFnExactGivePage
open Go.RowKit Go.Proofs.YtonhdiemjgdcnaaW.PrintWords Go.Proofs.YtonhdiemjgdcnaaW.PrintLast Go.Proofs.YtonhdiemjgdcnaaW.PrintMore
attribute [local go_sem] zV zU zia zha zP zN zS zT
theorem info122:(Try.prog.info? 122).map (fun i=>(i.zero,i.size,i.bytes))=some (some (.agg #[(.int .i64 0),(.slice none 0 0)]),2,32):=zq8
structure S122 where
 f0:Int
 f1:(List Int)
def z122:S122:=⟨(0:Int),([]:List Int)⟩
def k122:Kd S122:=Kd.iso (Kd.pair (Kd.int .i64) (Kd.slice 3 (Kd.int .i64))) (fun x:S122=>(x.f0,x.f1))
theorem k122_open {w:World} {x:S122} {cs:List Value} (h:k122.K w x cs):∃A1 c1,cs=[.int .i64 x.f0,.slice A1 x.f1.length c1]∧x.f1.length≤c1∧(Kd.int .i64).C w A1 x.f1.length x.f1:=by
 obtain ⟨_,_,rfl,rfl,⟨A1,c1,rfl,l1,g1⟩⟩:=h
 exact ⟨A1,c1,rfl,l1,g1⟩
theorem k122_openM {w:World} {base:Nat} {ok:Nat→Prop} {x:S122} {cs:List Value} (h:k122.M w base ok x cs):∃v1,cs=[.int .i64 x.f0,v1]∧(Kd.int .i64).R 3 w base ok v1 x.f1:=by
 obtain ⟨_,_,rfl,rfl,⟨v1,rfl,g1⟩⟩:=h
 exact ⟨v1,rfl,g1⟩
theorem k122_mkM (w:World) (base:Nat) (ok:Nat→Prop) (x:S122) {v1:Value} (g1:(Kd.int .i64).R 3 w base ok v1 x.f1):k122.M w base ok x [.int .i64 x.f0,v1]:=⟨[.int .i64 x.f0],[v1],rfl,rfl,⟨v1,rfl,g1⟩⟩
def zJ (xs:List S122) (i:Int):S122:=xs.getD i.toNat z122
theorem at_T122 {w:World} {A:Option Addr} {n:Nat} {xs:List S122} (h:Kd.C k122 w A n xs) (i:Int) (h0:0≤i) (h1:i<n):∃ad A1 c1,A=some ad∧w.cell? (ad.add (i.toNat*2))=some (.int .i64 (zJ xs i).f0)∧w.cell? ⟨(ad.add (i.toNat*2)).block,(ad.add (i.toNat*2)).off+1,none⟩=some (.slice A1 (zJ xs i).f1.length c1)∧(zJ xs i).f1.length≤c1∧(Kd.int .i64).C w A1 (zJ xs i).f1.length (zJ xs i).f1:=by
 obtain ⟨ad,c,e,_,hK,hc0⟩:=Kd.C_get h z122 i h0 h1
 have hc:∀j u,c[j]?=some u→w.cell? (ad.add (i.toNat*2+j))=some u:=hc0
 obtain ⟨A1,c1,rfl,l1,g1⟩:=k122_open hK
 exact ⟨ad,A1,c1,e,hc 0 _ rfl,by rw [←zPa _ _ 1 zq3];exact hc 1 _ rfl,l1,g1⟩
structure S53 where
 f0:Int
 f1:Int
 f2:Int
 f3:(List S122)
def z53:S53:=⟨(0:Int),(0:Int),(0:Int),([]:List S122)⟩
def k53:Kd S53:=Kd.iso (Kd.pair (Kd.int .i64) (Kd.pair (Kd.int .i64) (Kd.pair (Kd.int .i64) (Own.srow 122 k122)))) (fun x:S53=>(x.f0,x.f1,x.f2,x.f3))
theorem zYa {w:World} {x:S53} {cs:List Value} (h:k53.K w x cs):∃A3 c3,cs=[.int .i64 x.f0,.int .i64 x.f1,.int .i64 x.f2,.slice A3 x.f3.length c3]∧x.f3.length≤c3∧k122.C w A3 x.f3.length x.f3:=by
 obtain ⟨_,_,rfl,rfl,⟨_,_,rfl,rfl,⟨_,_,rfl,rfl,⟨A3,c3,rfl,l3,g3⟩⟩⟩⟩:=h
 exact ⟨A3,c3,rfl,l3,g3⟩
theorem k53_openM {w:World} {base:Nat} {ok:Nat→Prop} {x:S53} {cs:List Value} (h:k53.M w base ok x cs):∃v3,cs=[.int .i64 x.f0,.int .i64 x.f1,.int .i64 x.f2,v3]∧Kd.S k122 122 w base ok v3 x.f3:=by
 obtain ⟨_,_,rfl,rfl,⟨_,_,rfl,rfl,⟨_,_,rfl,rfl,⟨v3,rfl,g3⟩⟩⟩⟩:=h
 exact ⟨v3,rfl,g3⟩
theorem k53_mkM (w:World) (base:Nat) (ok:Nat→Prop) (x:S53) {v3:Value} (g3:Kd.S k122 122 w base ok v3 x.f3):k53.M w base ok x [.int .i64 x.f0,.int .i64 x.f1,.int .i64 x.f2,v3]:=⟨[.int .i64 x.f0],[.int .i64 x.f1,.int .i64 x.f2,v3],rfl,rfl,⟨[.int .i64 x.f1],[.int .i64 x.f2,v3],rfl,rfl,⟨[.int .i64 x.f2],[v3],rfl,rfl,⟨v3,rfl,g3⟩⟩⟩⟩
structure S118 where
 f0:Int
 f1:S53
def z118:S118:=⟨(0:Int),z53⟩
def k118:Kd S118:=Kd.iso (Kd.pair (Kd.int .i64) k53) (fun x:S118=>(x.f0,x.f1))
theorem k118_open {w:World} {x:S118} {cs:List Value} (h:k118.K w x cs):∃A4 c4,cs=[.int .i64 x.f0,.int .i64 x.f1.f0,.int .i64 x.f1.f1,.int .i64 x.f1.f2,.slice A4 x.f1.f3.length c4]∧x.f1.f3.length≤c4∧k122.C w A4 x.f1.f3.length x.f1.f3:=by
 obtain ⟨_,_,rfl,rfl,s1⟩:=h
 obtain ⟨A4,c4,rfl,l4,g4⟩:=zYa s1
 exact ⟨A4,c4,rfl,l4,g4⟩
theorem k118_openM {w:World} {base:Nat} {ok:Nat→Prop} {x:S118} {cs:List Value} (h:k118.M w base ok x cs):∃v4,cs=[.int .i64 x.f0,.int .i64 x.f1.f0,.int .i64 x.f1.f1,.int .i64 x.f1.f2,v4]∧Kd.S k122 122 w base ok v4 x.f1.f3:=by
 obtain ⟨_,_,rfl,rfl,s1⟩:=h
 obtain ⟨v4,rfl,g4⟩:=k53_openM s1
 exact ⟨v4,rfl,g4⟩
theorem k118_mkM (w:World) (base:Nat) (ok:Nat→Prop) (x:S118) {v4:Value} (g4:Kd.S k122 122 w base ok v4 x.f1.f3):k118.M w base ok x [.int .i64 x.f0,.int .i64 x.f1.f0,.int .i64 x.f1.f1,.int .i64 x.f1.f2,v4]:=⟨[.int .i64 x.f0],[.int .i64 x.f1.f0,.int .i64 x.f1.f1,.int .i64 x.f1.f2,v4],rfl,rfl,(k53_mkM w base ok x.f1 g4)⟩
def zu (xs:List S118) (i:Int):S118:=xs.getD i.toNat z118
theorem at_T118 {w:World} {A:Option Addr} {n:Nat} {xs:List S118} (h:Kd.C k118 w A n xs) (i:Int) (h0:0≤i) (h1:i<n):∃ad A4 c4,A=some ad∧w.cell? (ad.add (i.toNat*5))=some (.int .i64 (zu xs i).f0)∧w.cell? ⟨(ad.add (i.toNat*5)).block,(ad.add (i.toNat*5)).off+1,none⟩=some (.int .i64 (zu xs i).f1.f0)∧w.cell? ⟨(ad.add (i.toNat*5)).block,(ad.add (i.toNat*5)).off+2,none⟩=some (.int .i64 (zu xs i).f1.f1)∧w.cell? ⟨(ad.add (i.toNat*5)).block,(ad.add (i.toNat*5)).off+3,none⟩=some (.int .i64 (zu xs i).f1.f2)∧w.cell? ⟨(ad.add (i.toNat*5)).block,(ad.add (i.toNat*5)).off+4,none⟩=some (.slice A4 (zu xs i).f1.f3.length c4)∧(zu xs i).f1.f3.length≤c4∧k122.C w A4 (zu xs i).f1.f3.length (zu xs i).f1.f3:=by
 obtain ⟨ad,c,e,_,hK,hc0⟩:=Kd.C_get h z118 i h0 h1
 have hc:∀j u,c[j]?=some u→w.cell? (ad.add (i.toNat*5+j))=some u:=hc0
 obtain ⟨A4,c4,rfl,l4,g4⟩:=k118_open hK
 exact ⟨ad,A4,c4,e,hc 0 _ rfl,by rw [←zPa _ _ 1 zq3];exact hc 1 _ rfl,by rw [←zPa _ _ 2 zq3];exact hc 2 _ rfl,by rw [←zPa _ _ 3 zq3];exact hc 3 _ rfl,by rw [←zPa _ _ 4 zq3];exact hc 4 _ rfl,l4,g4⟩
def laws_eqFree.f (k:Nat) (a0_0:Int) (l0_1:List Int) (a1_0:Int) (l1_1:List Int):Option (Bool):=if a0_0=a1_0 then ((laws_eqIntS.f k l0_1 l1_1).bind fun t116=>(if t116=true then (some true) else (none))) else (none)
theorem laws_eqFree.calls (k:Nat) (a0:Int) (A0:Option Addr) (c0:Nat) (l2:List Int) (a1:Int) (A1:Option Addr) (c1:Nat) (l3:List Int) (r:Bool) (w:World) (r0:Kd.C (Kd.int .i64) w A0 l2.length l2) (h0:l2.length≤c0) (r1:Kd.C (Kd.int .i64) w A1 l3.length l3) (h2:l3.length≤c1) (h:laws_eqFree.f k a0 l2 a1 l3=some r):
  Calls Try.prog 146 #[.agg #[.int .i64 a0,.slice A0 l2.length c0],.agg #[.int .i64 a1,.slice A1 l3.length c1]] w fun e w'=>e= .returned (.bool r)∧Below w.heap.size w w':=by
 have hu122:=Try.underlying122
 have R0:=zz r0
 have C0:=zz h0
 clear r0 h0
 have R1:=zz r1
 have C1:=zz h2
 clear r1 h2
 have HB:=zz (z0a w.heap.size w)
 have H:(if a0=a1 then ((laws_eqIntS.f k l2 l3).bind fun t0=>(if t0=true then (some true) else (none))) else (none))=some r:=h
 clear h
 by_cases c3:a0=a1
 ·rw [if_pos c3] at H
  have c3b0:(a0==a1)=true:=beq_iff_eq.mpr c3
  have c3b1:(a0 !=a1)=false:=bne_eq_false_iff_eq.mpr c3
  clear c3
  replace H:=z1a H
  obtain ⟨t0,A2,H⟩:=H
  replace H:(if t0=true then (some true) else (none))=some r:=H
  have A4:=zz A2
  clear A2
  by_cases c5:t0=true
  ·subst c5
   rw [if_pos rfl] at H
   obtain rfl:=z5a H
   go_enter Try.func146,Try.ntmps146
   go_wp2_with (first|((with_reducible refine zg (N:=2) rfl ?_);refine zA rfl (N:=2) rfl (cs:= #[.int .i64 a0,.slice A0 l2.length c0]) (t:=122) zq26 ?_;intro g0 hg w6 hbox hb;have B0:=zz hbox;have G0:=zz (zq12:w.heap.size≤g0);replace HB:=zz (zf zq0 hb);clear hb hbox hg)|((with_reducible refine zg (N:=3) rfl ?_);refine zA rfl (N:=3) rfl (cs:= #[.int .i64 a1,.slice A1 l3.length c1]) (t:=122) zq26 ?_;intro g1 hg w7 hbox hb;have B4:=zz hbox;have G1:=zz (zq24 G0.1:w.heap.size≤g1);have N0:=zz (by rw [hg];exact Nat.ne_of_lt (zE (g:=g0) (o:= .cells #[.int .i64 a0,.slice A0 l2.length c0] 122 (0,0)) (zq7 B0.1)):g0≠g1);have N1:=zz (by rw [hg];exact Nat.ne_of_gt (zE (g:=g0) (o:= .cells #[.int .i64 a0,.slice A0 l2.length c0] 122 (0,0)) (zq7 B0.1)):g1≠g0);replace B0:=zz (zj (g:=g0) (o:= .cells #[.int .i64 a0,.slice A0 l2.length c0] 122 (0,0)) (zq7 B0.1) hb);replace HB:=zz (zf (zq4 G0.1) hb);clear hb hbox hg;have hnb8:=N0.1;have hnc8:=N1.1;obtain ⟨_,_,_,_⟩:=zba B0.1;obtain ⟨_,_,_,_⟩:=zba B4.1)|((with_reducible refine zn (f:=50) rfl ?_);refine zQ (some 14) rfl rfl Try.func50 zq8 rfl #[.slice A0 l2.length c0,.slice A1 l3.length c1] rfl zq6 ?_;(with_reducible refine (laws_eqIntS.calls k _ _ l2 _ _ l3 true _ ?side1 ?side2 ?side3 ?side4 A4.1).mono ?_);(case side1=>repeat (first|exact (Kd.C_below R0.1 HB.1)|(with_reducible refine Kd.C_alloc ?_ _)|(with_reducible refine Kd.C_drewN ?_ _)|(with_reducible refine Kd.C_drew ?_)));(case side2=>exact C0.1);(case side3=>repeat (first|exact (Kd.C_below R1.1 HB.1)|(with_reducible refine Kd.C_alloc ?_ _)|(with_reducible refine Kd.C_drewN ?_ _)|(with_reducible refine Kd.C_drew ?_)));(case side4=>exact C1.1);rintro e w' ⟨rfl,⟨nd,rfl⟩⟩;refine ⟨_,rfl,?_⟩))
   exact zq162
  ·replace c5:=Bool.eq_false_iff.mpr c5
   subst c5
   exact zq112
 ·exact zq131
end Go.Proofs.Ytonhdiemjgdcnaa.PFnExactGivePage
