import Derived.Test.YtonhdiemjgdcnaaGreatCC3
set_option maxHeartbeats 64000000
set_option maxRecDepth 100000
set_option linter.unusedVariables false
set_option linter.unusedSimpArgs false
namespace Go.Proofs.YtonhdiemjgdcnaaGreat.PFnExactGivePage
open Go.RowKit Go.Proofs.YtonhdiemjgdcnaaGreatW.PrintWords Go.Proofs.YtonhdiemjgdcnaaGreatW.PrintLast Go.Proofs.YtonhdiemjgdcnaaGreatW.PrintMore
attribute [local go_sem] zba zga zoa zna zW zV zfa zea
def laws_eqDisk.f (k:Nat) (l0_0:List ByteArray) (l0_1:List (S110)) (l1_0:List ByteArray) (l1_1:List (S110)):Option (Bool):=(laws_eqStringS.f k l0_0 l1_0).bind fun t271=>(if t271=true then ((laws_eqPutS.f k l0_1 l1_1).bind fun t272=>(if t272=true then (some true) else (none))) else (none))
theorem laws_eqDisk.calls (k:Nat) (A0_0:Option Addr) (c0_0:Nat) (l0_0:List ByteArray) (A0_1:Option Addr) (c0_1:Nat) (l0_1:List (S110)) (A1_0:Option Addr) (c1_0:Nat) (l1_0:List ByteArray) (A1_1:Option Addr) (c1_1:Nat) (l1_1:List (S110)) (r:Bool) (w:World) (hr0_0:Kd.C Kd.string w A0_0 l0_0.length l0_0) (hc0_0:l0_0.length≤c0_0) (hr0_1:Kd.C k110 w A0_1 l0_1.length l0_1) (hc0_1:l0_1.length≤c0_1) (hr1_0:Kd.C Kd.string w A1_0 l1_0.length l1_0) (hc1_0:l1_0.length≤c1_0) (hr1_1:Kd.C k110 w A1_1 l1_1.length l1_1) (hc1_1:l1_1.length≤c1_1) (h:laws_eqDisk.f k l0_0 l0_1 l1_0 l1_1=some r):
  Calls Tryz.prog 10 #[.agg #[.slice A0_0 l0_0.length c0_0,.slice A0_1 l0_1.length c0_1],.agg #[.slice A1_0 l1_0.length c1_0,.slice A1_1 l1_1.length c1_1]] w fun e w'=>e= .returned (.bool r)∧Below w.heap.size w w':=by
 have hu32:=Tryz.underlying37
 have HR0_0:=zz hr0_0
 have HC0_0:=zz hc0_0
 clear hr0_0 hc0_0
 have HR0_1:=zz hr0_1
 have HC0_1:=zz hc0_1
 clear hr0_1 hc0_1
 have HR1_0:=zz hr1_0
 have HC1_0:=zz hc1_0
 clear hr1_0 hc1_0
 have HR1_1:=zz hr1_1
 have HC1_1:=zz hc1_1
 clear hr1_1 hc1_1
 have HB:=zz (Below.refl w.heap.size w)
 have H:((laws_eqStringS.f k l0_0 l1_0).bind fun t271=>(if t271=true then ((laws_eqPutS.f k l0_1 l1_1).bind fun t272=>(if t272=true then (some true) else (none))) else (none)))=some r:=h
 clear h
 replace H:=Option.bind_eq_some_iff.mp H
 obtain ⟨t271,A30,H⟩:=H
 replace H:(if t271=true then ((laws_eqPutS.f k l0_1 l1_1).bind fun t272=>(if t272=true then (some true) else (none))) else (none))=some r:=H
 have A3:=zz A30
 clear A30
 by_cases c4:t271=true
 ·subst c4
  have H1:((laws_eqPutS.f k l0_1 l1_1).bind fun t272=>(if t272=true then (some true) else (none)))=some r:=by rw [if_pos rfl] at H;exact H
  clear H
  have H:=H1
  clear H1
  replace H:=Option.bind_eq_some_iff.mp H
  obtain ⟨t272,A50,H⟩:=H
  replace H:(if t272=true then (some true) else (none))=some r:=H
  have A5:=zz A50
  clear A50
  by_cases c6:t272=true
  ·subst c6
   have H1:(some true)=some r:=by rw [if_pos rfl] at H;exact H
   clear H
   have H:=H1
   clear H1
   obtain rfl:=Option.some.inj H
   go_enter Tryz.func10,Tryz.ntmps10
   go_wp2_with (first|((with_reducible refine zv (N:=2) rfl ?_);refine zE ?hg (N:=2) ?hd (cs:= #[.slice A0_0 l0_0.length c0_0,.slice A0_1 l0_1.length c0_1]) (t:=37) ?hr ?_;(case hd=>rfl);(case hg=>rfl);(case hr=>first|(go_simp;done)|(go_simp;rfl));intro gb269 hg w7 hbox hb;have n0_:=zz (zk zq1 hb);have n1_:=zz (hbox);have n2_:=zz ((by rw [hg];exact (zi zq1):w.heap.size≤gb269));have n3_:=zz ((by rw [hg];exact (zi zq1):w.heap.size≤gb269));clear HB;have HB:=n0_;have BK269:=n1_;have GW269:=n2_;have GE269:=n3_;clear n0_ n1_ n2_ n3_;clear hb hbox hg)|((with_reducible refine zv (N:=3) rfl ?_);refine zE ?hg (N:=3) ?hd (cs:= #[.slice A1_0 l1_0.length c1_0,.slice A1_1 l1_1.length c1_1]) (t:=37) ?hr ?_;(case hd=>rfl);(case hg=>rfl);(case hr=>first|(go_simp;done)|(go_simp;rfl));intro gb270 hg w8 hbox hb;have n0_:=zz (zu (g:=gb269) (o:= .cells #[.slice A0_0 l0_0.length c0_0,.slice A0_1 l0_1.length c0_1] 37 (0,0)) (zq0 BK269.out) hb);have n1_:=zz (zk (zq3 GE269.out) hb);have n2_:=zz (hbox);have n3_:=zz ((by rw [hg];exact (zi (zq3 GE269.out)):w.heap.size≤gb270));have n4_:=zz ((by rw [hg];exact (zi (zq3 GE269.out)):w.heap.size≤gb270));have n5_:=zz ((by rw [hg];exact Nat.ne_of_lt (zG (g:=gb269) (o:= .cells #[.slice A0_0 l0_0.length c0_0,.slice A0_1 l0_1.length c0_1] 37 (0,0)) (zq0 BK269.out)):gb269≠gb270));have n6_:=zz ((by rw [hg];exact Nat.ne_of_gt (zG (g:=gb269) (o:= .cells #[.slice A0_0 l0_0.length c0_0,.slice A0_1 l0_1.length c0_1] 37 (0,0)) (zq0 BK269.out)):gb270≠gb269));clear BK269;clear HB;have BK269:=n0_;have HB:=n1_;have BK270:=n2_;have GW270:=n3_;have GE270:=n4_;have NB269_270:=n5_;have NB270_269:=n6_;clear n0_ n1_ n2_ n3_ n4_ n5_ n6_;clear hb hbox hg;have hnb9:=NB269_270.out;have hnc9:=NB270_269.out;have hcz10_0:w8.cell? ⟨gb269,0,none⟩=some (.slice A0_0 l0_0.length c0_0):=(ze BK269.out 0).trans rfl;have hcz10_1:w8.cell? ⟨gb269,1,none⟩=some (.slice A0_1 l0_1.length c0_1):=(ze BK269.out 1).trans rfl;have hfz10_0:=zd BK269.out 0;have hfz10_1:=zd BK269.out 1;have hcz11_0:w8.cell? ⟨gb270,0,none⟩=some (.slice A1_0 l1_0.length c1_0):=(ze BK270.out 0).trans rfl;have hcz11_1:w8.cell? ⟨gb270,1,none⟩=some (.slice A1_1 l1_1.length c1_1):=(ze BK270.out 1).trans rfl;have hfz11_0:=zd BK270.out 0;have hfz11_1:=zd BK270.out 1)|((with_reducible refine zB (f:=48) rfl ?_);refine zO (some 9) rfl rfl Tryz.func48 zq7 rfl #[.slice A0_0 l0_0.length c0_0,.slice A1_0 l1_0.length c1_0] rfl zq4 ?_;(with_reducible refine (laws_eqStringS.calls k _ _ l0_0 _ _ l1_0 true _ ?side1 ?side2 ?side3 ?side4 A3.out).mono ?_);(case side1=>repeat (first|exact (Kd.C_below HR0_0.out HB.out)|(with_reducible refine Kd.C_alloc ?_ _)|(with_reducible refine Kd.C_drewN ?_ _)|(with_reducible refine Kd.C_drew ?_)));(case side2=>exact HC0_0.out);(case side3=>repeat (first|exact (Kd.C_below HR1_0.out HB.out)|(with_reducible refine Kd.C_alloc ?_ _)|(with_reducible refine Kd.C_drewN ?_ _)|(with_reducible refine Kd.C_drew ?_)));(case side4=>exact HC1_0.out);rintro e w' ⟨rfl,⟨nd,rfl⟩⟩;refine ⟨_,rfl,?_⟩)|((with_reducible refine zB (f:=49) rfl ?_);refine zO (some 15) rfl rfl Tryz.func49 zq7 rfl #[.slice A0_1 l0_1.length c0_1,.slice A1_1 l1_1.length c1_1] rfl zq4 ?_;(with_reducible refine (laws_eqPutS.calls k _ _ l0_1 _ _ l1_1 true _ ?side1 ?side2 ?side3 ?side4 A5.out).mono ?_);(case side1=>repeat (first|exact (Kd.C_below HR0_1.out (zq2 GE269.out GE270.out))|(with_reducible refine Kd.C_alloc ?_ _)|(with_reducible refine Kd.C_drewN ?_ _)|(with_reducible refine Kd.C_drew ?_)));(case side2=>exact HC0_1.out);(case side3=>repeat (first|exact (Kd.C_below HR1_1.out (zq2 GE269.out GE270.out))|(with_reducible refine Kd.C_alloc ?_ _)|(with_reducible refine Kd.C_drewN ?_ _)|(with_reducible refine Kd.C_drew ?_)));(case side4=>exact HC1_1.out);rintro e w12 ⟨rfl,hb⟩;refine ⟨_,rfl,?_⟩;have n0_:=zz (zu (g:=gb269) (o:= .cells #[.slice A0_0 l0_0.length c0_0,.slice A0_1 l0_1.length c0_1] 37 (0,0)) (zq0 BK269.out) hb);have n1_:=zz (zu (g:=gb270) (o:= .cells #[.slice A1_0 l1_0.length c1_0,.slice A1_1 l1_1.length c1_1] 37 (0,0)) (zq0 BK270.out) hb);have n2_:=zz (zk (zq2 GE269.out GE270.out) hb);clear BK269;clear BK270;clear HB;have BK269:=n0_;have BK270:=n1_;have HB:=n2_;clear n0_ n1_ n2_;(try clear hb);(try clear hb2);(try clear hk);(try clear hi)))
   go_ret
   exact ⟨by first|rfl|(simp [zx,zw]<;>rfl)|(simp [*,zx,zw]<;>rfl),by repeat (first|(with_reducible first|exact HB.out|apply zg|apply zf|apply zm|refine zr ?_ GE269.out|refine zr ?_ GE270.out)|exact HB.out)⟩
  ·replace c6:=Bool.eq_false_iff.mpr c6
   subst c6
   have H1:(none)=some r:=by rw [if_neg (show ¬(false=true) by decide)] at H;exact H
   clear H
   have H:=H1
   clear H1
   exact absurd H zq15
 ·replace c4:=Bool.eq_false_iff.mpr c4
  subst c4
  have H1:(none)=some r:=by rw [if_neg (show ¬(false=true) by decide)] at H;exact H
  clear H
  have H:=H1
  clear H1
  exact absurd H zq15
def laws_eqIntS.l0:Nat→List Int→List Int→Int→Option (Bool)
 |0,_,_,_=>none
 |k+1,x0,x1,x5=>if x5<(x0.length:Int) then (if 0≤x5 then (if x5<(x1.length:Int) then (if (rd x0 x5)=(rd x1 x5) then (laws_eqIntS.l0 k x0 x1 (wrap64 (x5+1))) else (none)) else (none)) else (none)) else (some true)
def laws_eqIntS.f (k:Nat) (l0:List Int) (l1:List Int):Option (Bool):=if (l0.length:Int)=(l1.length:Int) then (laws_eqIntS.l0 k l0 l1 0) else (none)
theorem laws_eqIntS.mono_l:∀k,(∀y0 y1 y2,LeO (laws_eqIntS.l0 k y0 y1 y2) (laws_eqIntS.l0 (k+1) y0 y1 y2))
 |0=>fun _ _ _ r h=>by simp [laws_eqIntS.l0] at h
 |k+1=>by
  have ih0:=laws_eqIntS.mono_l k
  ·intro y0 y1 y2
   unfold laws_eqIntS.l0
   repeat' first
   |(with_reducible exact ih0 _ _ _)
   |(with_reducible exact LeO.refl _)
   |(with_reducible exact LeO.none _)
   |(with_reducible refine LeO.ite ?_ ?_)
   |(with_reducible refine LeO.bind ?_ (fun _=> ?_))
   |exact ih0 _ _ _
theorem laws_eqIntS.mono:∀a0 a1 k,LeO (laws_eqIntS.f k a0 a1) (laws_eqIntS.f (k+1) a0 a1):=by
 intro a0 a1 k
 have ih0:=laws_eqIntS.mono_l k
 unfold laws_eqIntS.f
 repeat' first
   |(with_reducible exact ih0 _ _ _)
   |(with_reducible exact LeO.refl _)
   |(with_reducible exact LeO.none _)
   |(with_reducible refine LeO.ite ?_ ?_)
   |(with_reducible refine LeO.bind ?_ (fun _=> ?_))
   |exact ih0 _ _ _
theorem laws_eqIntS.calls (k:Nat) (A0:Option Addr) (c0:Nat) (l0:List Int) (A1:Option Addr) (c1:Nat) (l1:List Int) (r:Bool) (w:World) (hr0:Kd.C (Kd.int .i64) w A0 l0.length l0) (hc0:l0.length≤c0) (hr1:Kd.C (Kd.int .i64) w A1 l1.length l1) (hc1:l1.length≤c1) (h:laws_eqIntS.f k l0 l1=some r):
  Calls Tryz.prog 99 #[.slice A0 l0.length c0,.slice A1 l1.length c1] w fun e w'=>e= .returned (.bool r)∧Drawn0 w w':=by
 have HR0:=zz hr0
 have HC0:=zz hc0
 clear hr0 hc0
 have HR1:=zz hr1
 have HC1:=zz hc1
 clear hr1 hc1
 have H:(if (l0.length:Int)=(l1.length:Int) then (laws_eqIntS.l0 k l0 l1 0) else (none))=some r:=h
 clear h
 by_cases c3:(l0.length:Int)=(l1.length:Int)
 ·rw [if_pos c3] at H
  have c3b0:((l0.length:Int)==(l1.length:Int))=true:=beq_iff_eq.mpr c3
  have c3b1:((l0.length:Int) !=(l1.length:Int))=false:=bne_eq_false_iff_eq.mpr c3
  have c3b2:(l0.length==l1.length)=true:=by first|simpa using c3|(simp at c3 ⊢;omega)
  clear c3
  have H':=zz H
  clear H
  go_enter Tryz.func99,Tryz.ntmps99
  go_wp2
  repeat (go_quiet (fail);try go_wp2)
  go_loopg [5] k (fun kq v5 w'=>∃(x5_1:Int),v5= .int .i64 x5_1∧Z0 (laws_eqIntS.l0 kq l0 l1 x5_1=some r)∧Z0 (kq≤k)∧Drawn0 w w')
  case atStart=>exact ⟨(0),zq12,H',⟨Nat.le_refl _⟩,by repeat (first|exact Drawn0.refl _|apply Drawn0.step)⟩
  case round=>
   clear H'
   try clear c1
   try clear c3
   try clear c3b0
   try clear c3b1
   try clear c3b2
   obtain ⟨x5_1,rfl,HA,HK1,⟨m1,rfl⟩⟩:=hrel
   cases gk with
   |zero=>exact absurd HA.out (by simp [laws_eqIntS.l0])
   |succ k1=>
    have H:=HA.out
    clear HA
    simp only [laws_eqIntS.l0] at H
    by_cases c4:x5_1<(l0.length:Int)
    ·rw [if_pos c4] at H
     have c4b0:decide (x5_1<(l0.length:Int))=true:=decide_eq_true c4
     clear c4
     by_cases c5:0≤x5_1
     ·rw [if_pos c5] at H
      have c5b0:decide (0≤x5_1)=true:=decide_eq_true c5
      clear c5
      by_cases c6:x5_1<(l1.length:Int)
      ·rw [if_pos c6] at H
       have c6b0:decide (x5_1<(l1.length:Int))=true:=decide_eq_true c6
       clear c6
       by_cases c7:(rd l0 x5_1)=(rd l1 x5_1)
       ·rw [if_pos c7] at H
        have c7b0:((rd l0 x5_1)==(rd l1 x5_1))=true:=beq_iff_eq.mpr c7
        have c7b1:((rd l0 x5_1) !=(rd l1 x5_1))=false:=bne_eq_false_iff_eq.mpr c7
        clear c7
        have H':=zz H
        clear H
        have p273:0≤(x5_1:Int):=of_decide_eq_true zq11
        have q273:x5_1<(l0.length:Int):=of_decide_eq_true zq11
        obtain ⟨ad273,e273,hx273_0⟩:=Kd.at_int HR0.out x5_1 p273 q273
        cases e273
        replace p273:=eq_true p273
        replace q273:=eq_true q273
        have p274:0≤(x5_1:Int):=of_decide_eq_true zq11
        have q274:x5_1<(l1.length:Int):=of_decide_eq_true zq11
        obtain ⟨ad274,e274,hx274_0⟩:=Kd.at_int HR1.out x5_1 p274 q274
        cases e274
        replace p274:=eq_true p274
        replace q274:=eq_true q274
        go_wp2
        repeat (go_quiet (fail);try go_wp2)
        go_roundg k1
        case measure=>have:=HK1.out;omega
        case rel=>exact ⟨(wrap64 (x5_1+1)),zq12,H',⟨by have:=HK1.out;omega⟩,by repeat (first|exact Drawn0.refl _|apply Drawn0.step)⟩
       ·rw [if_neg c7] at H
        exact absurd H zq15
      ·rw [if_neg c6] at H
       exact absurd H zq15
     ·rw [if_neg c5] at H
      exact absurd H zq15
    ·rw [if_neg c4] at H
     have c4b0:decide (x5_1<(l0.length:Int))=false:=decide_eq_false c4
     clear c4
     obtain rfl:=Option.some.inj H
     go_wp2
     repeat (go_quiet (fail);try go_wp2)
     go_ret
     exact ⟨by first|rfl|(simp;done)|(simp [*];done),by repeat (first|exact Drawn0.refl _|apply Drawn0.step)⟩
 ·rw [if_neg c3] at H
  exact absurd H zq15
def laws_markText.l0:Nat→Int→ByteArray→Option (ByteArray)
 |0,_,_=>none
 |k+1,x0,x3=>if x0>0 then ((some (([(wrap64 (48+(Int.tmod x0 10)))%256]:List Int):List Int)).bind fun y281=>(if (strOfNums y281).size+x3.size≤9223372036854775807 then (laws_markText.l0 k (wrap64 (Int.tdiv x0 10)) ((strOfNums y281)++x3)) else (none))) else (if 1+x3.size≤9223372036854775807 then (some ((⟨#[109]⟩:ByteArray)++x3)) else (none))
def laws_markText.f (k:Nat) (a0:Int):Option (ByteArray):=if a0≤0 then (some (⟨#[109,48]⟩:ByteArray)) else (laws_markText.l0 k a0 (⟨#[]⟩:ByteArray))
theorem laws_markText.mono_l:∀k,(∀y0 y1,LeO (laws_markText.l0 k y0 y1) (laws_markText.l0 (k+1) y0 y1))
 |0=>fun _ _ r h=>by simp [laws_markText.l0] at h
 |k+1=>by
  have ih0:=laws_markText.mono_l k
  ·intro y0 y1
   unfold laws_markText.l0
   repeat' first
   |(with_reducible exact ih0 _ _)
   |(with_reducible exact LeO.refl _)
   |(with_reducible exact LeO.none _)
   |(with_reducible refine LeO.ite ?_ ?_)
   |(with_reducible refine LeO.bind ?_ (fun _=> ?_))
   |exact ih0 _ _
theorem laws_markText.mono:∀a0 k,LeO (laws_markText.f k a0) (laws_markText.f (k+1) a0):=by
 intro a0 k
 have ih0:=laws_markText.mono_l k
 unfold laws_markText.f
 repeat' first
   |(with_reducible exact ih0 _ _)
   |(with_reducible exact LeO.refl _)
   |(with_reducible exact LeO.none _)
   |(with_reducible refine LeO.ite ?_ ?_)
   |(with_reducible refine LeO.bind ?_ (fun _=> ?_))
   |exact ih0 _ _
theorem laws_markText.calls (k:Nat) (a0:Int) (r:ByteArray) (w:World) (h:laws_markText.f k a0=some r):
  Calls Tryz.prog 101 #[.int .i64 a0] w fun e w'=>e= .returned (.string r)∧Below w.heap.size w w':=by
 have HB:=zz (Below.refl w.heap.size w)
 have H:(if a0≤0 then (some (⟨#[109,48]⟩:ByteArray)) else (laws_markText.l0 k a0 (⟨#[]⟩:ByteArray)))=some r:=h
 clear h
 by_cases c2:a0≤0
 ·rw [if_pos c2] at H
  have c2b0:decide (a0≤0)=true:=decide_eq_true c2
  clear c2
  obtain rfl:=Option.some.inj H
  go_enter Tryz.func101,Tryz.ntmps101
  go_wp2
  go_ret
  exact ⟨by first|rfl|(simp [zx,zw]<;>rfl)|(simp [*,zx,zw]<;>rfl),by repeat (first|(with_reducible first|exact HB.out|apply zg|apply zf|apply zm)|exact HB.out)⟩
 ·rw [if_neg c2] at H
  have c2b0:decide (a0≤0)=false:=decide_eq_false c2
  clear c2
  have H':=zz H
  clear H
  go_enter Tryz.func101,Tryz.ntmps101
  go_wp2
  go_loopg [0,3] k (fun kq v0 v3 w'=>∃(x0_1:Int) (x3_1:ByteArray),v0= .int .i64 x0_1∧v3= .string x3_1∧Z0 (laws_markText.l0 kq x0_1 x3_1=some r)∧Z0 (kq≤k)∧Z0 (Below w.heap.size w w'))
  case atStart=>exact ⟨(a0),((⟨#[]⟩:ByteArray)),zq12,zq12,H',⟨Nat.le_refl _⟩,⟨by repeat (first|(with_reducible first|exact HB.out|apply zg|apply zf|apply zm)|exact HB.out)⟩⟩
  case round=>
   clear H'
   try clear c2
   try clear c2b0
   obtain ⟨x0_1,x3_1,rfl,rfl,HA,HK1,HB⟩:=hrel
   cases gk with
   |zero=>exact absurd HA.out (by simp [laws_markText.l0])
   |succ k1=>
    have H:=HA.out
    clear HA
    simp only [laws_markText.l0] at H
    by_cases c3:x0_1>0
    ·rw [if_pos c3] at H
     have c3b0:decide (0<x0_1)=true:=decide_eq_true c3
     clear c3
     obtain ⟨y281,hy281⟩:∃y_:List Int,y_=(([(wrap64 (48+(Int.tmod x0_1 10)))%256]:List Int)):=⟨_,rfl⟩
     replace H:(if (strOfNums y281).size+x3_1.size≤9223372036854775807 then (laws_markText.l0 k1 (wrap64 (Int.tdiv x0_1 10)) ((strOfNums y281)++x3_1)) else (none))=some r:=by first|(rw [hy281];with_reducible exact H)|(have H2_:=(Option.bind_some _ _).symm.trans H;rw [hy281];with_reducible exact H2_)|(have H2_:=(Option.bind_some _ _).symm.trans H;with_reducible exact H2_)|with_reducible exact H|(rw [hy281];exact H)|exact H
     have Ny281:=zz hy281
     clear hy281
     by_cases c4:(strOfNums y281).size+x3_1.size≤9223372036854775807
     ·rw [if_pos c4] at H
      have c4b0:=eq_true c4
      have c4b1:decide ((strOfNums y281).size+x3_1.size≤9223372036854775807)=true:=decide_eq_true c4
      try have c4b2:(9223372036854775807<(strOfNums y281).size+x3_1.size)=False:=eq_false (Nat.not_lt.2 c4)
      have H':=zz H
      clear H
      go_wp2_with (first|((with_reducible refine zv (N:=12) rfl ?_);refine Kd.R_lit (Kd.int .u8) _ 5 ?hg (N:=12) ?hd (xs:=([(wrap64 (48+(Int.tmod x0_1 10)))%256]:List Int)) (inner:=[.int .u8 ((wrap64 (48+(Int.tmod x0_1 10)))%256)]) (ok:=fun _=>True) (okp:=fun _=>True) ?hr ?hp (fun _ hk=>hk) trivial (Below.refl _ _) (Nat.le_refl _) zq15 ?_;(case hd=>rfl);(case hg=>rfl);(case hr=>first|(go_simp;done)|(go_simp;rfl));(case hp=>exact (Reps.one (show Kd.M (Kd.int .u8) _ _ _ ((wrap64 (48+(Int.tmod x0_1 10)))%256) [.int .u8 ((wrap64 (48+(Int.tmod x0_1 10)))%256)] from rfl) (Reps.none _ _)));intro v282 w5 ho6 hb hg_ hnew_;clear hg_ hnew_;(first|rw [←Ny281.out] at ho6|(simp only [Int.reduceToNat] at ho6;rw [←Ny281.out] at ho6));have n0_:=zz (Kd.R_lower ho6 (zi zq1));have n1_:=zz (zk zq1 hb);clear HB;have HO283:=n0_;have HB:=n1_;clear n0_ n1_;clear hb ho6;have hcv7:=zAb (P:=Tryz.prog) Tryz.underlying141 Tryz.underlying5 Tryz.underlying9 (Kd.own_of_R HO283.out)))
      go_roundg k1
      case measure=>have:=HK1.out;omega
      case rel=>exact ⟨(wrap64 (Int.tdiv x0_1 10)),((strOfNums y281)++x3_1),zq12,zq12,H',⟨by have:=HK1.out;omega⟩,⟨by repeat (first|(with_reducible first|exact HB.out|apply zg|apply zf|apply zm)|exact HB.out)⟩⟩
     ·rw [if_neg c4] at H
      exact absurd H zq15
    ·rw [if_neg c3] at H
     have c3b0:decide (0<x0_1)=false:=decide_eq_false c3
     clear c3
     by_cases c8:1+x3_1.size≤9223372036854775807
     ·rw [if_pos c8] at H
      have c8b0:=eq_true c8
      have c8b1:decide (1+x3_1.size≤9223372036854775807)=true:=decide_eq_true c8
      try have c8b2:(9223372036854775807<1+x3_1.size)=False:=eq_false (Nat.not_lt.2 c8)
      obtain rfl:=Option.some.inj H
      go_wp2
      go_ret
      exact ⟨by first|rfl|(simp [zx,zw]<;>rfl)|(simp [*,zx,zw]<;>rfl),by repeat (first|(with_reducible first|exact HB.out|apply zg|apply zf|apply zm)|exact HB.out)⟩
     ·rw [if_neg c8] at H
      exact absurd H zq15
def laws_markStringS.l0:Nat→List ByteArray→Int→Int→Option (Int×List ByteArray)
 |0,_,_,_=>none
 |k+1,x0,x1,x5=>if x5<(x0.length:Int) then ((laws_markText.f k x1).bind fun t284=>(if 0≤x5 then (laws_markStringS.l0 k (x0.set (x5:Int).toNat t284) (wrap64 (x1+1)) (wrap64 (x5+1))) else (none))) else (some (x1,x0))
def laws_markStringS.f (k:Nat) (l0:List ByteArray) (a1:Int):Option (Int×List ByteArray):=laws_markStringS.l0 k l0 a1 0
theorem laws_markStringS.calls (k:Nat) (P0_:Nat→Prop) (u9000_:Value) (l0:List ByteArray) (a1:Int) (r1:Int) (r2:List ByteArray) (w0 w:World) (hB:Below w0.heap.size w0 w) (ho0:Kd.R Kd.string 9 w w0.heap.size P0_ u9000_ l0) (h:laws_markStringS.f k l0 a1=some (r1,r2)):
  Calls Tryz.prog 53 #[u9000_,.int .i64 a1] w fun e w'=>e= .returned (.int .i64 r1)∧Kd.R Kd.string 9 w' w0.heap.size (fun k_=>(P0_ k_∨w.heap.size≤k_)) u9000_ r2∧Below w0.heap.size w0 w'∧Kept w w' (fun k_=>P0_ k_):=by
 have HO0:=zz (show Kd.R Kd.string 9 w w0.heap.size (fun k_=>(P0_ k_∨w.heap.size≤k_)) u9000_ l0 from Kd.R_mono ho0 (fun k_ hk=>(.inl hk)))
 have HK:=zz (Kept.refl w (fun k_=>P0_ k_))
 have HW0:=zz hB.size
 have HB:=zz hB
 clear hB
 have H:(laws_markStringS.l0 k l0 a1 0)=some (r1,r2):=h
 clear h
 have H':=zz H
 clear H
 go_enter Tryz.func53,Tryz.ntmps53
 go_wp2
 go_loopg [1,5] k (fun kq v1 v5 w'=>∃(x0_1:List ByteArray) (x1_1:Int) (x5_1:Int),v1= .int .i64 x1_1∧v5= .int .i64 x5_1∧Z0 (laws_markStringS.l0 kq x0_1 x1_1 x5_1=some (r1,r2))∧Z0 (kq≤k)∧Z0 (Kd.R Kd.string 9 w' w0.heap.size (fun k_=>(P0_ k_∨w.heap.size≤k_)) u9000_ x0_1)∧Z0 (Kept w w' (fun k_=>P0_ k_))∧Z0 (Below w0.heap.size w0 w'))
 case atStart=>exact ⟨(l0),(a1),(0),zq12,zq12,H',⟨Nat.le_refl _⟩,⟨by (with_reducible repeat (first|apply Kd.R_alloc|apply Kd.R_drewN|apply Kd.R_drew));exact HO0.out⟩,⟨by repeat (first|(with_reducible first|exact HK.out|apply Kept.alloc|apply Kept.drewN|apply Kept.drew)|exact HK.out)⟩,⟨by repeat (first|(with_reducible first|exact HB.out|apply zg|apply zf|apply zm)|exact HB.out)⟩⟩
 case round=>
  clear H'
  obtain ⟨x0_1,x1_1,x5_1,rfl,rfl,HA,HK1,HO_0,HK,HB⟩:=hrel
  cases gk with
  |zero=>exact absurd HA.out (by simp [laws_markStringS.l0])
  |succ k1=>
   have H:=HA.out
   clear HA
   simp only [laws_markStringS.l0] at H
   by_cases c3:x5_1<(x0_1.length:Int)
   ·rw [if_pos c3] at H
    have c3b0:decide (x5_1<(x0_1.length:Int))=true:=decide_eq_true c3
    clear c3
    replace H:=Option.bind_eq_some_iff.mp H
    obtain ⟨t284,A40,H⟩:=H
    replace H:(if 0≤x5_1 then (laws_markStringS.l0 k1 (x0_1.set (x5_1:Int).toNat t284) (wrap64 (x1_1+1)) (wrap64 (x5_1+1))) else (none))=some (r1,r2):=H
    have A4:=zz A40
    clear A40
    by_cases c5:0≤x5_1
    ·rw [if_pos c5] at H
     have c5b0:decide (0≤x5_1)=true:=decide_eq_true c5
     clear c5
     obtain ⟨y285,hy285⟩:∃y_:List ByteArray,y_=(x0_1.set (x5_1:Int).toNat t284):=⟨_,rfl⟩
     replace H:(laws_markStringS.l0 k1 y285 (wrap64 (x1_1+1)) (wrap64 (x5_1+1)))=some (r1,r2):=by first|(rw [hy285];with_reducible exact H)|(have H2_:=(Option.bind_some _ _).symm.trans H;rw [hy285];with_reducible exact H2_)|(have H2_:=(Option.bind_some _ _).symm.trans H;with_reducible exact H2_)|with_reducible exact H|(rw [hy285];exact H)|exact H
     have Ny285:=zz hy285
     clear hy285
     have H':=zz H
     clear H
     obtain ⟨Ao7,co7,eo7⟩:=Kd.R_slice HO_0.out
     subst eo7
     go_wp2_with (first|((with_reducible refine zB (f:=101) rfl ?_);refine zO (some 15) rfl rfl Tryz.func101 zq7 rfl #[.int .i64 x1_1] rfl zq4 ?_;(with_reducible refine (laws_markText.calls k1 x1_1 t284 _ A4.out).mono ?_);rintro e w8 ⟨rfl,hb⟩;refine ⟨_,rfl,?_⟩;have n0_:=zz (Kd.R_below (zq9 HO_0.out) hb);have n1_:=zz (Kept.below (S:=(fun k_=>P0_ k_)) zq18 hb);have n2_:=zz (zk zq1 hb);clear HO_0;clear HK;clear HB;have HO_0:=n0_;have HK:=n1_;have HB:=n2_;clear n0_ n1_ n2_;(try clear hb);(try clear hb2);(try clear hk);(try clear hi);have p6:0≤(x5_1:Int):=of_decide_eq_true zq11;have q6:(x5_1:Int)<((x0_1.length:Int):Int):=of_decide_eq_true zq11;obtain ⟨go6,co6,eo6,gb6,gl6,cl6,HG6⟩:=Kd.R_form HO_0.out zq5;(first|cases eo6|(injection eo6 with ea_ en_ ec_;(first|subst ea_|(injection ea_ with ea_;subst ea_));subst ec_;clear en_));have GB6:=zz gb6;have GG6:=zz HG6;clear gb6 gl6 HG6;have HMgo6:=zz (show (P0_ go6∨w.heap.size≤go6) from (HO_0.out.1 _ rfl));obtain ⟨hx6_0,hf6_0⟩:=Kd.R_celln (⟨#[]⟩:ByteArray) HO_0.out (x5_1:Int) p6 q6;replace p6:=eq_true p6;replace q6:=eq_true q6;obtain ⟨hy9_,hz9_⟩:=Kd.R_celln (⟨#[]⟩:ByteArray) HO_0.out (x5_1:Int) (of_decide_eq_true zq11) (of_decide_eq_true zq11);have HP9:=Kd.R_putg HO_0.out (x5_1:Int) t284)|((with_reducible refine zC (t:=9) (p:=16) rfl ?_);refine zca (t:=9) (p:=16) (v:= ?vo_w10) (w1:=(w8.setCell ⟨go6,(x5_1:Int).toNat,none⟩ (.string t284))) ?hg ?ho ?hn ?hr ?_;(case ho=>rfl);(case hg=>rfl);(case hn=>rfl);(case hr=>first|(go_simp;done)|(go_simp;rfl));intro w10 hw;have hg:w8.grownBy w10 (some go6):=(by rw [hw];exact HP9.2);have hp_:Kd.R Kd.string 9 w10 w0.heap.size (fun k_=>(P0_ k_∨w.heap.size≤k_)) (.slice (some ⟨go6,0,none⟩) x0_1.length co7) y285:=(by rw [hw,Ny285.out];exact HP9.1);clear HP9;have n0_:=zz (hp_);have n1_:=zz ((by rw [hw];exact zr (HB.out) GB6.out:Below w0.heap.size w0 w10));have n2_:=zz (Kept.of_grown (S:=(fun k_=>P0_ k_)) hg zq18 (fun k_ e_=>(HO_0.out.1 k_ e_)));clear HO_0;clear HB;clear HK;have HO_0:=n0_;have HB:=n1_;have HK:=n2_;clear n0_ n1_ n2_;clear hg hw hp_))
     go_roundg k1
     case measure=>have:=HK1.out;omega
     case rel=>exact ⟨(y285),(wrap64 (x1_1+1)),(wrap64 (x5_1+1)),zq12,zq12,H',⟨by have:=HK1.out;omega⟩,⟨by (with_reducible repeat (first|apply Kd.R_alloc|apply Kd.R_drewN|apply Kd.R_drew));exact HO_0.out⟩,⟨by repeat (first|(with_reducible first|exact HK.out|apply Kept.alloc|apply Kept.drewN|apply Kept.drew)|exact HK.out)⟩,⟨by repeat (first|(with_reducible first|exact HB.out|apply zg|apply zf|apply zm)|exact HB.out)⟩⟩
    ·rw [if_neg c5] at H
     exact absurd H zq15
   ·rw [if_neg c3] at H
    have c3b0:decide (x5_1<(x0_1.length:Int))=false:=decide_eq_false c3
    clear c3
    simp only [Option.some.injEq,Prod.mk.injEq] at H
    obtain ⟨rfl,rfl⟩:=H
    obtain ⟨Ao11,co11,eo11⟩:=Kd.R_slice HO_0.out
    subst eo11
    go_wp2
    go_ret
    exact ⟨by first|rfl|(simp [zx,zw]<;>rfl)|(simp [*,zx,zw]<;>rfl),by (with_reducible repeat (first|apply Kd.R_alloc|apply Kd.R_drewN|apply Kd.R_drew));exact HO_0.out,by repeat (first|(with_reducible first|exact HB.out|apply zg|apply zf|apply zm)|exact HB.out),by repeat (first|(with_reducible first|exact HK.out|apply Kept.alloc|apply Kept.drewN|apply Kept.drew)|exact HK.out)⟩
def laws_markPutS.l0:Nat→List (S110)→Int→Int→Option (Int×(List (S110)))
 |0,_,_,_=>none
 |k+1,x0,x1,x5=>if x5<(x0.length:Int) then (if 0≤x5 then ((some (x0.set (x5:Int).toNat (⟨x1,(zn x0 x5).f1⟩:S110):List (S110))).bind fun y286=>((laws_markText.f k (wrap64 (x1+1))).bind fun t287=>(laws_markPutS.l0 k (y286.set (x5:Int).toNat (⟨(zn y286 x5).f0,t287⟩:S110)) (wrap64 ((wrap64 (x1+1))+1)) (wrap64 (x5+1))))) else (none)) else (some (x1,x0))
def laws_markPutS.f (k:Nat) (l0:List (S110)) (a1:Int):Option (Int×(List (S110))):=laws_markPutS.l0 k l0 a1 0
theorem laws_markPutS.calls (k:Nat) (P0_:Nat→Prop) (u9000_:Value) (l0:List (S110)) (a1:Int) (r1:Int) (r2:List (S110)) (w0 w:World) (hB:Below w0.heap.size w0 w) (ho0:Kd.R k110 110 w w0.heap.size P0_ u9000_ l0) (h:laws_markPutS.f k l0 a1=some (r1,r2)):
  Calls Tryz.prog 54 #[u9000_,.int .i64 a1] w fun e w'=>e= .returned (.int .i64 r1)∧Kd.R k110 110 w' w0.heap.size (fun k_=>(P0_ k_∨w.heap.size≤k_)) u9000_ r2∧Below w0.heap.size w0 w'∧Kept w w' (fun k_=>P0_ k_):=by
 have HO0:=zz (show Kd.R k110 110 w w0.heap.size (fun k_=>(P0_ k_∨w.heap.size≤k_)) u9000_ l0 from Kd.R_mono ho0 (fun k_ hk=>(.inl hk)))
 have HK:=zz (Kept.refl w (fun k_=>P0_ k_))
 have HW0:=zz hB.size
 have HB:=zz hB
 clear hB
 have H:(laws_markPutS.l0 k l0 a1 0)=some (r1,r2):=h
 clear h
 have H':=zz H
 clear H
 go_enter Tryz.func54,Tryz.ntmps54
 go_wp2
 go_loopg [1,5] k (fun kq v1 v5 w'=>∃(x0_1:List (S110)) (x1_1:Int) (x5_1:Int),v1= .int .i64 x1_1∧v5= .int .i64 x5_1∧Z0 (laws_markPutS.l0 kq x0_1 x1_1 x5_1=some (r1,r2))∧Z0 (kq≤k)∧Z0 (Kd.R k110 110 w' w0.heap.size (fun k_=>(P0_ k_∨w.heap.size≤k_)) u9000_ x0_1)∧Z0 (Kept w w' (fun k_=>P0_ k_))∧Z0 (Below w0.heap.size w0 w'))
 case atStart=>exact ⟨(l0),(a1),(0),zq12,zq12,H',⟨Nat.le_refl _⟩,⟨by (with_reducible repeat (first|apply Kd.R_alloc|apply Kd.R_drewN|apply Kd.R_drew));exact HO0.out⟩,⟨by repeat (first|(with_reducible first|exact HK.out|apply Kept.alloc|apply Kept.drewN|apply Kept.drew)|exact HK.out)⟩,⟨by repeat (first|(with_reducible first|exact HB.out|apply zg|apply zf|apply zm)|exact HB.out)⟩⟩
 case round=>
  clear H'
  obtain ⟨x0_1,x1_1,x5_1,rfl,rfl,HA,HK1,HO_0,HK,HB⟩:=hrel
  cases gk with
  |zero=>exact absurd HA.out (by simp [laws_markPutS.l0])
  |succ k1=>
   have H:=HA.out
   clear HA
   simp only [laws_markPutS.l0] at H
   by_cases c3:x5_1<(x0_1.length:Int)
   ·rw [if_pos c3] at H
    have c3b0:decide (x5_1<(x0_1.length:Int))=true:=decide_eq_true c3
    clear c3
    by_cases c4:0≤x5_1
    ·rw [if_pos c4] at H
     have c4b0:decide (0≤x5_1)=true:=decide_eq_true c4
     clear c4
     obtain ⟨y286,hy286⟩:∃y_:List (S110),y_=(x0_1.set (x5_1:Int).toNat (⟨x1_1,(zn x0_1 x5_1).f1⟩:S110)):=⟨_,rfl⟩
     replace H:((laws_markText.f k1 (wrap64 (x1_1+1))).bind fun t287=>(laws_markPutS.l0 k1 (y286.set (x5_1:Int).toNat (⟨(zn y286 x5_1).f0,t287⟩:S110)) (wrap64 ((wrap64 (x1_1+1))+1)) (wrap64 (x5_1+1))))=some (r1,r2):=by first|(rw [hy286];with_reducible exact H)|(have H2_:=(Option.bind_some _ _).symm.trans H;rw [hy286];with_reducible exact H2_)|(have H2_:=(Option.bind_some _ _).symm.trans H;with_reducible exact H2_)|with_reducible exact H|(rw [hy286];exact H)|exact H
     have Ny286:=zz hy286
     clear hy286
     replace H:=Option.bind_eq_some_iff.mp H
     obtain ⟨t287,A60,H⟩:=H
     replace H:(laws_markPutS.l0 k1 (y286.set (x5_1:Int).toNat (⟨(zn y286 x5_1).f0,t287⟩:S110)) (wrap64 ((wrap64 (x1_1+1))+1)) (wrap64 (x5_1+1)))=some (r1,r2):=H
     have A6:=zz A60
     clear A60
     obtain ⟨y288,hy288⟩:∃y_:List (S110),y_=(y286.set (x5_1:Int).toNat (⟨(zn y286 x5_1).f0,t287⟩:S110)):=⟨_,rfl⟩
     replace H:(laws_markPutS.l0 k1 y288 (wrap64 ((wrap64 (x1_1+1))+1)) (wrap64 (x5_1+1)))=some (r1,r2):=by first|(rw [hy288];with_reducible exact H)|(have H2_:=(Option.bind_some _ _).symm.trans H;rw [hy288];with_reducible exact H2_)|(have H2_:=(Option.bind_some _ _).symm.trans H;with_reducible exact H2_)|with_reducible exact H|(rw [hy288];exact H)|exact H
     have Ny288:=zz hy288
     clear hy288
     have H':=zz H
     clear H
     obtain ⟨Ao8,co8,eo8⟩:=Kd.R_slice HO_0.out
     subst eo8
     have p5:0≤(x5_1:Int):=of_decide_eq_true zq11
     have q5:(x5_1:Int)<((x0_1.length:Int):Int):=of_decide_eq_true zq11
     obtain ⟨go5,co5,eo5,gb5,gl5,cl5,HG5⟩:=Kd.R_form HO_0.out zq5
     (first|cases eo5|(injection eo5 with ea_ en_ ec_;(first|subst ea_|(injection ea_ with ea_;subst ea_));subst ec_;clear en_))
     have GB5:=zz gb5
     have GG5:=zz HG5
     clear gb5 gl5 HG5
     have HMgo5:=zz (show (P0_ go5∨w.heap.size≤go5) from (HO_0.out.1 _ rfl))
     obtain ⟨ce5,hcl5,hM5,hcc5,hfr5⟩:=Kd.R_elem HO_0.out z110 (x5_1:Int) p5 q5
     obtain rfl:=zeb hM5
     have hx5_0:wr.cell? ⟨go5,(x5_1:Int).toNat*2,none⟩=some (.int .i64 ((zn x0_1 x5_1).f0)):=hcc5 0 _ rfl
     have hx5_1:wr.cell? ⟨go5,(x5_1:Int).toNat*2+1,none⟩=some (.string ((zn x0_1 x5_1).f1)):=hcc5 1 _ rfl
     have hf5_0:wr.frozen? ⟨go5,(x5_1:Int).toNat*2,none⟩=false:=hfr5 0
     have hf5_1:wr.frozen? ⟨go5,(x5_1:Int).toNat*2+1,none⟩=false:=hfr5 1
     clear hcl5 hcc5 hfr5 hM5
     replace p5:=eq_true p5
     replace q5:=eq_true q5
     have HX9:=zz (show Kd.R k110 110 wr w0.heap.size (fun k_=>(P0_ k_∨w.heap.size≤k_)) (.slice (some ⟨go5,0,none⟩) x0_1.length co8) x0_1 from (zq9 HO_0.out))
     obtain ⟨ce9,hcl9,hM9,hcc9,hfr9⟩:=Kd.R_elem HX9.out z110 (x5_1:Int) (of_decide_eq_true zq11) (zq32 HO_0.out)
     obtain rfl:=zeb hM9
     have HP9:=Kd.R_seg HX9.out (x5_1:Int) (of_decide_eq_true zq11) (zq32 HO_0.out) (seg:=[.int .i64 x1_1]) (j:=0) hcl9 hcc9 (show 1≤2 from by decide) (x':=(⟨x1_1,(zn x0_1 x5_1).f1⟩:S110)) (k110_mkM _ _ _ (⟨x1_1,(zn x0_1 x5_1).f1⟩:S110)) (fun _ hk=>hk)
     have hx9_0:=hcc9 0 _ rfl
     (try simp only [show (k110).sz=2 from rfl,Nat.mul_one,Nat.add_zero] at hx9_0)
     have hf9_0:=hfr9 0
     (try simp only [show (k110).sz=2 from rfl,Nat.mul_one,Nat.add_zero] at hf9_0)
     clear hcl9 hcc9 hfr9 hM9
     go_wp2_with (first|((with_reducible refine zC (t:=3) (p:=16) rfl ?_);refine zca (t:=3) (p:=16) (v:= ?vo_w10) (w1:=(wr.setCell ⟨go5,(x5_1:Int).toNat*2,none⟩ (.int .i64 x1_1))) ?hg ?ho ?hn ?hr ?_;(case ho=>rfl);(case hg=>rfl);(case hn=>rfl);(case hr=>first|(go_simp;done)|(go_simp;rfl));intro w10 hw;have hg:wr.grownBy w10 (some go5):=(by rw [hw];exact HP9.2);have hp_:Kd.R k110 110 w10 w0.heap.size (fun k_=>(P0_ k_∨w.heap.size≤k_)) (.slice (some ⟨go5,0,none⟩) x0_1.length co8) y286:=(by rw [hw,Ny286.out];exact HP9.1);clear HP9;have n0_:=zz (hp_);have n1_:=zz ((by rw [hw];exact zr (HB.out) GB5.out:Below w0.heap.size w0 w10));have n2_:=zz (Kept.of_grown (S:=(fun k_=>P0_ k_)) hg zq18 (fun k_ e_=>(HO_0.out.1 k_ e_)));clear HO_0;clear HB;clear HK;have HO_0:=n0_;have HB:=n1_;have HK:=n2_;clear n0_ n1_ n2_;clear hg hw hp_)|((with_reducible refine zB (f:=101) rfl ?_);refine zO (some 22) rfl rfl Tryz.func101 zq7 rfl #[.int .i64 (wrap64 (x1_1+1))] rfl zq4 ?_;(with_reducible refine (laws_markText.calls k1 (wrap64 (x1_1+1)) t287 _ A6.out).mono ?_);rintro e w11 ⟨rfl,hb⟩;refine ⟨_,rfl,?_⟩;have n0_:=zz (Kd.R_below (zq9 HO_0.out) hb);have n1_:=zz (Kept.below (S:=(fun k_=>P0_ k_)) zq18 hb);have n2_:=zz (zk zq1 hb);clear HO_0;clear HK;clear HB;have HO_0:=n0_;have HK:=n1_;have HB:=n2_;clear n0_ n1_ n2_;(try clear hb);(try clear hb2);(try clear hk);(try clear hi);have p7:0≤(x5_1:Int):=of_decide_eq_true zq11;have q7:(x5_1:Int)<((x0_1.length:Int):Int):=of_decide_eq_true zq11;obtain ⟨ce7,hcl7,hM7,hcc7,hfr7⟩:=Kd.R_elem HO_0.out z110 (x5_1:Int) p7 q7;obtain rfl:=zeb hM7;have hx7_0:w11.cell? ⟨go5,(x5_1:Int).toNat*2,none⟩=some (.int .i64 ((zn y286 x5_1).f0)):=hcc7 0 _ rfl;have hx7_1:w11.cell? ⟨go5,(x5_1:Int).toNat*2+1,none⟩=some (.string ((zn y286 x5_1).f1)):=hcc7 1 _ rfl;have hf7_0:w11.frozen? ⟨go5,(x5_1:Int).toNat*2,none⟩=false:=hfr7 0;have hf7_1:w11.frozen? ⟨go5,(x5_1:Int).toNat*2+1,none⟩=false:=hfr7 1;clear hcl7 hcc7 hfr7 hM7;replace p7:=eq_true p7;replace q7:=eq_true q7;have HX12:=zz (show Kd.R k110 110 w11 w0.heap.size (fun k_=>(P0_ k_∨w.heap.size≤k_)) (.slice (some ⟨go5,0,none⟩) x0_1.length co8) y286 from (zq9 HO_0.out));obtain ⟨ce12,hcl12,hM12,hcc12,hfr12⟩:=Kd.R_elem HX12.out z110 (x5_1:Int) (of_decide_eq_true zq11) (zq32 HO_0.out);obtain rfl:=zeb hM12;have HP12:=Kd.R_seg HX12.out (x5_1:Int) (of_decide_eq_true zq11) (zq32 HO_0.out) (seg:=[.string t287]) (j:=1) hcl12 hcc12 (show 2≤2 from by decide) (x':=(⟨(zn y286 x5_1).f0,t287⟩:S110)) (k110_mkM _ _ _ (⟨(zn y286 x5_1).f0,t287⟩:S110)) (fun _ hk=>hk);have hx12_1:=hcc12 1 _ rfl;(try simp only [show (k110).sz=2 from rfl,Nat.mul_one,Nat.add_zero] at hx12_1);have hf12_1:=hfr12 1;(try simp only [show (k110).sz=2 from rfl,Nat.mul_one,Nat.add_zero] at hf12_1);clear hcl12 hcc12 hfr12 hM12)|((with_reducible refine zC (t:=9) (p:=24) rfl ?_);refine zca (t:=9) (p:=24) (v:= ?vo_w13) (w1:=(w11.setCell ⟨go5,(x5_1:Int).toNat*2+1,none⟩ (.string t287))) ?hg ?ho ?hn ?hr ?_;(case ho=>rfl);(case hg=>rfl);(case hn=>rfl);(case hr=>first|(go_simp;done)|(go_simp;rfl));intro w13 hw;have hg:w11.grownBy w13 (some go5):=(by rw [hw];exact HP12.2);have hp_:Kd.R k110 110 w13 w0.heap.size (fun k_=>(P0_ k_∨w.heap.size≤k_)) (.slice (some ⟨go5,0,none⟩) x0_1.length co8) y288:=(by rw [hw,Ny288.out];exact HP12.1);clear HP12;have n0_:=zz (hp_);have n1_:=zz ((by rw [hw];exact zr (HB.out) GB5.out:Below w0.heap.size w0 w13));have n2_:=zz (Kept.of_grown (S:=(fun k_=>P0_ k_)) hg zq18 (fun k_ e_=>(HO_0.out.1 k_ e_)));clear HO_0;clear HB;clear HK;have HO_0:=n0_;have HB:=n1_;have HK:=n2_;clear n0_ n1_ n2_;clear hg hw hp_))
     go_roundg k1
     case measure=>have:=HK1.out;omega
     case rel=>exact ⟨(y288),(wrap64 ((wrap64 (x1_1+1))+1)),(wrap64 (x5_1+1)),zq12,zq12,H',⟨by have:=HK1.out;omega⟩,⟨by (with_reducible repeat (first|apply Kd.R_alloc|apply Kd.R_drewN|apply Kd.R_drew));exact HO_0.out⟩,⟨by repeat (first|(with_reducible first|exact HK.out|apply Kept.alloc|apply Kept.drewN|apply Kept.drew)|exact HK.out)⟩,⟨by repeat (first|(with_reducible first|exact HB.out|apply zg|apply zf|apply zm)|exact HB.out)⟩⟩
    ·rw [if_neg c4] at H
     exact absurd H zq15
   ·rw [if_neg c3] at H
    have c3b0:decide (x5_1<(x0_1.length:Int))=false:=decide_eq_false c3
    clear c3
    simp only [Option.some.injEq,Prod.mk.injEq] at H
    obtain ⟨rfl,rfl⟩:=H
    obtain ⟨Ao14,co14,eo14⟩:=Kd.R_slice HO_0.out
    subst eo14
    go_wp2
    go_ret
    exact ⟨by first|rfl|(simp [zx,zw]<;>rfl)|(simp [*,zx,zw]<;>rfl),by (with_reducible repeat (first|apply Kd.R_alloc|apply Kd.R_drewN|apply Kd.R_drew));exact HO_0.out,by repeat (first|(with_reducible first|exact HB.out|apply zg|apply zf|apply zm)|exact HB.out),by repeat (first|(with_reducible first|exact HK.out|apply Kept.alloc|apply Kept.drewN|apply Kept.drew)|exact HK.out)⟩
def laws_markDisk.f (k:Nat) (l0_0:List ByteArray) (l0_1:List (S110)) (a1:Int):Option (Int×List ByteArray×(List (S110))):=(laws_markStringS.f k l0_0 a1).bind fun bt290=>((laws_markPutS.f k l0_1 bt290.1).bind fun bt292=>(some (bt292.1,bt290.2,bt292.2)))
theorem laws_markDisk.calls (k:Nat) (P0_0_:Nat→Prop) (u9000_:Value) (l0_0:List ByteArray) (P0_1_:Nat→Prop) (u9001_:Value) (l0_1:List (S110)) (a1:Int) (r1:Int) (r2:List ByteArray) (r3:List (S110)) (w0 w:World) (hB:Below w0.heap.size w0 w) (ho0_0:Kd.R Kd.string 9 w w0.heap.size P0_0_ u9000_ l0_0) (ho0_1:Kd.R k110 110 w w0.heap.size P0_1_ u9001_ l0_1) (h:laws_markDisk.f k l0_0 l0_1 a1=some (r1,r2,r3)):
  Calls Tryz.prog 14 #[.agg #[u9000_,u9001_],.int .i64 a1] w fun e w'=>e= .returned (.int .i64 r1)∧Kd.R Kd.string 9 w' w0.heap.size (fun k_=>((P0_0_ k_∨P0_1_ k_)∨w.heap.size≤k_)) u9000_ r2∧Kd.R k110 110 w' w0.heap.size (fun k_=>((P0_0_ k_∨P0_1_ k_)∨w.heap.size≤k_)) u9001_ r3∧Below w0.heap.size w0 w'∧Kept w w' (fun k_=>P0_0_ k_∨P0_1_ k_):=by
 have hu32:=Tryz.underlying37
 have HO0_0:=zz (show Kd.R Kd.string 9 w w0.heap.size (fun k_=>((P0_0_ k_∨P0_1_ k_)∨w.heap.size≤k_)) u9000_ l0_0 from Kd.R_mono ho0_0 (fun k_ hk=>(.inl (.inl hk))))
 have HO0_1:=zz (show Kd.R k110 110 w w0.heap.size (fun k_=>((P0_0_ k_∨P0_1_ k_)∨w.heap.size≤k_)) u9001_ l0_1 from Kd.R_mono ho0_1 (fun k_ hk=>(.inl (.inr hk))))
 have HK:=zz (Kept.refl w (fun k_=>P0_0_ k_∨P0_1_ k_))
 have HW0:=zz hB.size
 have HB:=zz hB
 clear hB
 have H:((laws_markStringS.f k l0_0 a1).bind fun bt290=>((laws_markPutS.f k l0_1 bt290.1).bind fun bt292=>(some (bt292.1,bt290.2,bt292.2))))=some (r1,r2,r3):=h
 clear h
 replace H:=Option.bind_eq_some_iff.mp H
 obtain ⟨⟨t290,t291⟩,A30,H⟩:=H
 replace H:((laws_markPutS.f k l0_1 t290).bind fun bt292=>(some (bt292.1,t291,bt292.2)))=some (r1,r2,r3):=H
 have A3:=zz A30
 clear A30
 replace H:=Option.bind_eq_some_iff.mp H
 obtain ⟨⟨t292,t293⟩,A40,H⟩:=H
 replace H:(some (t292,t291,t293))=some (r1,r2,r3):=H
 have A4:=zz A40
 clear A40
 simp only [Option.some.injEq,Prod.mk.injEq] at H
 obtain ⟨rfl,rfl,rfl⟩:=H
 obtain ⟨Ao5,co5,eo5⟩:=Kd.R_slice HO0_0.out
 subst eo5
 obtain ⟨Ao6,co6,eo6⟩:=Kd.R_slice HO0_1.out
 subst eo6
 go_enter Tryz.func14,Tryz.ntmps14
 go_wp2_with (first|((with_reducible refine zv (N:=2) rfl ?_);refine zE ?hg (N:=2) ?hd (cs:= #[.slice Ao5 l0_0.length co5,.slice Ao6 l0_1.length co6]) (t:=37) ?hr ?_;(case hd=>rfl);(case hg=>rfl);(case hr=>first|(go_simp;done)|(go_simp;rfl));intro gb289 hg w7 hbox hb;have n0_:=zz (Kd.R_below (by (with_reducible repeat (first|apply Kd.R_alloc|apply Kd.R_drewN|apply Kd.R_drew));exact HO0_0.out) hb);have n1_:=zz (Kd.R_below (by (with_reducible repeat (first|apply Kd.R_alloc|apply Kd.R_drewN|apply Kd.R_drew));exact HO0_1.out) hb);have n2_:=zz (Kept.below (S:=(fun k_=>P0_0_ k_∨P0_1_ k_)) zq18 hb);have n3_:=zz (zk zq1 hb);have n4_:=zz (hbox);have n5_:=zz ((by rw [hg];exact (by first|exact HK.out.1|exact (show Kept w _ (fun k_=>P0_0_ k_∨P0_1_ k_) from by repeat (first|(with_reducible first|exact HK.out|apply Kept.alloc|apply Kept.drewN|apply Kept.drew)|exact HK.out)).1):w.heap.size≤gb289));have n6_:=zz ((by rw [hg];exact (zi zq1):w0.heap.size≤gb289));clear HO0_0;clear HO0_1;clear HK;clear HB;have HO0_0:=n0_;have HO0_1:=n1_;have HK:=n2_;have HB:=n3_;have BK289:=n4_;have GW289:=n5_;have GE289:=n6_;clear n0_ n1_ n2_ n3_ n4_ n5_ n6_;clear hb hbox hg;have hcz8_0:w7.cell? ⟨gb289,0,none⟩=some (.slice Ao5 l0_0.length co5):=(ze BK289.out 0).trans rfl;have hcz8_1:w7.cell? ⟨gb289,1,none⟩=some (.slice Ao6 l0_1.length co6):=(ze BK289.out 1).trans rfl;have hfz8_0:=zd BK289.out 0;have hfz8_1:=zd BK289.out 1)|((with_reducible refine zB (f:=53) rfl ?_);refine zO (some 8) rfl rfl Tryz.func53 zq7 rfl #[.slice Ao5 l0_0.length co5,.int .i64 a1] rfl zq4 ?_;(with_reducible refine (laws_markStringS.calls k (fun k_=>some k_=(.slice Ao5 l0_0.length co5:Value).ownBlock) (.slice Ao5 l0_0.length co5) l0_0 a1 t290 t291 w0 _ ?side1 ?side2 A3.out).mono ?_);(case side1=>repeat (first|(with_reducible first|exact HB.out|apply zg|apply zf|apply zm|refine zr ?_ GE289.out)|exact HB.out));(case side2=>exact Kd.R_tight rfl HO0_0.out);rintro e w9 ⟨rfl,hy0,hb,hkp⟩;refine ⟨_,rfl,?_⟩;have n0_:=zz (Kd.R_reok rfl hy0 (fun k_ e_=>HO0_0.out.1 k_ e_));have n1_:=zz (Kd.R_mono (ok':=fun k_=>((P0_0_ k_∨P0_1_ k_)∨w.heap.size≤k_)) (Kd.R_keptB ((Kd.R_apart' HO0_1.out (Kd.R_typed HO0_0.out) zq14)) hkp (fun k_ hk_ hs_=>(hk_.2) hs_)) (fun k_ hk_=>hk_.1.1));have n2_:=zz (znb (zq0 BK289.out) hkp (fun hs_=>(fun e_=>(Kd.R_ne HO0_0.out BK289.out zq14) e_) hs_));have n3_:=zz (Kept.then_ (S:=(fun k_=>P0_0_ k_∨P0_1_ k_)) zq44 hkp (fun k_ hs_=>(fun e_=>(HO0_0.out.1 k_ e_.symm)) hs_));have n4_:=zz (hb);clear HO0_0;clear HO0_1;clear BK289;clear HK;clear HB;have HO0_0:=n0_;have HO0_1:=n1_;have BK289:=n2_;have HK:=n3_;have HB:=n4_;clear n0_ n1_ n2_ n3_ n4_;(try clear hb);(try clear hkp);(try clear hy0);have hcz10_0:w9.cell? ⟨gb289,0,none⟩=some (.slice Ao5 l0_0.length co5):=(ze BK289.out 0).trans rfl;have hcz10_1:w9.cell? ⟨gb289,1,none⟩=some (.slice Ao6 l0_1.length co6):=(ze BK289.out 1).trans rfl;have hfz10_0:=zd BK289.out 0;have hfz10_1:=zd BK289.out 1)|((with_reducible refine zB (f:=54) rfl ?_);refine zO (some 12) rfl rfl Tryz.func54 zq7 rfl #[.slice Ao6 l0_1.length co6,.int .i64 t290] rfl zq4 ?_;(with_reducible refine (laws_markPutS.calls k (fun k_=>some k_=(.slice Ao6 l0_1.length co6:Value).ownBlock) (.slice Ao6 l0_1.length co6) l0_1 t290 t292 t293 w0 _ ?side1 ?side2 A4.out).mono ?_);(case side1=>repeat (first|(with_reducible first|exact HB.out|apply zg|apply zf|apply zm|refine zr ?_ GE289.out)|exact HB.out));(case side2=>exact Kd.R_tight rfl HO0_1.out);rintro e w11 ⟨rfl,hy0,hb,hkp⟩;refine ⟨_,rfl,?_⟩;have n0_:=zz (Kd.R_mono (ok':=fun k_=>((P0_0_ k_∨P0_1_ k_)∨w.heap.size≤k_)) (Kd.R_keptB ((Kd.R_apart' HO0_0.out (Kd.R_typed HO0_1.out) zq14)) hkp (fun k_ hk_ hs_=>(hk_.2) hs_)) (fun k_ hk_=>hk_.1.1));have n1_:=zz (Kd.R_reok rfl hy0 (fun k_ e_=>HO0_1.out.1 k_ e_));have n2_:=zz (znb (zq0 BK289.out) hkp (fun hs_=>(fun e_=>(Kd.R_ne HO0_1.out BK289.out zq14) e_) hs_));have n3_:=zz (Kept.then_ (S:=(fun k_=>P0_0_ k_∨P0_1_ k_)) zq44 hkp (fun k_ hs_=>(fun e_=>(HO0_1.out.1 k_ e_.symm)) hs_));have n4_:=zz (hb);clear HO0_0;clear HO0_1;clear BK289;clear HK;clear HB;have HO0_0:=n0_;have HO0_1:=n1_;have BK289:=n2_;have HK:=n3_;have HB:=n4_;clear n0_ n1_ n2_ n3_ n4_;(try clear hb);(try clear hkp);(try clear hy0)))
 go_ret
 exact ⟨by first|rfl|(simp [zx,zw]<;>rfl)|(simp [*,zx,zw]<;>rfl),by (with_reducible repeat (first|apply Kd.R_alloc|apply Kd.R_drewN|apply Kd.R_drew));exact HO0_0.out,by (with_reducible repeat (first|apply Kd.R_alloc|apply Kd.R_drewN|apply Kd.R_drew));exact HO0_1.out,by repeat (first|(with_reducible first|exact HB.out|apply zg|apply zf|apply zm|refine zr ?_ GE289.out)|exact HB.out),by repeat (first|(with_reducible first|exact HK.out|apply Kept.alloc|apply Kept.drewN|apply Kept.drew|refine Kept.setCell ?_ (.inr GW289.out) _)|exact HK.out)⟩
def laws_markIntS.l0:Nat→List Int→Int→Int→Option (Int×List Int)
 |0,_,_,_=>none
 |k+1,x0,x1,x5=>if x5<(x0.length:Int) then (if 0≤x5 then (laws_markIntS.l0 k (x0.set (x5:Int).toNat x1) (wrap64 (x1+1)) (wrap64 (x5+1))) else (none)) else (some (x1,x0))
def laws_markIntS.f (k:Nat) (l0:List Int) (a1:Int):Option (Int×List Int):=laws_markIntS.l0 k l0 a1 0
theorem laws_markIntS.calls (k:Nat) (P0_:Nat→Prop) (u9000_:Value) (l0:List Int) (a1:Int) (r1:Int) (r2:List Int) (w0 w:World) (hB:Below w0.heap.size w0 w) (ho0:Kd.R (Kd.int .i64) 3 w w0.heap.size P0_ u9000_ l0) (h:laws_markIntS.f k l0 a1=some (r1,r2)):
  Calls Tryz.prog 100 #[u9000_,.int .i64 a1] w fun e w'=>e= .returned (.int .i64 r1)∧Kd.R (Kd.int .i64) 3 w' w0.heap.size (fun k_=>(P0_ k_∨w.heap.size≤k_)) u9000_ r2∧Below w0.heap.size w0 w'∧Kept w w' (fun k_=>P0_ k_):=by
 have HO0:=zz (show Kd.R (Kd.int .i64) 3 w w0.heap.size (fun k_=>(P0_ k_∨w.heap.size≤k_)) u9000_ l0 from Kd.R_mono ho0 (fun k_ hk=>(.inl hk)))
 have HK:=zz (Kept.refl w (fun k_=>P0_ k_))
 have HW0:=zz hB.size
 have HB:=zz hB
 clear hB
 have H:(laws_markIntS.l0 k l0 a1 0)=some (r1,r2):=h
 clear h
 have H':=zz H
 clear H
 go_enter Tryz.func100,Tryz.ntmps100
 go_wp2
 go_loopg [1,5] k (fun kq v1 v5 w'=>∃(x0_1:List Int) (x1_1:Int) (x5_1:Int),v1= .int .i64 x1_1∧v5= .int .i64 x5_1∧Z0 (laws_markIntS.l0 kq x0_1 x1_1 x5_1=some (r1,r2))∧Z0 (kq≤k)∧Z0 (Kd.R (Kd.int .i64) 3 w' w0.heap.size (fun k_=>(P0_ k_∨w.heap.size≤k_)) u9000_ x0_1)∧Z0 (Kept w w' (fun k_=>P0_ k_))∧Z0 (Below w0.heap.size w0 w'))
 case atStart=>exact ⟨(l0),(a1),(0),zq12,zq12,H',⟨Nat.le_refl _⟩,⟨by (with_reducible repeat (first|apply Kd.R_alloc|apply Kd.R_drewN|apply Kd.R_drew));exact HO0.out⟩,⟨by repeat (first|(with_reducible first|exact HK.out|apply Kept.alloc|apply Kept.drewN|apply Kept.drew)|exact HK.out)⟩,⟨by repeat (first|(with_reducible first|exact HB.out|apply zg|apply zf|apply zm)|exact HB.out)⟩⟩
 case round=>
  clear H'
  obtain ⟨x0_1,x1_1,x5_1,rfl,rfl,HA,HK1,HO_0,HK,HB⟩:=hrel
  cases gk with
  |zero=>exact absurd HA.out (by simp [laws_markIntS.l0])
  |succ k1=>
   have H:=HA.out
   clear HA
   simp only [laws_markIntS.l0] at H
   by_cases c3:x5_1<(x0_1.length:Int)
   ·rw [if_pos c3] at H
    have c3b0:decide (x5_1<(x0_1.length:Int))=true:=decide_eq_true c3
    clear c3
    by_cases c4:0≤x5_1
    ·rw [if_pos c4] at H
     have c4b0:decide (0≤x5_1)=true:=decide_eq_true c4
     clear c4
     obtain ⟨y294,hy294⟩:∃y_:List Int,y_=(x0_1.set (x5_1:Int).toNat x1_1):=⟨_,rfl⟩
     replace H:(laws_markIntS.l0 k1 y294 (wrap64 (x1_1+1)) (wrap64 (x5_1+1)))=some (r1,r2):=by first|(rw [hy294];with_reducible exact H)|(have H2_:=(Option.bind_some _ _).symm.trans H;rw [hy294];with_reducible exact H2_)|(have H2_:=(Option.bind_some _ _).symm.trans H;with_reducible exact H2_)|with_reducible exact H|(rw [hy294];exact H)|exact H
     have Ny294:=zz hy294
     clear hy294
     have H':=zz H
     clear H
     obtain ⟨Ao6,co6,eo6⟩:=Kd.R_slice HO_0.out
     subst eo6
     have p5:0≤(x5_1:Int):=of_decide_eq_true zq11
     have q5:(x5_1:Int)<((x0_1.length:Int):Int):=of_decide_eq_true zq11
     obtain ⟨go5,co5,eo5,gb5,gl5,cl5,HG5⟩:=Kd.R_form HO_0.out zq5
     (first|cases eo5|(injection eo5 with ea_ en_ ec_;(first|subst ea_|(injection ea_ with ea_;subst ea_));subst ec_;clear en_))
     have GB5:=zz gb5
     have GG5:=zz HG5
     clear gb5 gl5 HG5
     have HMgo5:=zz (show (P0_ go5∨w.heap.size≤go5) from (HO_0.out.1 _ rfl))
     obtain ⟨hx5_0,hf5_0⟩:=Kd.R_celln 0 HO_0.out (x5_1:Int) p5 q5
     replace p5:=eq_true p5
     replace q5:=eq_true q5
     have HP7:=Kd.R_putg HO_0.out (x5_1:Int) x1_1
     go_wp2_with (first|((with_reducible refine zC (t:=3) (p:=15) rfl ?_);refine zca (t:=3) (p:=15) (v:= ?vo_w8) (w1:=(wr.setCell ⟨go5,(x5_1:Int).toNat,none⟩ (.int .i64 x1_1))) ?hg ?ho ?hn ?hr ?_;(case ho=>rfl);(case hg=>rfl);(case hn=>rfl);(case hr=>first|(go_simp;done)|(go_simp;rfl));intro w8 hw;have hg:wr.grownBy w8 (some go5):=(by rw [hw];exact HP7.2);have hp_:Kd.R (Kd.int .i64) 3 w8 w0.heap.size (fun k_=>(P0_ k_∨w.heap.size≤k_)) (.slice (some ⟨go5,0,none⟩) x0_1.length co6) y294:=(by rw [hw,Ny294.out];exact HP7.1);clear HP7;have n0_:=zz (hp_);have n1_:=zz ((by rw [hw];exact zr (HB.out) GB5.out:Below w0.heap.size w0 w8));have n2_:=zz (Kept.of_grown (S:=(fun k_=>P0_ k_)) hg zq18 (fun k_ e_=>(HO_0.out.1 k_ e_)));clear HO_0;clear HB;clear HK;have HO_0:=n0_;have HB:=n1_;have HK:=n2_;clear n0_ n1_ n2_;clear hg hw hp_))
     go_roundg k1
     case measure=>have:=HK1.out;omega
     case rel=>exact ⟨(y294),(wrap64 (x1_1+1)),(wrap64 (x5_1+1)),zq12,zq12,H',⟨by have:=HK1.out;omega⟩,⟨by (with_reducible repeat (first|apply Kd.R_alloc|apply Kd.R_drewN|apply Kd.R_drew));exact HO_0.out⟩,⟨by repeat (first|(with_reducible first|exact HK.out|apply Kept.alloc|apply Kept.drewN|apply Kept.drew)|exact HK.out)⟩,⟨by repeat (first|(with_reducible first|exact HB.out|apply zg|apply zf|apply zm)|exact HB.out)⟩⟩
    ·rw [if_neg c4] at H
     exact absurd H zq15
   ·rw [if_neg c3] at H
    have c3b0:decide (x5_1<(x0_1.length:Int))=false:=decide_eq_false c3
    clear c3
    simp only [Option.some.injEq,Prod.mk.injEq] at H
    obtain ⟨rfl,rfl⟩:=H
    obtain ⟨Ao9,co9,eo9⟩:=Kd.R_slice HO_0.out
    subst eo9
    go_wp2
    go_ret
    exact ⟨by first|rfl|(simp [zx,zw]<;>rfl)|(simp [*,zx,zw]<;>rfl),by (with_reducible repeat (first|apply Kd.R_alloc|apply Kd.R_drewN|apply Kd.R_drew));exact HO_0.out,by repeat (first|(with_reducible first|exact HB.out|apply zg|apply zf|apply zm)|exact HB.out),by repeat (first|(with_reducible first|exact HK.out|apply Kept.alloc|apply Kept.drewN|apply Kept.drew)|exact HK.out)⟩
def laws_heldStringS.l0:Nat→List ByteArray→Int→Int→Option (Int)
 |0,_,_,_=>none
 |k+1,x0,x1,x5=>if x5<(x0.length:Int) then (if 0≤x5 then ((laws_markText.f k x1).bind fun t306=>(if (zLa ByteArray.empty x0 x5).toList=t306.toList then (laws_heldStringS.l0 k x0 (wrap64 (x1+1)) (wrap64 (x5+1))) else (none))) else (none)) else (some x1)
def laws_heldStringS.f (k:Nat) (l0:List ByteArray) (a1:Int):Option (Int):=laws_heldStringS.l0 k l0 a1 0
theorem laws_heldStringS.calls (k:Nat) (A0:Option Addr) (c0:Nat) (l0:List ByteArray) (a1:Int) (r:Int) (w:World) (hr0:Kd.C Kd.string w A0 l0.length l0) (hc0:l0.length≤c0) (h:laws_heldStringS.f k l0 a1=some r):
  Calls Tryz.prog 56 #[.slice A0 l0.length c0,.int .i64 a1] w fun e w'=>e= .returned (.int .i64 r)∧Below w.heap.size w w':=by
 have HR0:=zz hr0
 have HC0:=zz hc0
 clear hr0 hc0
 have HB:=zz (Below.refl w.heap.size w)
 have H:(laws_heldStringS.l0 k l0 a1 0)=some r:=h
 clear h
 have H':=zz H
 clear H
 go_enter Tryz.func56,Tryz.ntmps56
 go_wp2
 go_loopg [1,5] k (fun kq v1 v5 w'=>∃(x1_1:Int) (x5_1:Int),v1= .int .i64 x1_1∧v5= .int .i64 x5_1∧Z0 (laws_heldStringS.l0 kq l0 x1_1 x5_1=some r)∧Z0 (kq≤k)∧Z0 (Below w.heap.size w w'))
 case atStart=>exact ⟨(a1),(0),zq12,zq12,H',⟨Nat.le_refl _⟩,⟨by repeat (first|(with_reducible first|exact HB.out|apply zg|apply zf|apply zm)|exact HB.out)⟩⟩
 case round=>
  clear H'
  obtain ⟨x1_1,x5_1,rfl,rfl,HA,HK1,HB⟩:=hrel
  cases gk with
  |zero=>exact absurd HA.out (by simp [laws_heldStringS.l0])
  |succ k1=>
   have H:=HA.out
   clear HA
   simp only [laws_heldStringS.l0] at H
   by_cases c3:x5_1<(l0.length:Int)
   ·rw [if_pos c3] at H
    have c3b0:decide (x5_1<(l0.length:Int))=true:=decide_eq_true c3
    clear c3
    by_cases c4:0≤x5_1
    ·rw [if_pos c4] at H
     have c4b0:decide (0≤x5_1)=true:=decide_eq_true c4
     clear c4
     replace H:=Option.bind_eq_some_iff.mp H
     obtain ⟨t306,A50,H⟩:=H
     replace H:(if (zLa ByteArray.empty l0 x5_1).toList=t306.toList then (laws_heldStringS.l0 k1 l0 (wrap64 (x1_1+1)) (wrap64 (x5_1+1))) else (none))=some r:=H
     have A5:=zz A50
     clear A50
     by_cases c6:(zLa ByteArray.empty l0 x5_1).toList=t306.toList
     ·rw [if_pos c6] at H
      have c6b0:((zLa ByteArray.empty l0 x5_1).toList==t306.toList)=true:=beq_iff_eq.mpr c6
      have c6b1:((zLa ByteArray.empty l0 x5_1).toList !=t306.toList)=false:=bne_eq_false_iff_eq.mpr c6
      clear c6
      have H':=zz H
      clear H
      try go_wp2
      have n0_:=zz (zm HB.out)
      clear HB
      have HB:=n0_
      clear n0_
      have p305:0≤(x5_1:Int):=of_decide_eq_true zq11
      have q305:x5_1<(l0.length:Int):=of_decide_eq_true zq11
      obtain ⟨ad305,e305,hx305_0⟩:=Kd.at_string HR0.out x5_1 p305 q305
      have hw305_0:=hx305_0
      cases e305
      replace hx305_0:=(HB.out.cell (World.block_lt_of_cell? w _ hx305_0)).trans hx305_0
      replace p305:=eq_true p305
      replace q305:=eq_true q305
      refine zBb (n:=7) (S:=fun w'=>w'.cell? (ad305.add (x5_1).toNat)=some (.string (zLa ByteArray.empty l0 x5_1))) (ds:=[]) #[false,false,false,false,false,false,false] zq7 rfl rfl (((HB.out.cell (World.block_lt_of_cell? w _ hw305_0)).trans hw305_0)) (fun hHeld=> ?_)
      generalize wr.drew=w7 at HB hx305_0 hHeld ⊢
      refine zX (i:=0) (N:=some 12) (v:= ?_) (a':= ?_) #[true,false,false,false,false,false,false] rfl rfl zq7 (fun _ _ _ h=>h) (Or.inl ⟨by rfl,?_⟩) ?_ ?_
      rotate_left
      ·intro w'
       go_simp
       with_reducible rfl
      rotate_left
      ·simp only [Act.put,List.setIfInBounds_toArray,List.set_cons_zero,List.set_cons_succ,zA,zF]
       rfl
      refine zX (i:=1) (N:=some 13) (v:= ?_) (a':= ?_) #[true,true,false,false,false,false,false] rfl rfl zq7 (fun _ _ _ h=>h) (Or.inl ⟨by rfl,?_⟩) ?_ ?_
      rotate_left
      ·intro w'
       go_simp
       with_reducible rfl
      rotate_left
      ·simp only [Act.put,List.setIfInBounds_toArray,List.set_cons_zero,List.set_cons_succ,zA,zF]
       rfl
      refine zX (i:=2) (N:=some 14) (v:= ?_) (a':= ?_) #[true,true,true,false,false,false,false] rfl rfl zq7 (fun _ _ _ h=>h) (Or.inl ⟨by rfl,?_⟩) ?_ ?_
      rotate_left
      ·intro w'
       go_simp
       with_reducible rfl
      rotate_left
      ·simp only [Act.put,List.setIfInBounds_toArray,List.set_cons_zero,List.set_cons_succ,zA,zF]
       rfl
      refine zX (i:=4) (N:=some 16) (v:= ?_) (a':= ?_) #[true,true,true,false,true,false,false] rfl rfl zq7 (fun _ _ _ h=>h) (Or.inl ⟨by rfl,?_⟩) ?_ ?_
      rotate_left
      ·intro w'
       go_simp
       with_reducible rfl
      rotate_left
      ·simp only [Act.put,List.setIfInBounds_toArray,List.set_cons_zero,List.set_cons_succ,zA,zF]
       rfl
      refine take_ (i:=3) (N:=some 15) (v:= ?_) (a':= ?_) #[true,true,true,true,true,false,false] rfl rfl zq7 (fun _ _ _ h=>h) (Or.inl ⟨by rfl,?_⟩) hHeld ?_ ?_
      rotate_left
      ·intro w' s0
       go_simp
       with_reducible rfl
      rotate_left
      ·simp only [Act.put,List.setIfInBounds_toArray,List.set_cons_zero,List.set_cons_succ,zA,zF]
       rfl
      refine one_ (i:=5) (N:=some 17) #[true,true,true,true,true,true,false] rfl rfl zq7 zq14 (fun K hK=> ?_)
      refine goes_ Tryz.func101 zq7 rfl #[.int .i64 x1_1] zq19 rfl rfl zq4 ?_
      with_reducible refine (laws_markText.calls k1 x1_1 t306 _ A5.out).mono ?_
      rintro e w8 ⟨rfl,hb⟩
      refine ⟨_,rfl,?_⟩
      have n0_:=zz (zk zq1 hb)
      clear HB
      have HB:=n0_
      clear n0_
      (try clear hb)
      (try clear hb2)
      (try clear hk)
      (try clear hi)
      refine hK.out _ _ (((HB.out.cell (World.block_lt_of_cell? w _ hw305_0)).trans hw305_0)) (fun hHeld=> ?_)
      clear hK K
      refine zsb (a':= ?_) ?_ ?_
      rotate_left
      ·show Act.put _ (some 17) _=_
       simp only [Act.put,List.setIfInBounds_toArray,List.set_cons_zero,List.set_cons_succ,zA,zF]
       rfl
      refine zX (i:=6) (N:=some 18) (v:= ?_) (a':= ?_) #[true,true,true,true,true,true,true] rfl rfl zq7 (fun _ _ _ h=>h) (Or.inl ⟨by rfl,?_⟩) ?_ ?_
      rotate_left
      ·intro w'
       go_simp
       with_reducible rfl
      rotate_left
      ·simp only [Act.put,List.setIfInBounds_toArray,List.set_cons_zero,List.set_cons_succ,zA,zF]
       rfl
      refine done_ zq7 ?_
      try go_wp2
      go_roundg k1
      case measure=>have:=HK1.out;omega
      case rel=>exact ⟨(wrap64 (x1_1+1)),(wrap64 (x5_1+1)),zq12,zq12,H',⟨by have:=HK1.out;omega⟩,⟨by repeat (first|(with_reducible first|exact HB.out|apply zg|apply zf|apply zm)|exact HB.out)⟩⟩
     ·rw [if_neg c6] at H
      exact absurd H zq15
    ·rw [if_neg c4] at H
     exact absurd H zq15
   ·rw [if_neg c3] at H
    have c3b0:decide (x5_1<(l0.length:Int))=false:=decide_eq_false c3
    clear c3
    obtain rfl:=Option.some.inj H
    go_wp2
    go_ret
    exact ⟨by first|rfl|(simp [zx,zw]<;>rfl)|(simp [*,zx,zw]<;>rfl),by repeat (first|(with_reducible first|exact HB.out|apply zg|apply zf|apply zm)|exact HB.out)⟩
def laws_heldPutS.l0:Nat→List (S110)→Int→Int→Option (Int)
 |0,_,_,_=>none
 |k+1,x0,x1,x5=>if x5<(x0.length:Int) then (if 0≤x5 then (if ((zn x0 x5).f0)=x1 then ((laws_markText.f k (wrap64 (x1+1))).bind fun t309=>(if ((zn x0 x5).f1).toList=t309.toList then (laws_heldPutS.l0 k x0 (wrap64 ((wrap64 (x1+1))+1)) (wrap64 (x5+1))) else (none))) else (none)) else (none)) else (some x1)
def laws_heldPutS.f (k:Nat) (l0:List (S110)) (a1:Int):Option (Int):=laws_heldPutS.l0 k l0 a1 0
def laws_heldPutS.T7:Bool×List (List Nat×List Nat):=(true,[([],[]),([],[]),([0,1],[0,1]),([2],[2]),([3],[3]),([],[]),([5],[5]),([4,6],[4,6])])
def laws_heldPutS.B7:List Nat:=[0,0,3,7,15,0,32,127]
theorem laws_heldPutS.tab7:rtab .any (zkb Tryz.f57 7)=laws_heldPutS.T7:=by kernel_rfl
theorem laws_heldPutS.bits7:zGa laws_heldPutS.T7.2 laws_heldPutS.B7=true:=by kernel_rfl
theorem laws_heldPutS.calls (k:Nat) (A0:Option Addr) (c0:Nat) (l0:List (S110)) (a1:Int) (r:Int) (w:World) (hr0:Kd.C k110 w A0 l0.length l0) (hc0:l0.length≤c0) (h:laws_heldPutS.f k l0 a1=some r):
  Calls Tryz.prog 57 #[.slice A0 l0.length c0,.int .i64 a1] w fun e w'=>e= .returned (.int .i64 r)∧Below w.heap.size w w':=by
 have HR0:=zz hr0
 have HC0:=zz hc0
 clear hr0 hc0
 have HB:=zz (Below.refl w.heap.size w)
 have H:(laws_heldPutS.l0 k l0 a1 0)=some r:=h
 clear h
 have H':=zz H
 clear H
 go_enter Tryz.func57,Tryz.ntmps57
 go_wp2
 go_loopg [1,5] k (fun kq v1 v5 w'=>∃(x1_1:Int) (x5_1:Int),v1= .int .i64 x1_1∧v5= .int .i64 x5_1∧Z0 (laws_heldPutS.l0 kq l0 x1_1 x5_1=some r)∧Z0 (kq≤k)∧Z0 (Below w.heap.size w w'))
 case atStart=>exact ⟨(a1),(0),zq12,zq12,H',⟨Nat.le_refl _⟩,⟨by repeat (first|(with_reducible first|exact HB.out|apply zg|apply zf|apply zm)|exact HB.out)⟩⟩
 case round=>
  clear H'
  obtain ⟨x1_1,x5_1,rfl,rfl,HA,HK1,HB⟩:=hrel
  cases gk with
  |zero=>exact absurd HA.out (by simp [laws_heldPutS.l0])
  |succ k1=>
   have H:=HA.out
   clear HA
   simp only [laws_heldPutS.l0] at H
   by_cases c3:x5_1<(l0.length:Int)
   ·rw [if_pos c3] at H
    have c3b0:decide (x5_1<(l0.length:Int))=true:=decide_eq_true c3
    clear c3
    by_cases c4:0≤x5_1
    ·rw [if_pos c4] at H
     have c4b0:decide (0≤x5_1)=true:=decide_eq_true c4
     clear c4
     by_cases c5:((zn l0 x5_1).f0)=x1_1
     ·rw [if_pos c5] at H
      have c5b0:(((zn l0 x5_1).f0)==x1_1)=true:=beq_iff_eq.mpr c5
      have c5b1:(((zn l0 x5_1).f0) !=x1_1)=false:=bne_eq_false_iff_eq.mpr c5
      clear c5
      replace H:=Option.bind_eq_some_iff.mp H
      obtain ⟨t309,A60,H⟩:=H
      replace H:(if ((zn l0 x5_1).f1).toList=t309.toList then (laws_heldPutS.l0 k1 l0 (wrap64 ((wrap64 (x1_1+1))+1)) (wrap64 (x5_1+1))) else (none))=some r:=H
      have A6:=zz A60
      clear A60
      by_cases c7:((zn l0 x5_1).f1).toList=t309.toList
      ·rw [if_pos c7] at H
       have c7b0:(((zn l0 x5_1).f1).toList==t309.toList)=true:=beq_iff_eq.mpr c7
       have c7b1:(((zn l0 x5_1).f1).toList !=t309.toList)=false:=bne_eq_false_iff_eq.mpr c7
       clear c7
       have H':=zz H
       clear H
       have p307:0≤(x5_1:Int):=of_decide_eq_true zq11
       have q307:x5_1<(l0.length:Int):=of_decide_eq_true zq11
       obtain ⟨ad307,e307,hx307_0,hx307_1⟩:=zla HR0.out x5_1 p307 q307
       cases e307
       replace hx307_0:=(HB.out.cell (World.block_lt_of_cell? w _ hx307_0)).trans hx307_0
       replace hx307_1:=(HB.out.cell (World.block_lt_of_cell? w _ hx307_1)).trans hx307_1
       replace p307:=eq_true p307
       replace q307:=eq_true q307
       try go_wp2
       have n0_:=zz (zm HB.out)
       clear HB
       have HB:=n0_
       clear n0_
       have p308:0≤(x5_1:Int):=of_decide_eq_true zq11
       have q308:x5_1<(l0.length:Int):=of_decide_eq_true zq11
       obtain ⟨ad308,e308,hx308_0,hx308_1⟩:=zla HR0.out x5_1 p308 q308
       have hw308_1:=hx308_1
       have hw308_0:=hx308_0
       obtain rfl:ad307=ad308:=(by injection e308)
       replace hx308_0:=(HB.out.cell (World.block_lt_of_cell? w _ hx308_0)).trans hx308_0
       replace hx308_1:=(HB.out.cell (World.block_lt_of_cell? w _ hx308_1)).trans hx308_1
       replace p308:=eq_true p308
       replace q308:=eq_true q308
       refine zBb (n:=8) (S:=fun w'=>w'.cell? (ad307.add ((x5_1).toNat*2))=some (.int .i64 ((zn l0 x5_1).f0))∧w'.cell? ⟨(ad307.add ((x5_1).toNat*2)).block,(ad307.add ((x5_1).toNat*2)).off+1,none⟩=some (.string ((zn l0 x5_1).f1))) (ds:=[]) #[false,false,false,false,false,false,false,false] zq7 rfl rfl ⟨((HB.out.cell (World.block_lt_of_cell? w _ hw308_0)).trans hw308_0),((HB.out.cell (World.block_lt_of_cell? w _ hw308_1)).trans hw308_1)⟩ (fun hHeld=> ?_);refine zJa laws_heldPutS.tab7 laws_heldPutS.bits7 (fun HT_ HW_=> ?_)
       generalize wr.drew=w8 at HB hx308_0 hx308_1 hHeld ⊢
       refine zX (i:=0) (N:=some 21) (v:= ?_) (a':= ?_) #[true,false,false,false,false,false,false,false] rfl rfl (zP HT_.out zq7) (fun _ _ _ h=>h) (Or.inl ⟨by rfl,?_⟩) ?_ ?_
       rotate_left
       ·intro w'
        go_simp
        with_reducible rfl
       rotate_left
       ·simp only [Act.put,List.setIfInBounds_toArray,List.set_cons_zero,List.set_cons_succ,zA,zF]
        rfl
       refine zX (i:=1) (N:=some 22) (v:= ?_) (a':= ?_) #[true,true,false,false,false,false,false,false] rfl rfl (zP HT_.out zq7) (fun _ _ _ h=>h) (Or.inl ⟨by rfl,?_⟩) ?_ ?_
       rotate_left
       ·intro w'
        go_simp
        with_reducible rfl
       rotate_left
       ·simp only [Act.put,List.setIfInBounds_toArray,List.set_cons_zero,List.set_cons_succ,zA,zF]
        rfl
       refine zX (i:=2) (N:=some 23) (v:= ?_) (a':= ?_) #[true,true,true,false,false,false,false,false] rfl rfl (zP HT_.out zq7) (fun _ _ _ h=>h) (Or.inl ⟨by rfl,?_⟩) ?_ ?_
       rotate_left
       ·intro w'
        go_simp
        with_reducible rfl
       rotate_left
       ·simp only [Act.put,List.setIfInBounds_toArray,List.set_cons_zero,List.set_cons_succ,zA,zF]
        rfl
       refine zX (i:=3) (N:=some 24) (v:= ?_) (a':= ?_) #[true,true,true,true,false,false,false,false] rfl rfl (zP HT_.out zq7) (fun _ _ _ h=>h) (Or.inl ⟨by rfl,?_⟩) ?_ ?_
       rotate_left
       ·intro w'
        go_simp
        with_reducible rfl
       rotate_left
       ·simp only [Act.put,List.setIfInBounds_toArray,List.set_cons_zero,List.set_cons_succ,zA,zF]
        rfl
       refine zX (i:=5) (N:=some 26) (v:= ?_) (a':= ?_) #[true,true,true,true,false,true,false,false] rfl rfl (zP HT_.out zq7) (fun _ _ _ h=>h) (Or.inl ⟨by rfl,?_⟩) ?_ ?_
       rotate_left
       ·intro w'
        go_simp
        with_reducible rfl
       rotate_left
       ·simp only [Act.put,List.setIfInBounds_toArray,List.set_cons_zero,List.set_cons_succ,zA,zF]
        rfl
       refine take_ (i:=4) (N:=some 25) (v:= ?_) (a':= ?_) #[true,true,true,true,true,true,false,false] rfl rfl (zU HT_.out HW_.out zq7) (fun _ _ _ h=>h) (Or.inl ⟨by rfl,?_⟩) hHeld ?_ ?_
       rotate_left
       ·rintro w' ⟨s0,s1⟩
        go_simp
        with_reducible rfl
       rotate_left
       ·simp only [Act.put,List.setIfInBounds_toArray,List.set_cons_zero,List.set_cons_succ,zA,zF]
        rfl
       refine one_ (i:=6) (N:=some 27) #[true,true,true,true,true,true,true,false] rfl rfl (zHa HT_.out zq7) zq14 (fun K hK=> ?_)
       refine goes_ Tryz.func101 zq7 rfl #[.int .i64 (wrap64 (x1_1+1))] zq19 rfl rfl zq4 ?_
       with_reducible refine (laws_markText.calls k1 (wrap64 (x1_1+1)) t309 _ A6.out).mono ?_
       rintro e w9 ⟨rfl,hb⟩
       refine ⟨_,rfl,?_⟩
       have n0_:=zz (zk zq1 hb)
       clear HB
       have HB:=n0_
       clear n0_
       (try clear hb)
       (try clear hb2)
       (try clear hk)
       (try clear hi)
       refine hK.out _ _ ⟨((HB.out.cell (World.block_lt_of_cell? w _ hw308_0)).trans hw308_0),((HB.out.cell (World.block_lt_of_cell? w _ hw308_1)).trans hw308_1)⟩ (fun hHeld=> ?_)
       clear hK K
       refine zsb (a':= ?_) ?_ ?_
       rotate_left
       ·show Act.put _ (some 27) _=_
        simp only [Act.put,List.setIfInBounds_toArray,List.set_cons_zero,List.set_cons_succ,zA,zF]
        rfl
       refine zX (i:=7) (N:=some 28) (v:= ?_) (a':= ?_) #[true,true,true,true,true,true,true,true] rfl rfl (zP HT_.out zq7) (fun _ _ _ h=>h) (Or.inl ⟨by rfl,?_⟩) ?_ ?_
       rotate_left
       ·intro w'
        go_simp
        with_reducible rfl
       rotate_left
       ·simp only [Act.put,List.setIfInBounds_toArray,List.set_cons_zero,List.set_cons_succ,zA,zF]
        rfl
       refine done_ (zwb HT_.out zq7) ?_
       try go_wp2
       go_roundg k1
       case measure=>have:=HK1.out;omega
       case rel=>exact ⟨(wrap64 ((wrap64 (x1_1+1))+1)),(wrap64 (x5_1+1)),zq12,zq12,H',⟨by have:=HK1.out;omega⟩,⟨by repeat (first|(with_reducible first|exact HB.out|apply zg|apply zf|apply zm)|exact HB.out)⟩⟩
      ·rw [if_neg c7] at H
       exact absurd H zq15
     ·rw [if_neg c5] at H
      exact absurd H zq15
    ·rw [if_neg c4] at H
     exact absurd H zq15
   ·rw [if_neg c3] at H
    have c3b0:decide (x5_1<(l0.length:Int))=false:=decide_eq_false c3
    clear c3
    obtain rfl:=Option.some.inj H
    go_wp2
    go_ret
    exact ⟨by first|rfl|(simp [zx,zw]<;>rfl)|(simp [*,zx,zw]<;>rfl),by repeat (first|(with_reducible first|exact HB.out|apply zg|apply zf|apply zm)|exact HB.out)⟩
def laws_heldDisk.f (k:Nat) (l0_0:List ByteArray) (l0_1:List (S110)) (a1:Int):Option (Int):=(laws_heldStringS.f k l0_0 a1).bind fun t311=>(if t311<0 then (none) else ((laws_heldPutS.f k l0_1 t311).bind fun t312=>(if t312<0 then (none) else (some t312))))
theorem laws_heldDisk.calls (k:Nat) (A0_0:Option Addr) (c0_0:Nat) (l0_0:List ByteArray) (A0_1:Option Addr) (c0_1:Nat) (l0_1:List (S110)) (a1:Int) (r:Int) (w:World) (hr0_0:Kd.C Kd.string w A0_0 l0_0.length l0_0) (hc0_0:l0_0.length≤c0_0) (hr0_1:Kd.C k110 w A0_1 l0_1.length l0_1) (hc0_1:l0_1.length≤c0_1) (h:laws_heldDisk.f k l0_0 l0_1 a1=some r):
  Calls Tryz.prog 16 #[.agg #[.slice A0_0 l0_0.length c0_0,.slice A0_1 l0_1.length c0_1],.int .i64 a1] w fun e w'=>e= .returned (.int .i64 r)∧Below w.heap.size w w':=by
 have hu32:=Tryz.underlying37
 have HR0_0:=zz hr0_0
 have HC0_0:=zz hc0_0
 clear hr0_0 hc0_0
 have HR0_1:=zz hr0_1
 have HC0_1:=zz hc0_1
 clear hr0_1 hc0_1
 have HB:=zz (Below.refl w.heap.size w)
 have H:((laws_heldStringS.f k l0_0 a1).bind fun t311=>(if t311<0 then (none) else ((laws_heldPutS.f k l0_1 t311).bind fun t312=>(if t312<0 then (none) else (some t312)))))=some r:=h
 clear h
 replace H:=Option.bind_eq_some_iff.mp H
 obtain ⟨t311,A30,H⟩:=H
 replace H:(if t311<0 then (none) else ((laws_heldPutS.f k l0_1 t311).bind fun t312=>(if t312<0 then (none) else (some t312))))=some r:=H
 have A3:=zz A30
 clear A30
 by_cases c4:t311<0
 ·rw [if_pos c4] at H
  exact absurd H zq15
 ·rw [if_neg c4] at H
  have c4b0:decide (t311<0)=false:=decide_eq_false c4
  clear c4
  replace H:=Option.bind_eq_some_iff.mp H
  obtain ⟨t312,A50,H⟩:=H
  replace H:(if t312<0 then (none) else (some t312))=some r:=H
  have A5:=zz A50
  clear A50
  by_cases c6:t312<0
  ·rw [if_pos c6] at H
   exact absurd H zq15
  ·rw [if_neg c6] at H
   have c6b0:decide (t312<0)=false:=decide_eq_false c6
   clear c6
   obtain rfl:=Option.some.inj H
   go_enter Tryz.func16,Tryz.ntmps16
   go_wp2_with (first|((with_reducible refine zv (N:=2) rfl ?_);refine zE ?hg (N:=2) ?hd (cs:= #[.slice A0_0 l0_0.length c0_0,.slice A0_1 l0_1.length c0_1]) (t:=37) ?hr ?_;(case hd=>rfl);(case hg=>rfl);(case hr=>first|(go_simp;done)|(go_simp;rfl));intro gb310 hg w7 hbox hb;have n0_:=zz (zk zq1 hb);have n1_:=zz (hbox);have n2_:=zz ((by rw [hg];exact (zi zq1):w.heap.size≤gb310));have n3_:=zz ((by rw [hg];exact (zi zq1):w.heap.size≤gb310));clear HB;have HB:=n0_;have BK310:=n1_;have GW310:=n2_;have GE310:=n3_;clear n0_ n1_ n2_ n3_;clear hb hbox hg;have hcz8_0:w7.cell? ⟨gb310,0,none⟩=some (.slice A0_0 l0_0.length c0_0):=(ze BK310.out 0).trans rfl;have hcz8_1:w7.cell? ⟨gb310,1,none⟩=some (.slice A0_1 l0_1.length c0_1):=(ze BK310.out 1).trans rfl;have hfz8_0:=zd BK310.out 0;have hfz8_1:=zd BK310.out 1)|((with_reducible refine zB (f:=56) rfl ?_);refine zO (some 8) rfl rfl Tryz.func56 zq7 rfl #[.slice A0_0 l0_0.length c0_0,.int .i64 a1] rfl zq4 ?_;(with_reducible refine (laws_heldStringS.calls k _ _ l0_0 a1 t311 _ ?side1 ?side2 A3.out).mono ?_);(case side1=>repeat (first|exact (Kd.C_below HR0_0.out HB.out)|(with_reducible refine Kd.C_alloc ?_ _)|(with_reducible refine Kd.C_drewN ?_ _)|(with_reducible refine Kd.C_drew ?_)));(case side2=>exact HC0_0.out);rintro e w9 ⟨rfl,hb⟩;refine ⟨_,rfl,?_⟩;have n0_:=zz (zu (g:=gb310) (o:= .cells #[.slice A0_0 l0_0.length c0_0,.slice A0_1 l0_1.length c0_1] 37 (0,0)) (zq0 BK310.out) hb);have n1_:=zz (zk (zq3 GE310.out) hb);clear BK310;clear HB;have BK310:=n0_;have HB:=n1_;clear n0_ n1_;(try clear hb);(try clear hb2);(try clear hk);(try clear hi);have hcz10_0:w9.cell? ⟨gb310,0,none⟩=some (.slice A0_0 l0_0.length c0_0):=(ze BK310.out 0).trans rfl;have hcz10_1:w9.cell? ⟨gb310,1,none⟩=some (.slice A0_1 l0_1.length c0_1):=(ze BK310.out 1).trans rfl;have hfz10_0:=zd BK310.out 0;have hfz10_1:=zd BK310.out 1)|((with_reducible refine zB (f:=57) rfl ?_);refine zO (some 14) rfl rfl Tryz.func57 zq7 rfl #[.slice A0_1 l0_1.length c0_1,.int .i64 t311] rfl zq4 ?_;(with_reducible refine (laws_heldPutS.calls k _ _ l0_1 t311 t312 _ ?side1 ?side2 A5.out).mono ?_);(case side1=>repeat (first|exact (Kd.C_below HR0_1.out HB.out)|(with_reducible refine Kd.C_alloc ?_ _)|(with_reducible refine Kd.C_drewN ?_ _)|(with_reducible refine Kd.C_drew ?_)));(case side2=>exact HC0_1.out);rintro e w11 ⟨rfl,hb⟩;refine ⟨_,rfl,?_⟩;have n0_:=zz (zu (g:=gb310) (o:= .cells #[.slice A0_0 l0_0.length c0_0,.slice A0_1 l0_1.length c0_1] 37 (0,0)) (zq0 BK310.out) hb);have n1_:=zz (zk (zq3 GE310.out) hb);clear BK310;clear HB;have BK310:=n0_;have HB:=n1_;clear n0_ n1_;(try clear hb);(try clear hb2);(try clear hk);(try clear hi)))
   go_ret
   exact ⟨by first|rfl|(simp [zx,zw]<;>rfl)|(simp [*,zx,zw]<;>rfl),by repeat (first|(with_reducible first|exact HB.out|apply zg|apply zf|apply zm|refine zr ?_ GE310.out)|exact HB.out)⟩
def laws_heldIntS.l0:Nat→List Int→Int→Int→Option (Int)
 |0,_,_,_=>none
 |k+1,x0,x1,x5=>if x5<(x0.length:Int) then (if 0≤x5 then (if (rd x0 x5)=x1 then (laws_heldIntS.l0 k x0 (wrap64 (x1+1)) (wrap64 (x5+1))) else (none)) else (none)) else (some x1)
def laws_heldIntS.f (k:Nat) (l0:List Int) (a1:Int):Option (Int):=laws_heldIntS.l0 k l0 a1 0
end Go.Proofs.YtonhdiemjgdcnaaGreat.PFnExactGivePage
namespace Go.Proofs.YtonhdiemjgdcnaaGreat.PFnExactGivePage
open Go.RowKit Go.Proofs.YtonhdiemjgdcnaaGreatW.PrintWords Go.Proofs.YtonhdiemjgdcnaaGreatW.PrintLast Go.Proofs.YtonhdiemjgdcnaaGreatW.PrintMore
attribute [local go_sem] zba zga zoa zna zW zV zfa zea
theorem rdOf_nat {α:Type} (d:α) (xs:List α) (k:Nat) (hk:k<xs.length):zLa d xs (k:Int)=xs[k]:=by
 simp [zLa,List.getD_eq_getElem?_getD,List.getElem?_eq_getElem hk]
theorem rd_nat (xs:List Int) (k:Nat) (hk:k<xs.length):rd xs (k:Int)=xs[k]:=by
 simp [rd,List.getD_eq_getElem?_getD,List.getElem?_eq_getElem hk]
theorem rd_T110_nat (xs:List S110) (k:Nat) (hk:k<xs.length):zn xs (k:Int)=xs[k]:=by
 simp [zn,List.getD_eq_getElem?_getD,List.getElem?_eq_getElem hk]
theorem rd_T156_nat (xs:List S156) (k:Nat) (hk:k<xs.length):zxa xs (k:Int)=xs[k]:=by
 simp [zxa,List.getD_eq_getElem?_getD,List.getElem?_eq_getElem hk]
theorem zM {x:Int} (h1: -9223372036854775808≤x) (h2:x≤9223372036854775807):wrap64 x=x:=by unfold wrap64;omega
theorem szS_go (l:List ByteArray) (hs:∀s∈l,s.size≤9223372036854775807) (hl:l.length≤9223372036854775807):∀(n i:Nat) (x:Int),i+n=l.length→0≤x→x≤1048576→∃r,laws_szStringS.l0 (n+1) l x (i:Int)=some r∧(r<0∨(0≤r∧r≤x∧∀j (hj:j<l.length),i≤j→(l[j].size:Int)≤x)):=by
 intro n
 induction n with
 |zero=>
  intro i x hi h0 h1
  refine ⟨x,?_,.inr ⟨h0,Int.le_refl _,fun j hj h=>by omega⟩⟩
  rw [laws_szStringS.l0,if_neg zq5]
 |succ n ih=>
  intro i x hi h0 h1
  have hlt:i<l.length:=by omega
  have hsz:=hs l[i] (List.getElem_mem hlt)
  rw [laws_szStringS.l0,if_pos zq5,if_pos zq5,rdOf_nat _ _ _ hlt,zM zq5 zq5,zM zq5 zq5]
  by_cases hneg:x-(l[i].size:Int)<0
  ·rw [if_pos hneg]
   exact ⟨-1,rfl,.inl zq5⟩
  ·rw [if_neg hneg]
   obtain ⟨r,h2,h3⟩:=ih (i+1) (x-(l[i].size:Int)) zq5 zq5 zq5
   refine ⟨r,by rw [show (i:Int)+1=((i+1:Nat):Int) by omega];exact h2,?_⟩
   rcases h3 with h3|⟨h4,h5,h6⟩
   ·exact .inl h3
   ·refine .inr ⟨h4,by omega,fun j hj h=> ?_⟩
    by_cases e:j=i
    ·subst e;omega
    ·have:=h6 j hj zq5;omega
theorem szS_ev (l:List ByteArray) (hs:∀s∈l,s.size≤9223372036854775807) (hl:l.length≤9223372036854775807) (x:Int) (h0:0≤x) (h1:x≤1048576):∃r,Ev (fun k=>laws_szStringS.f k l x) r∧(r<0∨(0≤r∧r≤x∧(l.length:Int)≤x∧∀s∈l,(s.size:Int)≤x)):=by
 by_cases hneg:x-(l.length:Int)<0
 ·refine ⟨-1,Ev.of (k:=0) (fun k=>laws_szStringS.mono _ _ k) ?_,.inl zq5⟩
  unfold laws_szStringS.f
  rw [zM zq5 zq5,if_pos hneg]
 ·obtain ⟨r,h2,h3⟩:=szS_go l hs hl l.length 0 (x-(l.length:Int)) zq5 zq5 zq5
  refine ⟨r,Ev.of (k:=l.length+1) (fun k=>laws_szStringS.mono _ _ k) ?_,?_⟩
  ·unfold laws_szStringS.f
   rw [zM zq5 zq5,if_neg hneg]
   exact h2
  ·rcases h3 with h3|⟨h4,h5,h6⟩
   ·exact .inl h3
   ·refine .inr ⟨h4,by omega,by omega,fun s hs=> ?_⟩
    obtain ⟨j,hj,rfl⟩:=List.getElem_of_mem hs
    have:=h6 j hj (Nat.zero_le _)
    omega
theorem szP_go (l:List S156) (hs:∀s∈l,s.f1.size≤9223372036854775807) (hl:l.length≤9223372036854775807):∀(n i:Nat) (x:Int),i+n=l.length→0≤x→x≤1048576→∃r,laws_szPutS.l0 (n+1) l x (i:Int)=some r∧(r<0∨(0≤r∧r≤x∧∀j (hj:j<l.length),i≤j→(l[j].f1.size:Int)≤x)):=by
 intro n
 induction n with
 |zero=>
  intro i x hi h0 h1
  refine ⟨x,?_,.inr ⟨h0,Int.le_refl _,fun j hj h=>by omega⟩⟩
  rw [laws_szPutS.l0,if_neg zq5]
 |succ n ih=>
  intro i x hi h0 h1
  have hlt:i<l.length:=by omega
  have hsz:=hs l[i] (List.getElem_mem hlt)
  rw [laws_szPutS.l0,if_pos zq5,if_pos zq5,rd_T156_nat _ _ hlt,laws_szPut.f,zM (x:=x-_) zq5 zq5,zM (x:=(i:Int)+1) zq5 zq5]
  by_cases hneg:x-(l[i].f1.size:Int)<0
  ·rw [if_pos hneg,Option.bind_some,if_pos zq5]
   exact ⟨-1,rfl,.inl zq5⟩
  ·rw [if_neg hneg,Option.bind_some,if_neg hneg]
   obtain ⟨r,h2,h3⟩:=ih (i+1) (x-(l[i].f1.size:Int)) zq5 zq5 zq5
   refine ⟨r,by rw [show (i:Int)+1=((i+1:Nat):Int) by omega];exact h2,?_⟩
   rcases h3 with h3|⟨h4,h5,h6⟩
   ·exact .inl h3
   ·refine .inr ⟨h4,by omega,fun j hj h=> ?_⟩
    by_cases e:j=i
    ·subst e;omega
    ·have:=h6 j hj zq5;omega
theorem szP_ev (l:List S156) (hs:∀s∈l,s.f1.size≤9223372036854775807) (hl:l.length≤9223372036854775807) (x:Int) (h0:0≤x) (h1:x≤1048576):∃r,Ev (fun k=>laws_szPutS.f k l x) r∧(r<0∨(0≤r∧r≤x∧(l.length:Int)≤x∧∀s∈l,(s.f1.size:Int)≤x)):=by
 by_cases hneg:x-(l.length:Int)<0
 ·refine ⟨-1,Ev.of (k:=0) (fun k=>laws_szPutS.mono _ _ k) ?_,.inl zq5⟩
  unfold laws_szPutS.f
  rw [zM zq5 zq5,if_pos hneg]
 ·obtain ⟨r,h2,h3⟩:=szP_go l hs hl l.length 0 (x-(l.length:Int)) zq5 zq5 zq5
  refine ⟨r,Ev.of (k:=l.length+1) (fun k=>laws_szPutS.mono _ _ k) ?_,?_⟩
  ·unfold laws_szPutS.f
   rw [zM zq5 zq5,if_neg hneg]
   exact h2
  ·rcases h3 with h3|⟨h4,h5,h6⟩
   ·exact .inl h3
   ·refine .inr ⟨h4,by omega,by omega,fun s hs=> ?_⟩
    obtain ⟨j,hj,rfl⟩:=List.getElem_of_mem hs
    have:=h6 j hj (Nat.zero_le _)
    omega
def Small (pages:List ByteArray) (late:List S156):Prop:=(pages.length≤1048576∧∀s∈pages,s.size≤1048576)∧(late.length≤1048576∧∀s∈late,s.f1.size≤1048576)
theorem set_front {α:Type} (l r:List α) (x y:α):(l++x::r).set l.length y=(l++[y])++r:=by
 rw [List.set_append_right _ _ (Nat.le_refl _),Nat.sub_self,List.set_cons_zero,List.append_assoc,List.singleton_append]
theorem toS_go (l:List ByteArray) (hl:l.length≤1048576):∀(n i:Nat),i+n=l.length→laws_toStringS.l0 (n+1) l (l.take i++List.replicate n (⟨#[]⟩:ByteArray)) (i:Int)=some l:=by
 intro n
 induction n with
 |zero=>
  intro i hi
  rw [laws_toStringS.l0,if_neg zq5,List.replicate_zero,List.append_nil,List.take_of_length_le zq5]
 |succ n ih=>
  intro i hi
  have hlt:i<l.length:=by omega
  have hti:(l.take i).length=i:=by rw [List.length_take];omega
  rw [laws_toStringS.l0,if_pos zq5,if_pos zq5,if_pos zq51,rdOf_nat _ _ _ hlt,zM zq5 zq5,Int.toNat_natCast,List.replicate_succ]
  have:=set_front (l.take i) (List.replicate n (⟨#[]⟩:ByteArray)) ⟨#[]⟩ l[i]
  rw [hti] at this
  rw [this,List.take_append_getElem hlt,show (i:Int)+1=((i+1:Nat):Int) by omega]
  exact ih (i+1) zq5
theorem toS_ev (l:List ByteArray) (hl:l.length≤1048576):Ev (fun k=>laws_toStringS.f k l) l:=by
 refine Ev.of (k:=l.length+1) (fun k=>laws_toStringS.mono _ k) ?_
 unfold laws_toStringS.f
 rw [if_pos zq5,if_pos zq59,Int.toNat_natCast]
 have:=toS_go l hl l.length 0 zq5
 simpa using this
def conv (x:S156):S110:=⟨x.f0,x.f1⟩
theorem toP_go (l:List S156) (hl:l.length≤1048576):∀(n i:Nat),i+n=l.length→laws_toPutS.l0 (n+1) l ((l.map conv).take i++List.replicate n z110) (i:Int)=some (l.map conv):=by
 intro n
 induction n with
 |zero=>
  intro i hi
  rw [laws_toPutS.l0,if_neg zq5,List.replicate_zero,List.append_nil,List.take_of_length_le (by rw [List.length_map];omega)]
 |succ n ih=>
  intro i hi
  have hlt:i<l.length:=by omega
  have hlt':i<(l.map conv).length:=by rw [List.length_map];exact hlt
  have hti:((l.map conv).take i).length=i:=by rw [List.length_take,List.length_map];omega
  rw [laws_toPutS.l0,if_pos zq5,if_pos zq5,rd_T156_nat _ _ hlt,laws_toPut.f,Option.bind_some,if_pos zq51,zM zq5 zq5,Int.toNat_natCast,List.replicate_succ]
  have:=set_front ((l.map conv).take i) (List.replicate n z110) z110 (conv l[i])
  rw [hti] at this
  show laws_toPutS.l0 (n+1) l (((l.map conv).take i++z110::List.replicate n z110).set i (conv l[i])) _=_
  rw [this,show conv l[i]=(l.map conv)[i] by rw [List.getElem_map],List.take_append_getElem hlt',show (i:Int)+1=((i+1:Nat):Int) by omega]
  exact ih (i+1) zq5
theorem toP_ev (l:List S156) (hl:l.length≤1048576):Ev (fun k=>laws_toPutS.f k l) (l.map conv):=by
 refine Ev.of (k:=l.length+1) (fun k=>laws_toPutS.mono _ k) ?_
 unfold laws_toPutS.f
 rw [if_pos zq5,if_pos zq59,Int.toNat_natCast]
 have:=toP_go l hl l.length 0 zq5
 simpa using this
theorem toD_ev (pages:List ByteArray) (late:List S156) (h:Small pages late):Ev (fun k=>laws_toDisk.f k pages late) (pages,late.map conv):=
 Ev.bind (toS_ev pages h.1.1) (Ev.bind (toP_ev late h.2.1) (Ev.now _))
theorem eqS_go (l:List ByteArray) (hl:l.length≤2000000):∀(n i:Nat),i+n=l.length→laws_eqStringS.l0 (n+1) l l (i:Int)=some true:=by
 intro n
 induction n with
 |zero=>intro i hi;rw [laws_eqStringS.l0,if_neg zq5]
 |succ n ih=>
  intro i hi
  rw [laws_eqStringS.l0,if_pos zq5,if_pos zq5,if_pos zq5,if_pos rfl,zM zq5 zq5,show (i:Int)+1=((i+1:Nat):Int) by omega]
  exact ih (i+1) zq5
theorem eqP_go (l:List S110) (hl:l.length≤2000000):∀(n i:Nat),i+n=l.length→laws_eqPutS.l0 (n+1) l l (i:Int)=some true:=by
 intro n
 induction n with
 |zero=>intro i hi;rw [laws_eqPutS.l0,if_neg zq5]
 |succ n ih=>
  intro i hi
  rw [laws_eqPutS.l0,if_pos zq5,if_pos zq5,if_pos zq5,laws_eqPut.f,if_pos rfl,if_pos rfl,Option.bind_some,if_pos rfl,zM zq5 zq5,show (i:Int)+1=((i+1:Nat):Int) by omega]
  exact ih (i+1) zq5
theorem eqD_ev (pages:List ByteArray) (late:List S110) (h1:pages.length≤2000000) (h2:late.length≤2000000):Ev (fun k=>laws_eqDisk.f k pages late pages late) true:=by
 refine Ev.bind (a:=true) (Ev.of (k:=pages.length+1) (fun k=>laws_eqStringS.mono _ _ k) ?_) ?_
 ·unfold laws_eqStringS.f
  rw [if_pos rfl]
  exact eqS_go pages h1 pages.length 0 zq5
 ·simp only [if_true]
  refine Ev.bind (a:=true) (Ev.of (k:=late.length+1) (fun k=>laws_eqPutS.mono _ _ k) ?_) ?_
  ·unfold laws_eqPutS.f
   rw [if_pos rfl]
   exact eqP_go late h2 late.length 0 zq5
  ·simp only [if_true]
   exact Ev.now _
theorem eqI_go (l:List Int) (hl:l.length≤2000000):∀(n i:Nat),i+n=l.length→laws_eqIntS.l0 (n+1) l l (i:Int)=some true:=by
 intro n
 induction n with
 |zero=>intro i hi;rw [laws_eqIntS.l0,if_neg zq5]
 |succ n ih=>
  intro i hi
  rw [laws_eqIntS.l0,if_pos zq5,if_pos zq5,if_pos zq5,if_pos rfl,zM zq5 zq5,show (i:Int)+1=((i+1:Nat):Int) by omega]
  exact ih (i+1) zq5
theorem eqI_ev (l:List Int) (hl:l.length≤2000000):Ev (fun k=>laws_eqIntS.f k l l) true:=by
 refine Ev.of (k:=l.length+1) (fun k=>laws_eqIntS.mono _ _ k) ?_
 unfold laws_eqIntS.f
 rw [if_pos rfl]
 exact eqI_go l hl l.length 0 zq5
theorem toI_go (l:List Int) (hl:l.length≤1048576):∀(n i:Nat),i+n=l.length→laws_toIntS.l0 (n+1) l (l.take i++List.replicate n 0) (i:Int)=some l:=by
 intro n
 induction n with
 |zero=>
  intro i hi
  rw [laws_toIntS.l0,if_neg zq5,List.replicate_zero,List.append_nil,List.take_of_length_le zq5]
 |succ n ih=>
  intro i hi
  have hlt:i<l.length:=by omega
  have hti:(l.take i).length=i:=by rw [List.length_take];omega
  rw [laws_toIntS.l0,if_pos zq5,if_pos zq5,if_pos zq51,rd_nat _ _ hlt,zM zq5 zq5,Int.toNat_natCast,List.replicate_succ]
  have:=set_front (l.take i) (List.replicate n (0:Int)) 0 l[i]
  rw [hti] at this
  rw [this,List.take_append_getElem hlt,show (i:Int)+1=((i+1:Nat):Int) by omega]
  exact ih (i+1) zq5
theorem toI_ev (l:List Int) (hl:l.length≤1048576):Ev (fun k=>laws_toIntS.f k l) l:=by
 refine Ev.of (k:=l.length+1) (fun k=>laws_toIntS.mono _ k) ?_
 unfold laws_toIntS.f
 rw [if_pos zq5,if_pos zq59,Int.toNat_natCast]
 have:=toI_go l hl l.length 0 zq5
 simpa using this
theorem mt_go:∀(n:Nat) (a:Int) (x:ByteArray),0≤a→a<10^n→a≤9223372036854775807→x.size+n≤1000→∃t,laws_markText.l0 (n+1) a x=some t:=by
 intro n
 induction n with
 |zero=>
  intro a x h0 h1 _ h2
  rw [laws_markText.l0,if_neg zq5,if_pos zq5]
  exact ⟨_,rfl⟩
 |succ n ih=>
  intro a x h0 h1 hb h2
  by_cases ha:a>0
  ·rw [laws_markText.l0,if_pos ha,Option.bind_some,if_pos (by rw [strOfNums_size];simp;omega)]
   have e:wrap64 (Int.tdiv a 10)=a/10:=by rw [Int.tdiv_eq_ediv_of_nonneg h0];exact zM zq5 zq5
   rw [e]
   refine ih (a/10) _ zq5 ?_ zq5 ?_
   ·rw [Int.pow_succ] at h1
    omega
   ·rw [ByteArray.size_append,strOfNums_size]
    simp
    omega
  ·rw [laws_markText.l0,if_neg ha,if_pos zq5]
   exact ⟨_,rfl⟩
theorem mt_ex (a:Int) (h0:0<a) (h1:a≤4000000000000000000):∃t,Ev (fun k=>laws_markText.f k a) t:=by
 obtain ⟨t,ht⟩:=mt_go 19 a ⟨#[]⟩ zq5 (by have:(10:Int)^19=10000000000000000000:=zq14;omega) zq5 zq14
 refine ⟨t,Ev.of (k:=20) (fun k=>laws_markText.mono _ k) ?_⟩
 unfold laws_markText.f
 rw [if_neg zq5]
 exact ht
open Classical in
noncomputable def mt (a:Int):ByteArray:=if h:∃t,Ev (fun k=>laws_markText.f k a) t then Classical.choose h else ⟨#[]⟩
theorem mt_ev (a:Int) (h0:0<a) (h1:a≤4000000000000000000):Ev (fun k=>laws_markText.f k a) (mt a):=by
 unfold mt
 rw [dif_pos (mt_ex a h0 h1)]
 exact Classical.choose_spec (mt_ex a h0 h1)
def INd (pages:List ByteArray) (late:List S156):Prop:=(∀s∈pages,s.size≤9223372036854775807)∧pages.length≤9223372036854775807∧(∀s∈late,s.f1.size≤9223372036854775807)∧late.length≤9223372036854775807
theorem szDx (pages:List ByteArray) (late:List S156) (h:INd pages late) (x:Int) (h0:0≤x) (hx:x≤1048576):∃r,Ev (fun k=>laws_szDisk.f k pages late x) r∧(r<0∨(0≤r∧r≤x∧Small pages late)):=by
 obtain ⟨h1,h2,h3,h4⟩:=h
 obtain ⟨a,ea,ha⟩:=szS_ev pages h1 h2 x h0 hx
 rcases ha with ha|⟨a0,a1,a2,a3⟩
 ·exact ⟨-1,Ev.bind ea (by simp only [if_pos ha];exact Ev.now _),.inl zq5⟩
 ·obtain ⟨b,eb,hb⟩:=szP_ev late h3 h4 a a0 zq5
  rcases hb with hb|⟨b0,b1,b2,b3⟩
  ·exact ⟨-1,Ev.bind ea (by simp only [if_neg (show ¬a<0 by omega)];exact Ev.bind eb (by simp only [if_pos hb];exact Ev.now _)),.inl zq5⟩
  ·exact ⟨b,Ev.bind ea (by simp only [if_neg (show ¬a<0 by omega)];exact Ev.bind eb (by simp only [if_neg (show ¬b<0 by omega)];exact Ev.now _)),.inr ⟨b0,by omega,⟨by omega,fun s hs=>by have:=a3 s hs;omega⟩,⟨by omega,fun s hs=>by have:=b3 s hs;omega⟩⟩⟩
theorem szIx (l:List Int) (hl:l.length≤9223372036854775807) (x:Int) (h0:0≤x) (hx:x≤1048576):∃r,Ev (fun _=>laws_szIntS.f l x) r∧(r<0∨(0≤r∧r≤x∧l.length≤1048576)):=by
 unfold laws_szIntS.f
 rw [zM zq5 zq5]
 by_cases h:x-(l.length:Int)<0
 ·exact ⟨-1,by rw [if_pos h];exact Ev.now _,.inl zq5⟩
 ·exact ⟨_,by rw [if_neg h];exact Ev.now _,.inr ⟨by omega,by omega,by omega⟩⟩
theorem sz_step {A:Nat→Option Int} {F:Nat→Int→Option Int} {x:Int} {P Q:Prop} (hA:∃r,Ev A r∧(r<0∨(0≤r∧r≤x∧P))) (hF:∀y,0≤y→y≤x→∃r,Ev (fun k=>F k y) r∧(r<0∨(0≤r∧r≤y∧Q))):∃r,Ev (fun k=>(A k).bind fun t=>if t<0 then some (-1) else F k t) r∧(r<0∨(0≤r∧r≤x∧P∧Q)):=by
 obtain ⟨a,ea,ha⟩:=hA
 rcases ha with ha|⟨a0,a1,a2⟩
 ·exact ⟨-1,Ev.bind ea (by simp only [if_pos ha];exact Ev.now _),.inl zq5⟩
 ·obtain ⟨b,eb,hb⟩:=hF a a0 a1
  refine ⟨b,Ev.bind ea (by simp only [if_neg (show ¬a<0 by omega)];exact eb),?_⟩
  rcases hb with hb|⟨b0,b1,b2⟩
  ·exact .inl hb
  ·exact .inr ⟨b0,by omega,a2,b2⟩
theorem sz_end {A:Nat→Option Int} {x:Int} {P:Prop} (hA:∃r,Ev A r∧(r<0∨(0≤r∧r≤x∧P))):∃r,Ev (fun k=>(A k).bind fun t=>if t<0 then some (-1) else some t) r∧(r<0∨(0≤r∧r≤x∧P)):=by
 obtain ⟨a,ea,ha⟩:=hA
 rcases ha with ha|⟨a0,a1,a2⟩
 ·exact ⟨-1,Ev.bind ea (by simp only [if_pos ha];exact Ev.now _),.inl zq5⟩
 ·exact ⟨a,Ev.bind ea (by simp only [if_neg (show ¬a<0 by omega)];exact Ev.now _),.inr ⟨a0,a1,a2⟩⟩
def INi (l:List Int):Prop:=l.length≤9223372036854775807
theorem szWx (pages:List ByteArray) (late:List S156) (n:Int) (u g f:List Int) (hd:INd pages late) (hu:INi u) (hg:INi g) (hf:INi f) (x:Int) (h0:0≤x) (hx:x≤1048576):∃r,Ev (fun k=>laws_szWork.f k pages late n u g f x) r∧(r<0∨(0≤r∧r≤x∧Small pages late∧u.length≤1048576∧g.length≤1048576∧f.length≤1048576)):=by
 unfold laws_szWork.f
 exact sz_step (szDx pages late hd x h0 hx) fun y y0 y1=>sz_step (szIx u hu y y0 zq5) fun z z0 z1=>sz_step (szIx g hg z z0 zq5) fun t t0 t1=>sz_end (szIx f hf t t0 zq5)
theorem rd135 (xs:List S110) (i:Nat) (h:i<xs.length):zn xs (i:Int)=xs[i]:=rd_T110_nat xs i h
theorem mhS:∀(n i:Nat) (l:List ByteArray) (a:Int),i+n=l.length→0<a→a+n<4000000000000000000→l.length≤2000000→∃l',Ev (fun k=>laws_markStringS.l0 k l a (i:Int)) (a+n,l')∧l'.length=l.length∧(∀j,j<i→l'[j]?=l[j]?)∧Ev (fun k=>laws_heldStringS.l0 k l' a (i:Int)) (a+n):=by
 intro n
 induction n with
 |zero=>
  intro i l a hi h0 h1 hl
  refine ⟨l,Ev.step (f:=fun _=>some (a+((0:Nat):Int),l)) (fun k=> ?_) (Ev.now _),rfl,fun _ _=>rfl,Ev.step (f:=fun _=>some (a+((0:Nat):Int))) (fun k=> ?_) (Ev.now _)⟩
  ·rw [laws_markStringS.l0,if_neg zq5]
   simp
  ·rw [laws_heldStringS.l0,if_neg zq5]
   simp
 |succ n ih=>
  intro i l a hi h0 h1 hl
  obtain ⟨l',e1,e2,e3,e4⟩:=ih (i+1) (l.set i (mt a)) (a+1) zq54 zq5 zq5 (by rw [List.length_set];exact hl)
  rw [List.length_set] at e2
  have hat:l'[i]?=some (mt a):=by rw [e3 i (Nat.lt_succ_self i),List.getElem?_set_self zq5]
  have hlt:i<l'.length:=by omega
  have hget:l'[i]=mt a:=by rw [List.getElem?_eq_getElem hlt] at hat;exact Option.some.inj hat
  have hn:a+1+(n:Int)=a+((n+1:Nat):Int):=by omega
  rw [hn] at e1 e4
  refine ⟨l',Ev.step (f:=fun k=>(laws_markText.f k a).bind fun t=>laws_markStringS.l0 k (l.set i t) (a+1) ((i+1:Nat):Int)) (fun k=> ?_) (Ev.bind (mt_ev a h0 zq5) e1),e2,fun j hj=> ?_,Ev.step (f:=fun k=>(laws_markText.f k a).bind fun t=>if (mt a).toList=t.toList then laws_heldStringS.l0 k l' (a+1) ((i+1:Nat):Int) else none) (fun k=> ?_) (Ev.bind (mt_ev a h0 zq5) (by simp only [if_true];exact e4))⟩
  ·rw [laws_markStringS.l0,if_pos zq5]
   congr 1
   funext t
   rw [if_pos zq5,zM zq5 zq5,zM zq5 zq5,Int.toNat_natCast]
   rfl
  ·rw [e3 j zq5,List.getElem?_set_ne zq5]
  ·rw [laws_heldStringS.l0,if_pos zq5,if_pos zq5,rdOf_nat _ _ _ hlt,hget,zM (x:=a+1) zq5 zq5,zM (x:=(i:Int)+1) zq5 zq5]
   rfl
theorem mhP:∀(n i:Nat) (l:List S110) (a:Int),i+n=l.length→0<a→a+2*n<4000000000000000000→l.length≤2000000→∃l',Ev (fun k=>laws_markPutS.l0 k l a (i:Int)) (a+2*n,l')∧l'.length=l.length∧(∀j,j<i→l'[j]?=l[j]?)∧Ev (fun k=>laws_heldPutS.l0 k l' a (i:Int)) (a+2*n):=by
 intro n
 induction n with
 |zero=>
  intro i l a hi h0 h1 hl
  refine ⟨l,Ev.step (f:=fun _=>some (a+2*((0:Nat):Int),l)) (fun k=> ?_) (Ev.now _),rfl,fun _ _=>rfl,Ev.step (f:=fun _=>some (a+2*((0:Nat):Int))) (fun k=> ?_) (Ev.now _)⟩
  ·rw [laws_markPutS.l0,if_neg zq5]
   simp
  ·rw [laws_heldPutS.l0,if_neg zq5]
   simp
 |succ n ih=>
  intro i l a hi h0 h1 hl
  obtain ⟨l1,hl1⟩:∃z,z=l.set i (⟨a,(zn l i).f1⟩:S110):=⟨_,rfl⟩
  have hs:l1.length=l.length:=by rw [hl1,List.length_set]
  have h10:(zn l1 i).f0=a:=by
   rw [rd135 l1 i zq5]
   simp [hl1]
  obtain ⟨l',e1,e2,e3,e4⟩:=ih (i+1) (l1.set i (⟨a,mt (a+1)⟩:S110)) (a+2) (by rw [List.length_set,hs];omega) zq5 zq5 (by rw [List.length_set,hs];exact hl)
  rw [List.length_set,hs] at e2
  have hlt:i<l'.length:=by omega
  have hat:l'[i]?=some (⟨a,mt (a+1)⟩:S110):=by rw [e3 i (Nat.lt_succ_self i),List.getElem?_set_self zq5]
  have hget:l'[i]=(⟨a,mt (a+1)⟩:S110):=by rw [List.getElem?_eq_getElem hlt] at hat;exact Option.some.inj hat
  have hn:a+2+2*(n:Int)=a+2*((n+1:Nat):Int):=by omega
  rw [hn] at e1 e4
  refine ⟨l',Ev.step (f:=fun k=>(laws_markText.f k (a+1)).bind fun t=>laws_markPutS.l0 k (l1.set i (⟨a,t⟩:S110)) (a+2) ((i+1:Nat):Int)) (fun k=> ?_) (Ev.bind (mt_ev (a+1) zq5 zq5) e1),e2,fun j hj=> ?_,Ev.step (f:=fun k=>(laws_markText.f k (a+1)).bind fun t=>if (mt (a+1)).toList=t.toList then laws_heldPutS.l0 k l' (a+2) ((i+1:Nat):Int) else none) (fun k=> ?_) (Ev.bind (mt_ev (a+1) zq5 zq5) (by simp only [if_true];exact e4))⟩
  ·rw [laws_markPutS.l0,if_pos zq5,if_pos zq5,Option.bind_some,Int.toNat_natCast,←hl1,h10,zM (x:=a+1) zq5 zq5,zM (x:=a+1+1) zq5 zq5,zM (x:=(i:Int)+1) zq5 zq5,show a+1+1=a+2 by omega]
   rfl
  ·rw [e3 j zq5,List.getElem?_set_ne zq5,hl1,List.getElem?_set_ne zq5]
  ·rw [laws_heldPutS.l0,if_pos zq5,if_pos zq5,rd135 _ _ hlt,hget,if_pos rfl,zM (x:=a+1) zq5 zq5,zM (x:=a+1+1) zq5 zq5,zM (x:=(i:Int)+1) zq5 zq5,show a+1+1=a+2 by omega]
   rfl
theorem mhI:∀(n i:Nat) (l:List Int) (a:Int),i+n=l.length→0<a→a+n<4000000000000000000→l.length≤2000000→∃l',Ev (fun k=>laws_markIntS.l0 k l a (i:Int)) (a+n,l')∧l'.length=l.length∧(∀j,j<i→l'[j]?=l[j]?)∧Ev (fun k=>laws_heldIntS.l0 k l' a (i:Int)) (a+n):=by
 intro n
 induction n with
 |zero=>
  intro i l a hi h0 h1 hl
  refine ⟨l,Ev.step (f:=fun _=>some (a+((0:Nat):Int),l)) (fun k=> ?_) (Ev.now _),rfl,fun _ _=>rfl,Ev.step (f:=fun _=>some (a+((0:Nat):Int))) (fun k=> ?_) (Ev.now _)⟩
  ·rw [laws_markIntS.l0,if_neg zq5]
   simp
  ·rw [laws_heldIntS.l0,if_neg zq5]
   simp
 |succ n ih=>
  intro i l a hi h0 h1 hl
  obtain ⟨l',e1,e2,e3,e4⟩:=ih (i+1) (l.set i a) (a+1) zq54 zq5 zq5 (by rw [List.length_set];exact hl)
  rw [List.length_set] at e2
  have hat:l'[i]?=some a:=by rw [e3 i (Nat.lt_succ_self i),List.getElem?_set_self zq5]
  have hlt:i<l'.length:=by omega
  have hget:l'[i]=a:=by rw [List.getElem?_eq_getElem hlt] at hat;exact Option.some.inj hat
  have hn:a+1+(n:Int)=a+((n+1:Nat):Int):=by omega
  rw [hn] at e1 e4
  refine ⟨l',Ev.step (f:=fun k=>laws_markIntS.l0 k (l.set i a) (a+1) ((i+1:Nat):Int)) (fun k=> ?_) e1,e2,fun j hj=> ?_,Ev.step (f:=fun k=>laws_heldIntS.l0 k l' (a+1) ((i+1:Nat):Int)) (fun k=> ?_) e4⟩
  ·rw [laws_markIntS.l0,if_pos zq5,if_pos zq5,zM zq5 zq5,zM zq5 zq5,Int.toNat_natCast]
   rfl
  ·rw [e3 j zq5,List.getElem?_set_ne zq5]
  ·rw [laws_heldIntS.l0,if_pos zq5,if_pos zq5,rd_nat _ _ hlt,hget,if_pos rfl,zM (x:=a+1) zq5 zq5,zM (x:=(i:Int)+1) zq5 zq5]
   rfl
theorem mhI_ev (l:List Int) (a:Int) (h0:0<a) (h1:a+l.length<4000000000000000000) (hl:l.length≤2000000):∃l',Ev (fun k=>laws_markIntS.f k l a) (a+l.length,l')∧Ev (fun k=>laws_heldIntS.f k l' a) (a+l.length):=by
 obtain ⟨l',e1,_,_,e4⟩:=mhI l.length 0 l a zq5 h0 h1 hl
 exact ⟨l',e1,e4⟩
theorem mhD_ev (p:List ByteArray) (q:List S110) (a:Int) (h0:0<a) (h1:a+10000000<4000000000000000000) (hp:p.length≤2000000) (hq:q.length≤2000000):∃p' q',Ev (fun k=>laws_markDisk.f k p q a) (a+p.length+2*q.length,p',q')∧Ev (fun k=>laws_heldDisk.f k p' q' a) (a+p.length+2*q.length):=by
 obtain ⟨p',e1,_,_,e4⟩:=mhS p.length 0 p a zq5 h0 zq5 hp
 obtain ⟨q',g1,_,_,g4⟩:=mhP q.length 0 q (a+p.length) zq5 zq5 zq5 hq
 refine ⟨p',q',Ev.bind e1 (Ev.bind g1 (Ev.now _)),?_⟩
 refine Ev.bind e4 ?_
 simp only [if_neg (show ¬a+(p.length:Int)<0 by omega)]
 refine Ev.bind g4 ?_
 simp only [if_neg (show ¬a+(p.length:Int)+2*(q.length:Int)<0 by omega)]
 exact Ev.now _
end Go.Proofs.YtonhdiemjgdcnaaGreat.PFnExactGivePage
namespace Go.Proofs.YtonhdiemjgdcnaaGreat.Own
open Go.RowKit Go.Proofs.YtonhdiemjgdcnaaGreatW.PrintWords Go.Proofs.YtonhdiemjgdcnaaGreatW.PrintLast Go.Proofs.YtonhdiemjgdcnaaGreatW.PrintMore
theorem tagQ {α:Type} {d:Kd α} {f:Nat→Nat} {e base:Nat} {w:World} {ok:Nat→Prop} {v:Value} {xs:List α} (h:(Kd.tag f d).Q e w base ok v xs.zipIdx):d.Q e w base ok v xs:=by
 obtain ⟨h0,inner,ho,hr⟩:=h
 rw [List.length_zipIdx] at ho
 exact ⟨h0,inner,ho,by have:=hr.1;rw [List.length_zipIdx] at this;exact this,fun j p hj=>d.M_mono (fun _ hk=>⟨hk.1.1,hk.1.2⟩) (hr.2 j (p,j) (Kd.zip_at hj))⟩
def apair {α β:Type} (a:Kd α) (b:Kd β):Kd (α×β) where
 sz:=a.sz+b.sz
 E:=a.E++b.E
 K:=fun w x cs=>∃c0 c1,cs=c0++c1∧a.K w x.1 c0∧b.K w x.2 c1
 M:=fun w base ok x cs=>∃c0 c1,∃f:Nat→Bool,cs=c0++c1∧a.M w base (fun k=>ok k∧f k=true) x.1 c0∧b.M w base (fun k=>ok k∧f k=false) x.2 c1
 K_len:=by
  rintro w x cs ⟨c0,c1,rfl,h0,h1⟩
  rw [List.length_append,a.K_len h0,b.K_len h1]
 K_one:=by
  rintro w x cs ⟨c0,c1,rfl,h0,h1⟩ u hu
  rcases List.mem_append.1 hu with hu|hu
  ·exact a.K_one h0 u hu
  ·exact b.K_one h1 u hu
 K_below:=by
  rintro w w1 x cs hb ⟨c0,c1,rfl,h0,h1⟩
  exact ⟨c0,c1,rfl,a.K_below hb h0,b.K_below hb h1⟩
 K_of_M:=by
  rintro w base ok x cs ⟨c0,c1,f,rfl,h0,h1⟩
  exact ⟨c0,c1,rfl,a.K_of_M h0,b.K_of_M h1⟩
 M_mono:=by
  rintro w base ok ok' x cs hok ⟨c0,c1,f,rfl,h0,h1⟩
  exact ⟨c0,c1,f,rfl,a.M_mono (fun k hk=>⟨hok k hk.1,hk.2⟩) h0,b.M_mono (fun k hk=>⟨hok k hk.1,hk.2⟩) h1⟩
 M_bound:=by
  rintro w base ok x cs ⟨c0,c1,f,rfl,h0,h1⟩
  refine ⟨c0,c1,f,rfl,a.M_mono ?_ (a.M_bound h0),b.M_mono ?_ (b.M_bound h1)⟩
  ·rintro k ⟨⟨h2,h2'⟩,h3,h4,q,hq,hc⟩
   exact ⟨⟨h2,h3,h4,q,List.mem_append_left _ hq,hc⟩,h2'⟩
  ·rintro k ⟨⟨h2,h2'⟩,h3,h4,q,hq,hc⟩
   exact ⟨⟨h2,h3,h4,q,List.mem_append_right _ hq,hc⟩,h2'⟩
 M_move:=by
  rintro w w1 base ok x cs hm ⟨c0,c1,f,rfl,h0,h1⟩
  exact ⟨c0,c1,f,rfl,a.M_move (fun k hk=>hm k hk.1) h0,b.M_move (fun k hk=>hm k hk.1) h1⟩
 M_lower:=by
  rintro w base base' ok x cs hb ⟨c0,c1,f,rfl,h0,h1⟩
  exact ⟨c0,c1,f,rfl,a.M_lower hb h0,b.M_lower hb h1⟩
def arow {α:Type} (e:Nat) (d:Kd α):Kd (List α) where
 sz:=1
 E:=e::d.E
 K:=fun w xs cs=>∃A c,cs=[.slice A xs.length c]∧xs.length≤c∧d.C w A xs.length xs
 M:=fun w base ok xs cs=>∃v,∃f:Nat→Nat,cs=[v]∧(Kd.tag f d).Q e w base ok v xs.zipIdx
 K_len:=by
  rintro w x cs ⟨A,c,rfl,_⟩
  rfl
 K_one:=by
  rintro w x cs ⟨A,c,rfl,_⟩ u hu
  rw [List.mem_singleton.1 hu]
  rfl
 K_below:=by
  rintro w w1 x cs hb ⟨A,c,rfl,hl,hr⟩
  exact ⟨A,c,rfl,hl,Kd.C_below hr hb⟩
 K_of_M:=by
  rintro w base ok x cs ⟨v,f,rfl,h⟩
  obtain ⟨A,c,rfl,hl,hr⟩:=Kd.Q_reads (tagQ h)
  exact ⟨A,c,rfl,hl,hr⟩
 M_mono:=by
  rintro w base ok ok' x cs hok ⟨v,f,rfl,h⟩
  exact ⟨v,f,rfl,Kd.Q_mono h hok⟩
 M_bound:=by
  rintro w base ok x cs ⟨v,f,rfl,h⟩
  exact ⟨v,f,rfl,Kd.Q_bound h⟩
 M_move:=by
  rintro w w1 base ok x cs hm ⟨v,f,rfl,h⟩
  exact ⟨v,f,rfl,Kd.Q_move h hm⟩
 M_lower:=by
  rintro w base base' ok x cs hb ⟨v,f,rfl,h⟩
  exact ⟨v,f,rfl,Kd.Q_lower h hb⟩
theorem flatM {α:Type} {d:Kd α} (hE:d.E=[]) {w:World} {base:Nat} {ok ok':Nat→Prop} {x:α} {cs:List Value} (h:d.M w base ok x cs):d.M w base ok' x cs:=
 d.M_mono (fun k hk=>by
  obtain ⟨_,_,_,q,hq,_⟩:=hk
  rw [hE] at hq
  cases hq) (d.M_bound h)
theorem arow_of_Q {α:Type} {d:Kd α} (hE:d.E=[]) {e base:Nat} {w:World} {ok:Nat→Prop} {v:Value} {xs:List α} (h:d.Q e w base ok v xs):(arow e d).M w base ok xs [v]:=by
 obtain ⟨h0,inner,ho,hr⟩:=h
 refine ⟨v,fun _=>0,rfl,h0,inner,by rw [List.length_zipIdx];exact ho,by rw [List.length_zipIdx];exact hr.1,fun j p hj=> ?_⟩
 rw [List.getElem?_zipIdx] at hj
 obtain ⟨a,ha,rfl⟩:=Option.map_eq_some_iff.1 hj
 exact flatM hE (hr.2 j a ha)
theorem arow_of_S {α:Type} {d:Kd α} {e base:Nat} {w:World} {ok:Nat→Prop} {v:Value} {xs:List α} (h:Kd.S d e w base ok v xs):(arow e d).M w base ok xs [v]:=by
 obtain ⟨f,h⟩:=h
 exact ⟨v,f,rfl,Kd.Q_of_R h⟩
def srow {α:Type} (e:Nat) (d:Kd α):Kd (List α) where
 sz:=1
 E:=e::d.E
 K:=fun w xs cs=>∃A c,cs=[.slice A xs.length c]∧xs.length≤c∧d.C w A xs.length xs
 M:=fun w base ok xs cs=>∃v,cs=[v]∧Kd.S d e w base ok v xs
 K_len:=by
  rintro w x cs ⟨A,c,rfl,_⟩
  rfl
 K_one:=by
  rintro w x cs ⟨A,c,rfl,_⟩ u hu
  rw [List.mem_singleton.1 hu]
  rfl
 K_below:=by
  rintro w w1 x cs hb ⟨A,c,rfl,hl,hr⟩
  exact ⟨A,c,rfl,hl,Kd.C_below hr hb⟩
 K_of_M:=by
  rintro w base ok x cs ⟨v,rfl,h⟩
  obtain ⟨A,c,rfl,hl,hr⟩:=Kd.R_reads (Kd.S_R h)
  exact ⟨A,c,rfl,hl,hr⟩
 M_mono:=by
  rintro w base ok ok' x cs hok ⟨v,rfl,h⟩
  exact ⟨v,rfl,Kd.S_mono h hok⟩
 M_bound:=by
  rintro w base ok x cs ⟨v,rfl,h⟩
  exact ⟨v,rfl,Kd.S_bound h⟩
 M_move:=by
  rintro w w1 base ok x cs hm ⟨v,rfl,h⟩
  exact ⟨v,rfl,Kd.S_move h hm⟩
 M_lower:=by
  rintro w base base' ok x cs hb ⟨v,rfl,h⟩
  exact ⟨v,rfl,Kd.S_lower h hb⟩
theorem srow_of_R {α:Type} {d:Kd α} (hE:d.E=[]) {e base:Nat} {w:World} {ok:Nat→Prop} {v:Value} {xs:List α} (h:d.R e w base ok v xs):(srow e d).M w base (fun k=>some k=v.ownBlock) xs [v]:=by
 refine ⟨v,rfl,fun _=>0,?_⟩
 obtain ⟨h0,inner,ho,hr⟩:=Kd.R_tight hE h
 refine ⟨h0,inner,by rw [List.length_zipIdx];exact ho,by rw [List.length_zipIdx];exact hr.1,fun j p hj=> ?_⟩
 rw [List.getElem?_zipIdx] at hj
 obtain ⟨a,ha,rfl⟩:=Option.map_eq_some_iff.1 hj
 exact flatM hE (hr.2 j a ha)
theorem Q_tight {α:Type} {d:Kd α} (hE:d.E=[]) {e base:Nat} {w:World} {ok:Nat→Prop} {v:Value} {xs:List α} (h:d.Q e w base ok v xs):d.Q e w base (fun k=>some k=v.ownBlock) v xs:=by
 obtain ⟨h0,inner,ho,hr⟩:=h
 exact ⟨fun k hk=>hk.symm,inner,ho,hr.imp_ (fun p c hp=>flatM hE hp)⟩
open Classical in
theorem apair_mk {α β:Type} {a:Kd α} {b:Kd β} {w:World} {base:Nat} {ok okA okB:Nat→Prop} {x:α} {y:β} {c0 c1:List Value} (ha:a.M w base okA x c0) (hb:b.M w base okB y c1) (hA:∀k,okA k→ok k) (hB:∀k,okB k→ok k) (hd:∀k,okA k→¬okB k):
  (apair a b).M w base ok (x,y) (c0++c1):=by
 refine ⟨c0,c1,fun k=>decide (okA k),rfl,a.M_mono (fun k hk=>⟨hA k hk,decide_eq_true hk⟩) ha,b.M_mono (fun k hk=>⟨hB k hk,decide_eq_false (fun h=>hd k h hk)⟩) hb⟩
theorem apair_open {α β:Type} {a:Kd α} {b:Kd β} {w:World} {base:Nat} {ok:Nat→Prop} {x:α} {y:β} {cs:List Value} (h:(apair a b).M w base ok (x,y) cs):
  ∃c0 c1,∃okA okB:Nat→Prop,cs=c0++c1∧a.M w base okA x c0∧b.M w base okB y c1∧(∀k,okA k→ok k)∧(∀k,okB k→ok k)∧(∀k,okA k→¬okB k):=by
 obtain ⟨c0,c1,f,rfl,ha,hb⟩:=h
 exact ⟨c0,c1,_,_,rfl,ha,hb,fun k hk=>hk.1,fun k hk=>hk.1,fun k hk h2=>by have h1:=hk.2;rw [h2.2] at h1;cases h1⟩
theorem R_tightB {α:Type} {d:Kd α} (hE:d.E=[]) {e base:Nat} {w:World} {ok:Nat→Prop} {v:Value} {xs:List α} (h:d.R e w base ok v xs):d.R e w base (fun k=>some k=v.ownBlock) v xs∧(∀k,some k=v.ownBlock→base≤k∧k<w.heap.size)∧(∀k,some k=v.ownBlock→∃cells,w.heap[k]?=some (.cells cells e (0,0))):=
 ⟨Kd.R_tight hE h,fun k hk=>⟨Kd.R_base h k hk.symm,Kd.R_lt h k hk.symm⟩,fun k hk=>Kd.R_typed h k hk.symm⟩
theorem types_ne {w:World} {p q:Nat→Prop} {e e':Nat} (h:∀k,p k→∃cells,w.heap[k]?=some (.cells cells e (0,0))) (h':∀k,q k→∃cells,w.heap[k]?=some (.cells cells e' (0,0))) (hn:e≠e'):∀k,p k→¬q k:=by
 intro k hp hq
 obtain ⟨c,hc⟩:=h k hp
 obtain ⟨c',hc'⟩:=h' k hq
 rw [hc] at hc'
 injection hc' with hc'
 injection hc' with _ hc'
 exact hn hc'
theorem R_tight2 {α:Type} {d:Kd α} (hE:d.E=[]) {e base:Nat} {w:World} {ok P:Nat→Prop} {v:Value} {xs:List α} (h:d.R e w base ok v xs) (hP:∀k,v.ownBlock=some k→P k):d.R e w base P v xs:=Kd.R_mono (Kd.R_tight hE h) (fun k hk=>hP k hk.symm)
theorem Q_tight2 {α:Type} {d:Kd α} (hE:d.E=[]) {e base:Nat} {w:World} {ok P:Nat→Prop} {v:Value} {xs:List α} (h:d.Q e w base ok v xs) (hP:∀k,v.ownBlock=some k→P k):d.Q e w base P v xs:=Kd.Q_mono (Q_tight hE h) (fun k hk=>hP k hk.symm)
theorem below_more {w0 w:World} (h:Below w0.heap.size w0 w) (o:Obj):Below w0.heap.size w0 (w.alloc o):=zg h o
end Go.Proofs.YtonhdiemjgdcnaaGreat.Own
namespace Go.Proofs.YtonhdiemjgdcnaaGreat.PFnExactGivePage
open Go.RowKit Go.Proofs.YtonhdiemjgdcnaaGreatW.PrintWords Go.Proofs.YtonhdiemjgdcnaaGreatW.PrintLast Go.Proofs.YtonhdiemjgdcnaaGreatW.PrintMore
attribute [local go_sem] zba zga zoa zna zW zV zfa zea
theorem info112:(Tryz.prog.info? 112).map (fun i=>(i.zero,i.size,i.bytes))=some (some (.agg #[(.int .i64 0),(.slice none 0 0)]),2,32):=by kernel_rfl
structure S112 where
 f0:Int
 f1:(List Int)
def z112:S112:=⟨(0:Int),([]:List Int)⟩
def k112:Kd S112:=Kd.iso (Kd.pair (Kd.int .i64) (Kd.slice 3 (Kd.int .i64))) (fun x:S112=>(x.f0,x.f1))
theorem k112_open {w:World} {x:S112} {cs:List Value} (h:k112.K w x cs):∃A1 c1,cs=[.int .i64 x.f0,.slice A1 x.f1.length c1]∧x.f1.length≤c1∧(Kd.int .i64).C w A1 x.f1.length x.f1:=by
 obtain ⟨_,_,rfl,rfl,⟨A1,c1,rfl,l1,g1⟩⟩:=h
 exact ⟨A1,c1,rfl,l1,g1⟩
theorem k112_openM {w:World} {base:Nat} {ok:Nat→Prop} {x:S112} {cs:List Value} (h:k112.M w base ok x cs):∃v1,cs=[.int .i64 x.f0,v1]∧(Kd.int .i64).R 3 w base ok v1 x.f1:=by
 obtain ⟨_,_,rfl,rfl,⟨v1,rfl,g1⟩⟩:=h
 exact ⟨v1,rfl,g1⟩
theorem zDb (w:World) (base:Nat) (ok:Nat→Prop) (x:S112) {v1:Value} (g1:(Kd.int .i64).R 3 w base ok v1 x.f1):k112.M w base ok x [.int .i64 x.f0,v1]:=⟨[.int .i64 x.f0],[v1],rfl,rfl,⟨v1,rfl,g1⟩⟩
def zS (xs:List S112) (i:Int):S112:=xs.getD i.toNat z112
theorem at_T112 {w:World} {A:Option Addr} {n:Nat} {xs:List S112} (h:Kd.C k112 w A n xs) (i:Int) (h0:0≤i) (h1:i<n):∃ad A1 c1,A=some ad∧w.cell? (ad.add (i.toNat*2))=some (.int .i64 (zS xs i).f0)∧w.cell? ⟨(ad.add (i.toNat*2)).block,(ad.add (i.toNat*2)).off+1,none⟩=some (.slice A1 (zS xs i).f1.length c1)∧(zS xs i).f1.length≤c1∧(Kd.int .i64).C w A1 (zS xs i).f1.length (zS xs i).f1:=by
 obtain ⟨ad,c,e,_,hK,hc0⟩:=Kd.C_get h z112 i h0 h1
 have hc:∀j u,c[j]?=some u→w.cell? (ad.add (i.toNat*2+j))=some u:=hc0
 obtain ⟨A1,c1,rfl,l1,g1⟩:=k112_open hK
 exact ⟨ad,A1,c1,e,hc 0 _ rfl,by rw [←add_field _ _ 1 zq5];exact hc 1 _ rfl,l1,g1⟩
structure S40 where
 f0:Int
 f1:Int
 f2:Int
 f3:(List S112)
def k40:Kd S40:=Kd.iso (Kd.pair (Kd.int .i64) (Kd.pair (Kd.int .i64) (Kd.pair (Kd.int .i64) (Own.srow 112 k112)))) (fun x:S40=>(x.f0,x.f1,x.f2,x.f3))
theorem zMa {w:World} {x:S40} {cs:List Value} (h:k40.K w x cs):∃A3 c3,cs=[.int .i64 x.f0,.int .i64 x.f1,.int .i64 x.f2,.slice A3 x.f3.length c3]∧x.f3.length≤c3∧k112.C w A3 x.f3.length x.f3:=by
 obtain ⟨_,_,rfl,rfl,⟨_,_,rfl,rfl,⟨_,_,rfl,rfl,⟨A3,c3,rfl,l3,g3⟩⟩⟩⟩:=h
 exact ⟨A3,c3,rfl,l3,g3⟩
theorem k40_openM {w:World} {base:Nat} {ok:Nat→Prop} {x:S40} {cs:List Value} (h:k40.M w base ok x cs):∃v3,cs=[.int .i64 x.f0,.int .i64 x.f1,.int .i64 x.f2,v3]∧Kd.S k112 112 w base ok v3 x.f3:=by
 obtain ⟨_,_,rfl,rfl,⟨_,_,rfl,rfl,⟨_,_,rfl,rfl,⟨v3,rfl,g3⟩⟩⟩⟩:=h
 exact ⟨v3,rfl,g3⟩
theorem k40_mk (w:World) (x:S40) {A3:Option Addr} {c3:Nat} (l3:x.f3.length≤c3) (g3:k112.C w A3 x.f3.length x.f3):k40.K w x [.int .i64 x.f0,.int .i64 x.f1,.int .i64 x.f2,.slice A3 x.f3.length c3]:=⟨[.int .i64 x.f0],[.int .i64 x.f1,.int .i64 x.f2,.slice A3 x.f3.length c3],rfl,rfl,⟨[.int .i64 x.f1],[.int .i64 x.f2,.slice A3 x.f3.length c3],rfl,rfl,⟨[.int .i64 x.f2],[.slice A3 x.f3.length c3],rfl,rfl,⟨A3,c3,rfl,l3,g3⟩⟩⟩⟩
theorem zyb (w:World) (base:Nat) (ok:Nat→Prop) (x:S40) {v3:Value} (g3:Kd.S k112 112 w base ok v3 x.f3):k40.M w base ok x [.int .i64 x.f0,.int .i64 x.f1,.int .i64 x.f2,v3]:=⟨[.int .i64 x.f0],[.int .i64 x.f1,.int .i64 x.f2,v3],rfl,rfl,⟨[.int .i64 x.f1],[.int .i64 x.f2,v3],rfl,rfl,⟨[.int .i64 x.f2],[v3],rfl,rfl,⟨v3,rfl,g3⟩⟩⟩⟩
structure S140 where
 f0:Int
 f1:(List Int)
def z140:S140:=⟨(0:Int),([]:List Int)⟩
def k140:Kd S140:=Kd.iso (Kd.pair (Kd.int .i64) (Kd.slice 3 (Kd.int .i64))) (fun x:S140=>(x.f0,x.f1))
theorem k140_open {w:World} {x:S140} {cs:List Value} (h:k140.K w x cs):∃A1 c1,cs=[.int .i64 x.f0,.slice A1 x.f1.length c1]∧x.f1.length≤c1∧(Kd.int .i64).C w A1 x.f1.length x.f1:=by
 obtain ⟨_,_,rfl,rfl,⟨A1,c1,rfl,l1,g1⟩⟩:=h
 exact ⟨A1,c1,rfl,l1,g1⟩
def zpa (xs:List S140) (i:Int):S140:=xs.getD i.toNat z140
theorem at_T140 {w:World} {A:Option Addr} {n:Nat} {xs:List S140} (h:Kd.C k140 w A n xs) (i:Int) (h0:0≤i) (h1:i<n):∃ad A1 c1,A=some ad∧w.cell? (ad.add (i.toNat*2))=some (.int .i64 (zpa xs i).f0)∧w.cell? ⟨(ad.add (i.toNat*2)).block,(ad.add (i.toNat*2)).off+1,none⟩=some (.slice A1 (zpa xs i).f1.length c1)∧(zpa xs i).f1.length≤c1∧(Kd.int .i64).C w A1 (zpa xs i).f1.length (zpa xs i).f1:=by
 obtain ⟨ad,c,e,_,hK,hc0⟩:=Kd.C_get h z140 i h0 h1
 have hc:∀j u,c[j]?=some u→w.cell? (ad.add (i.toNat*2+j))=some u:=hc0
 obtain ⟨A1,c1,rfl,l1,g1⟩:=k140_open hK
 exact ⟨ad,A1,c1,e,hc 0 _ rfl,by rw [←add_field _ _ 1 zq5];exact hc 1 _ rfl,l1,g1⟩
structure S24 where
 f0:Int
 f1:Int
 f2:Int
 f3:(List S140)
def k24:Kd S24:=Kd.iso (Kd.pair (Kd.int .i64) (Kd.pair (Kd.int .i64) (Kd.pair (Kd.int .i64) (Kd.slice 140 k140)))) (fun x:S24=>(x.f0,x.f1,x.f2,x.f3))
theorem k24_open {w:World} {x:S24} {cs:List Value} (h:k24.K w x cs):∃A3 c3,cs=[.int .i64 x.f0,.int .i64 x.f1,.int .i64 x.f2,.slice A3 x.f3.length c3]∧x.f3.length≤c3∧k140.C w A3 x.f3.length x.f3:=by
 obtain ⟨_,_,rfl,rfl,⟨_,_,rfl,rfl,⟨_,_,rfl,rfl,⟨A3,c3,rfl,l3,g3⟩⟩⟩⟩:=h
 exact ⟨A3,c3,rfl,l3,g3⟩
structure S28 where
 f0:(List ByteArray)
 f1:(List S156)
def z28:S28:=⟨([]:List ByteArray),([]:List S156)⟩
def laws_toFree.f (k:Nat) (a0_0:Int) (l0_1:List Int):Option (Int×List Int):=(laws_toIntS.f k l0_1).bind fun t277=>(some (a0_0,t277))
theorem laws_toFree.calls (k:Nat) (a0_0:Int) (A0_1:Option Addr) (c0_1:Nat) (l0_1:List Int) (r1:Int) (r2:List Int) (w:World) (hr0_1:Kd.C (Kd.int .i64) w A0_1 l0_1.length l0_1) (hc0_1:l0_1.length≤c0_1) (h:laws_toFree.f k a0_0 l0_1=some (r1,r2)):
  Calls Tryz.prog 117 #[.agg #[.int .i64 a0_0,.slice A0_1 l0_1.length c0_1]] w fun e w'=>∃v1_:Value,e= .returned (.agg #[.int .i64 r1,v1_])∧Kd.R (Kd.int .i64) 3 w' w.heap.size (fun _=>True) v1_ r2∧Below w.heap.size w w':=by
 have hu183:=Tryz.underlying140
 have hu122:=Tryz.underlying112
 have HR0_1:=zz hr0_1
 have HC0_1:=zz hc0_1
 clear hr0_1 hc0_1
 have HB:=zz (Below.refl w.heap.size w)
 have H:((laws_toIntS.f k l0_1).bind fun t277=>(some (a0_0,t277)))=some (r1,r2):=h
 clear h
 replace H:=Option.bind_eq_some_iff.mp H
 obtain ⟨t277,A20,H⟩:=H
 replace H:(some (a0_0,t277))=some (r1,r2):=H
 have A2:=zz A20
 clear A20
 simp only [Option.some.injEq,Prod.mk.injEq] at H
 obtain ⟨rfl,rfl⟩:=H
 go_enter Tryz.func117,Tryz.ntmps117
 go_wp2_with (first|((with_reducible refine zv (N:=1) rfl ?_);refine zE ?hg (N:=1) ?hd (cs:= #[.int .i64 a0_0,.slice A0_1 l0_1.length c0_1]) (t:=140) ?hr ?_;(case hd=>rfl);(case hg=>rfl);(case hr=>first|(go_simp;done)|(go_simp;rfl));intro gb274 hg w3 hbox hb;have n0_:=zz (zk zq1 hb);have n1_:=zz (hbox);have n2_:=zz ((by rw [hg];exact (zi zq1):w.heap.size≤gb274));have n3_:=zz ((by rw [hg];exact (zi zq1):w.heap.size≤gb274));clear HB;have HB:=n0_;have BK274:=n1_;have GW274:=n2_;have GE274:=n3_;clear n0_ n1_ n2_ n3_;clear hb hbox hg)|((with_reducible refine zv (N:=2) rfl ?_);refine zE ?hg (N:=2) ?hd (cs:= #[.int .i64 0,.slice none 0 0]) (t:=112) ?hr ?_;(case hd=>rfl);(case hg=>rfl);(case hr=>first|(go_simp;done)|(go_simp;rfl));intro gb275 hg w4 hbox hb;have n0_:=zz (zu (g:=gb274) (o:= .cells #[.int .i64 a0_0,.slice A0_1 l0_1.length c0_1] 140 (0,0)) (zq0 BK274.out) hb);have n1_:=zz (zk (zq3 GE274.out) hb);have n2_:=zz (hbox);have n3_:=zz ((by rw [hg];exact (zi (zq3 GE274.out)):w.heap.size≤gb275));have n4_:=zz ((by rw [hg];exact (zi (zq3 GE274.out)):w.heap.size≤gb275));have n5_:=zz ((by rw [hg];exact Nat.ne_of_lt (zG (g:=gb274) (o:= .cells #[.int .i64 a0_0,.slice A0_1 l0_1.length c0_1] 140 (0,0)) (zq0 BK274.out)):gb274≠gb275));have n6_:=zz ((by rw [hg];exact Nat.ne_of_gt (zG (g:=gb274) (o:= .cells #[.int .i64 a0_0,.slice A0_1 l0_1.length c0_1] 140 (0,0)) (zq0 BK274.out)):gb275≠gb274));clear BK274;clear HB;have BK274:=n0_;have HB:=n1_;have BK275:=n2_;have GW275:=n3_;have GE275:=n4_;have NB274_275:=n5_;have NB275_274:=n6_;clear n0_ n1_ n2_ n3_ n4_ n5_ n6_;clear hb hbox hg)|((with_reducible refine zv (N:=3) rfl ?_);refine zE ?hg (N:=3) ?hd (cs:= #[.int .i64 0,.slice none 0 0]) (t:=112) ?hr ?_;(case hd=>rfl);(case hg=>rfl);(case hr=>first|(go_simp;done)|(go_simp;rfl));intro gb276 hg w5 hbox hb;have n0_:=zz (zu (g:=gb274) (o:= .cells #[.int .i64 a0_0,.slice A0_1 l0_1.length c0_1] 140 (0,0)) (zq0 BK274.out) hb);have n1_:=zz (zu (g:=gb275) (o:= .cells #[.int .i64 0,.slice none 0 0] 112 (0,0)) (zq0 BK275.out) hb);have n2_:=zz (zk (zq2 GE274.out GE275.out) hb);have n3_:=zz (hbox);have n4_:=zz ((by rw [hg];exact (zi (zq2 GE274.out GE275.out)):w.heap.size≤gb276));have n5_:=zz ((by rw [hg];exact (zi (zq2 GE274.out GE275.out)):w.heap.size≤gb276));have n6_:=zz ((by rw [hg];exact Nat.ne_of_lt (zG (g:=gb274) (o:= .cells #[.int .i64 a0_0,.slice A0_1 l0_1.length c0_1] 140 (0,0)) (zq0 BK274.out)):gb274≠gb276));have n7_:=zz ((by rw [hg];exact Nat.ne_of_gt (zG (g:=gb274) (o:= .cells #[.int .i64 a0_0,.slice A0_1 l0_1.length c0_1] 140 (0,0)) (zq0 BK274.out)):gb276≠gb274));have n8_:=zz ((by rw [hg];exact Nat.ne_of_lt (zG (g:=gb275) (o:= .cells #[.int .i64 0,.slice none 0 0] 112 (0,0)) (zq0 BK275.out)):gb275≠gb276));have n9_:=zz ((by rw [hg];exact Nat.ne_of_gt (zG (g:=gb275) (o:= .cells #[.int .i64 0,.slice none 0 0] 112 (0,0)) (zq0 BK275.out)):gb276≠gb275));clear BK274;clear BK275;clear HB;have BK274:=n0_;have BK275:=n1_;have HB:=n2_;have BK276:=n3_;have GW276:=n4_;have GE276:=n5_;have NB274_276:=n6_;have NB276_274:=n7_;have NB275_276:=n8_;have NB276_275:=n9_;clear n0_ n1_ n2_ n3_ n4_ n5_ n6_ n7_ n8_ n9_;clear hb hbox hg;have hnb6:=NB274_275.out;have hnc6:=NB275_274.out;have hnb7:=NB274_276.out;have hnc7:=NB276_274.out;have hcz8_0:w5.cell? ⟨gb274,0,none⟩=some (.int .i64 a0_0):=(ze BK274.out 0).trans rfl;have hcz8_1:w5.cell? ⟨gb274,1,none⟩=some (.slice A0_1 l0_1.length c0_1):=(ze BK274.out 1).trans rfl;have hfz8_0:=zd BK274.out 0;have hfz8_1:=zd BK274.out 1;have hnb9:=NB276_275.out;have hnc9:=NB275_276.out;have hcz10_0:w5.cell? ⟨gb276,0,none⟩=some (.int .i64 0):=(ze BK276.out 0).trans rfl;have hcz10_1:w5.cell? ⟨gb276,1,none⟩=some (.slice none 0 0):=(ze BK276.out 1).trans rfl;have hfz10_0:=zd BK276.out 0;have hfz10_1:=zd BK276.out 1)|((with_reducible refine zB (f:=85) rfl ?_);refine zO (some 9) rfl rfl Tryz.func85 zq7 rfl #[.slice A0_1 l0_1.length c0_1] rfl zq4 ?_;(with_reducible refine (laws_toIntS.calls k _ _ l0_1 t277 _ ?side1 ?side2 A2.out).mono ?_);(case side1=>exact Kd.C_below HR0_1.out (zq6 GE274.out GE275.out GE276.out));(case side2=>exact HC0_1.out);rintro e w11 ⟨v278,rfl,ho0,hb⟩;refine ⟨_,rfl,?_⟩;(first|have rs_v278:=zN (P:=Tryz.prog) ho0|have rs_v278:=zN (P:=Tryz.prog) (Kd.S_R ho0)|skip);have n0_:=zz (Kd.R_lower ho0 (zi (zq6 GE274.out GE275.out GE276.out)));have n1_:=zz (zu (g:=gb274) (o:= .cells #[.int .i64 a0_0,.slice A0_1 l0_1.length c0_1] 140 (0,0)) (by (with_reducible repeat (first|refine zj ?_ _|refine zl ?_|refine zh ?_ _));refine zH ?_ NB274_276.out _;(with_reducible repeat (first|refine zj ?_ _|refine zl ?_|refine zh ?_ _));exact BK274.out) hb);have n2_:=zz (zu (g:=gb275) (o:= .cells #[.int .i64 0,.slice none 0 0] 112 (0,0)) (by (with_reducible repeat (first|refine zj ?_ _|refine zl ?_|refine zh ?_ _));refine zH ?_ NB275_276.out _;(with_reducible repeat (first|refine zj ?_ _|refine zl ?_|refine zh ?_ _));exact BK275.out) hb);have n3_:=zz (zu (g:=gb276) (o:= .cells #[.int .i64 a0_0,.slice none 0 0] 112 (0,0)) (by (with_reducible repeat (first|refine zj ?_ _|refine zl ?_|refine zh ?_ _));refine zL (cs:= #[.int .i64 0,.slice none 0 0]) ?_ 0 _ rfl;(with_reducible repeat (first|refine zj ?_ _|refine zl ?_|refine zh ?_ _));exact BK276.out) hb);have n4_:=zz (zk (zq6 GE274.out GE275.out GE276.out) hb);clear BK274;clear BK275;clear BK276;clear HB;have HO279:=n0_;have BK274:=n1_;have BK275:=n2_;have BK276:=n3_;have HB:=n4_;clear n0_ n1_ n2_ n3_ n4_;(try clear hb);(try clear hb2);(try clear hk);(try clear hi);(try clear ho0);obtain ⟨Ao12,co12,eo12⟩:=Kd.R_slice HO279.out;subst eo12;have hcz13_0:w11.cell? ⟨gb276,0,none⟩=some (.int .i64 a0_0):=(ze BK276.out 0).trans rfl;have hcz13_1:w11.cell? ⟨gb276,1,none⟩=some (.slice none 0 0):=(ze BK276.out 1).trans rfl;have hfz13_0:=zd BK276.out 0;have hfz13_1:=zd BK276.out 1;have hcz14_0:w11.cell? ⟨gb275,0,none⟩=some (.int .i64 0):=(ze BK275.out 0).trans rfl;have hcz14_1:w11.cell? ⟨gb275,1,none⟩=some (.slice none 0 0):=(ze BK275.out 1).trans rfl;have hfz14_0:=zd BK275.out 0;have hfz14_1:=zd BK275.out 1))
 refine bodyPost_ret (results_cell_row rfl _ _ gb275 112 #[.int .i64 a0_0,.slice Ao12 t277.length co12] (0,0) _ rfl (by (with_reducible repeat (first|refine zj ?_ _|refine zl ?_|refine zh ?_ _));refine zL (cs:= #[.int .i64 a0_0,.slice none 0 0]) ?_ 1 _ rfl;(with_reducible repeat (first|refine zj ?_ _|refine zl ?_|refine zh ?_ _));refine zL (cs:= #[.int .i64 0,.slice none 0 0]) ?_ 0 _ rfl;(with_reducible repeat (first|refine zj ?_ _|refine zl ?_|refine zh ?_ _));refine zH ?_ NB275_276.out _;(with_reducible repeat (first|refine zj ?_ _|refine zl ?_|refine zh ?_ _));exact BK275.out) Tryz.underlying112 rfl zq7) rfl ?_
 exact ⟨_,by first|rfl|(simp [zx,zw]<;>rfl)|(simp [*,zx,zw]<;>rfl),by (with_reducible repeat (first|apply Kd.R_alloc|apply Kd.R_drewN|apply Kd.R_drew));exact Kd.R_mono (Kd.R_far (p:=⟨gb275,1,none⟩) (Kd.R_far (p:=⟨gb275,0,none⟩) (Kd.R_far (p:=⟨gb276,1,none⟩) (Kd.R_types (Kd.R_types HO279.out BK276.out zq14) BK275.out zq14) (fun _ hk=>hk.1.2) (.slice Ao12 t277.length co12)) (fun _ hk=>hk.2) (.int .i64 a0_0)) (fun _ hk=>hk.2) (.slice Ao12 t277.length co12)) (fun _ hk=>trivial),by repeat (first|(with_reducible first|exact HB.out|apply zg|apply zf|apply zm|refine zr ?_ GE274.out|refine zr ?_ GE275.out|refine zr ?_ GE276.out)|exact HB.out)⟩
def laws_toFreeS.l0:Nat→List (S140)→List (S112)→Int→Option ((List (S112)))
 |0,_,_,_=>none
 |k+1,x0,x3,x4=>if x4<(x0.length:Int) then (if 0≤x4 then ((laws_toFree.f k ((zpa x0 x4).f0) ((zpa x0 x4).f1)).bind fun bt284=>(if x4<(x3.length:Int) then (laws_toFreeS.l0 k x0 (x3.set (x4:Int).toNat (⟨bt284.1,bt284.2⟩:S112)) (wrap64 (x4+1))) else (none))) else (none)) else (some x3)
def laws_toFreeS.f (k:Nat) (l0:List (S140)):Option ((List (S112))):=if 0≤(l0.length:Int) then (if ((l0.length:Int):Int).toNat≤8796093022208 then (laws_toFreeS.l0 k l0 (List.replicate ((l0.length:Int):Int).toNat z112) 0) else (none)) else (none)
theorem laws_toFreeS.calls (k:Nat) (A0:Option Addr) (c0:Nat) (l0:List (S140)) (r:List (S112)) (w:World) (hr0:Kd.C k140 w A0 l0.length l0) (hc0:l0.length≤c0) (h:laws_toFreeS.f k l0=some r):
  Calls Tryz.prog 84 #[.slice A0 l0.length c0] w fun e w'=>∃v0_:Value,e= .returned (v0_)∧Kd.S k112 112 w' w.heap.size (fun _=>True) v0_ r∧Below w.heap.size w w':=by
 have hu183:=Tryz.underlying140
 have hu122:=Tryz.underlying112
 have HR0:=zz hr0
 have HC0:=zz hc0
 clear hr0 hc0
 have HB:=zz (Below.refl w.heap.size w)
 have H:(if 0≤(l0.length:Int) then (if ((l0.length:Int):Int).toNat≤8796093022208 then (laws_toFreeS.l0 k l0 (List.replicate ((l0.length:Int):Int).toNat z112) 0) else (none)) else (none))=some r:=h
 clear h
 by_cases c2:0≤(l0.length:Int)
 ·rw [if_pos c2] at H
  have c2b0:=eq_true c2
  have c2b1:decide (0≤(l0.length:Int))=true:=decide_eq_true c2
  clear c2
  by_cases c3:((l0.length:Int):Int).toNat≤8796093022208
  ·rw [if_pos c3] at H
   have c3b0:=eq_true c3
   have c3b1:decide (((l0.length:Int):Int).toNat≤8796093022208)=true:=decide_eq_true c3
   clear c3
   obtain ⟨y280,hy280⟩:∃y_:List (S112),y_=(List.replicate ((l0.length:Int):Int).toNat z112):=⟨_,rfl⟩
   replace H:(laws_toFreeS.l0 k l0 y280 0)=some r:=by first|(rw [hy280];with_reducible exact H)|(have H2_:=(Option.bind_some _ _).symm.trans H;rw [hy280];with_reducible exact H2_)|(have H2_:=(Option.bind_some _ _).symm.trans H;with_reducible exact H2_)|with_reducible exact H|(rw [hy280];exact H)|exact H
   have Ny280:=zz hy280
   clear hy280
   have H':=zz H
   clear H
   go_enter Tryz.func84,Tryz.ntmps84
   go_wp2_with (first|((with_reducible refine zv (N:=7) rfl ?_);refine Kd.S_make k112 _ 112 rfl (N:=7) rfl 38 _ _ rfl (l0.length:Int) rfl rfl Tryz.underlying38 (.agg #[(.int .i64 0),(.slice none 0 0)]) 32 info112 rfl zq14 zq5 z112 (ok:=fun _=>True) (okp:=fun _=>True) (zDb _ _ _ z112 (Kd.R_nil _ _ _ _ _)) (fun _ hk=>hk) trivial (of_decide_eq_true zq11) (Nat.le_trans (Nat.mul_le_mul_right _ (of_decide_eq_true zq11:(l0.length:Int).toNat≤8796093022208)) zq5) (Below.refl _ _) (Nat.le_refl _) ?_;intro v281 w4 ho5 hb hg_ hnew_;clear hg_ hnew_;(first|rw [←Ny280.out] at ho5|(simp only [Int.reduceToNat] at ho5;rw [←Ny280.out] at ho5));have n0_:=zz (Kd.S_lower ho5 (zi zq1));have n1_:=zz (zk zq1 hb);clear HB;have HO282:=n0_;have HB:=n1_;clear n0_ n1_;clear hb ho5))
   go_loopg [4] k (fun kq v4 w'=>∃(x3_1:List (S112)) (x4_1:Int),v4= .int .i64 x4_1∧Z0 (laws_toFreeS.l0 kq l0 x3_1 x4_1=some r)∧Z0 (kq≤k)∧Z0 (Kd.S k112 112 w' w.heap.size (fun _=>True) v281 x3_1)∧Z0 (Below w.heap.size w w'))
   case atStart=>exact ⟨(y280),(0),zq12,H',⟨Nat.le_refl _⟩,⟨by (with_reducible repeat (first|apply Kd.S_alloc|apply Kd.S_drewN|apply Kd.S_drew));exact HO282.out⟩,⟨by repeat (first|(with_reducible first|exact HB.out|apply zg|apply zf|apply zm)|exact HB.out)⟩⟩
   case round=>
    clear H'
    try clear c2
    try clear c2b0
    try clear c2b1
    try clear c3
    try clear c3b0
    try clear c3b1
    obtain ⟨x3_1,x4_1,rfl,HA,HK1,HO_3,HB⟩:=hrel
    cases gk with
    |zero=>exact absurd HA.out (by simp [laws_toFreeS.l0])
    |succ k1=>
     have H:=HA.out
     clear HA
     simp only [laws_toFreeS.l0] at H
     by_cases c6:x4_1<(l0.length:Int)
     ·rw [if_pos c6] at H
      have c6b0:decide (x4_1<(l0.length:Int))=true:=decide_eq_true c6
      clear c6
      by_cases c7:0≤x4_1
      ·rw [if_pos c7] at H
       have c7b0:decide (0≤x4_1)=true:=decide_eq_true c7
       clear c7
       replace H:=Option.bind_eq_some_iff.mp H
       obtain ⟨⟨t284,t285⟩,A80,H⟩:=H
       replace H:(if x4_1<(x3_1.length:Int) then (laws_toFreeS.l0 k1 l0 (x3_1.set (x4_1:Int).toNat (⟨t284,t285⟩:S112)) (wrap64 (x4_1+1))) else (none))=some r:=H
       have A8:=zz A80
       clear A80
       by_cases c9:x4_1<(x3_1.length:Int)
       ·rw [if_pos c9] at H
        have c9b0:decide (x4_1<(x3_1.length:Int))=true:=decide_eq_true c9
        clear c9
        obtain ⟨y288,hy288⟩:∃y_:List (S112),y_=(x3_1.set (x4_1:Int).toNat (⟨t284,t285⟩:S112)):=⟨_,rfl⟩
        replace H:(laws_toFreeS.l0 k1 l0 y288 (wrap64 (x4_1+1)))=some r:=by first|(rw [hy288];with_reducible exact H)|(have H2_:=(Option.bind_some _ _).symm.trans H;rw [hy288];with_reducible exact H2_)|(have H2_:=(Option.bind_some _ _).symm.trans H;with_reducible exact H2_)|with_reducible exact H|(rw [hy288];exact H)|exact H
        have Ny288:=zz hy288
        clear hy288
        have H':=zz H
        clear H
        have p283:0≤(x4_1:Int):=of_decide_eq_true zq11
        have q283:x4_1<(l0.length:Int):=of_decide_eq_true zq11
        obtain ⟨ad283,A283_1,c283_1,e283,hx283_0,hx283_1,hl283_1,hi283_1⟩:=at_T140 HR0.out x4_1 p283 q283
        cases e283
        replace hx283_0:=(HB.out.cell (World.block_lt_of_cell? w _ hx283_0)).trans hx283_0
        replace hx283_1:=(HB.out.cell (World.block_lt_of_cell? w _ hx283_1)).trans hx283_1
        have HR283_1:=zz hi283_1
        have HC283_1:=zz hl283_1
        clear hi283_1 hl283_1
        replace p283:=eq_true p283
        replace q283:=eq_true q283
        go_wp2_with (first|((with_reducible refine zB (f:=117) rfl ?_);refine zO (some 20) rfl rfl Tryz.func117 zq7 rfl #[.agg #[.int .i64 ((zpa l0 x4_1).f0),.slice A283_1 ((zpa l0 x4_1).f1).length c283_1]] rfl zq4 ?_;(with_reducible refine (laws_toFree.calls k1 ((zpa l0 x4_1).f0) _ _ ((zpa l0 x4_1).f1) t284 t285 _ ?side1 ?side2 A8.out).mono ?_);(case side1=>repeat (first|exact (Kd.C_below HR283_1.out HB.out)|(with_reducible refine Kd.C_alloc ?_ _)|(with_reducible refine Kd.C_drewN ?_ _)|(with_reducible refine Kd.C_drew ?_)));(case side2=>exact HC283_1.out);rintro e w11 ⟨v286,rfl,ho0,hb⟩;refine ⟨_,rfl,?_⟩;(first|have rs_v286:=zN (P:=Tryz.prog) ho0|have rs_v286:=zN (P:=Tryz.prog) (Kd.S_R ho0)|skip);have n0_:=zz (Kd.S_elder' (by (with_reducible repeat (first|apply Kd.S_alloc|apply Kd.S_drewN|apply Kd.S_drew));exact HO_3.out) (Kd.R_base ho0) hb);have n1_:=zz (Kd.R_lower ho0 (zi zq1));have n2_:=zz (zk zq1 hb);clear HO_3;clear HB;have HO_3:=n0_;have HO287:=n1_;have HB:=n2_;clear n0_ n1_ n2_;(try clear hb);(try clear hb2);(try clear hk);(try clear hi);(try clear ho0);have p10:0≤(x4_1:Int):=of_decide_eq_true zq11;have q10:(x4_1:Int)<((x3_1.length:Int):Int):=of_decide_eq_true zq11;obtain ⟨go10,co10,eo10,gb10,gl10,cl10,HG10⟩:=Kd.S_form HO_3.out zq5;(first|cases eo10|(injection eo10 with ea_ en_ ec_;(first|subst ea_|(injection ea_ with ea_;subst ea_));subst ec_;clear en_));have GB10:=zz gb10;have GG10:=zz HG10;clear gb10 gl10 HG10;obtain ⟨_,ce10,hcl10,hM10,hcc10,hfr10,_,_⟩:=Kd.S_elem HO_3.out z112 (x4_1:Int) p10 q10;obtain ⟨ve10_1,rfl,ge10_1⟩:=k112_openM hM10;have hx10_0:w11.cell? ⟨go10,(x4_1:Int).toNat*2,none⟩=some (.int .i64 ((zS x3_1 x4_1).f0)):=hcc10 0 _ rfl;have hx10_1:w11.cell? ⟨go10,(x4_1:Int).toNat*2+1,none⟩=some (ve10_1):=hcc10 1 _ rfl;have hf10_0:w11.frozen? ⟨go10,(x4_1:Int).toNat*2,none⟩=false:=hfr10 0;have hf10_1:w11.frozen? ⟨go10,(x4_1:Int).toNat*2+1,none⟩=false:=hfr10 1;clear hcl10 hcc10 hfr10 hM10;replace p10:=eq_true p10;replace q10:=eq_true q10;have n_:=zz (Kd.S_mono (ok':=(fun k_=>some k_≠(v286:Value).ownBlock)) HO_3.out (fun k_ hk=>hk.2));clear HO_3;have HO_3:=n_;clear n_;have HX12:=zz (show Kd.S k112 112 w11 w.heap.size (fun k_=>((fun _=>True)) k_∧¬((fun k_=>some k_=(v286:Value).ownBlock)) k_) (.slice (some ⟨go10,0,none⟩) x3_1.length co10) x3_1 from (by (with_reducible repeat (first|apply Kd.S_alloc|apply Kd.S_drewN|apply Kd.S_drew));exact Kd.S_mono HO_3.out (fun k_ hk=>⟨trivial,fun e_=>hk e_⟩)));obtain ⟨oki12,ce12,hcl12,hM12,hcc12,hfr12,hoki12,hH12⟩:=Kd.S_elem HX12.out z112 (x4_1:Int) (of_decide_eq_true zq11) (zq43 HO_3.out);obtain ⟨ve12_1,rfl,ge12_1⟩:=k112_openM hM12;have HP12:=Kd.S_seg hH12 (of_decide_eq_true zq11) (zq43 HO_3.out) (seg:=[.int .i64 t284,v286]) (j:=0) (show 2≤2 from by decide) (x':=(⟨t284,t285⟩:S112)) (zDb _ _ _ (⟨t284,t285⟩:S112) (Kd.R_mono (Kd.R_tight rfl (Kd.R_mono (ok':=fun k_=>((fun _=>True)) k_∧k_≠go10) (Kd.R_apart' (HO287.out) (Kd.S_typed HO_3.out) zq14) (fun k_ hk=>⟨trivial,fun e_=>(hk.2) zq57⟩))) (fun _ h_=>Or.inr (h_)))) (fun _ hk=>hk) (fun k_ hk_=>((Kd.R_mono (ok':=fun k_=>((fun _=>True)) k_∧k_≠go10) (Kd.R_apart' (HO287.out) (Kd.S_typed HO_3.out) zq14) (fun k_ hk=>⟨trivial,fun e_=>(hk.2) zq57⟩))).1 k_ hk_.symm);have hx12_0:=hcc12 0 _ rfl;(try simp only [show (k112).sz=2 from rfl,Nat.mul_one,Nat.add_zero] at hx12_0);have hf12_0:=hfr12 0;(try simp only [show (k112).sz=2 from rfl,Nat.mul_one,Nat.add_zero] at hf12_0);have hx12_1:=hcc12 1 _ rfl;(try simp only [show (k112).sz=2 from rfl,Nat.mul_one,Nat.add_zero] at hx12_1);have hf12_1:=hfr12 1;(try simp only [show (k112).sz=2 from rfl,Nat.mul_one,Nat.add_zero] at hf12_1);clear hcl12 hcc12 hfr12 hM12 hoki12 hH12)|((with_reducible refine zC (t:=112) (p:=21) rfl ?_);refine zca (t:=112) (p:=21) (v:= ?vo_w13) (w1:=((w11.setCell ⟨go10,(x4_1:Int).toNat*2,none⟩ (.int .i64 t284)).setCell ⟨go10,(x4_1:Int).toNat*2+1,none⟩ (v286))) ?hg ?ho ?hn ?hr ?_;(case ho=>rfl);(case hg=>rfl);(case hn=>rfl);(case hr=>first|(go_simp;done)|(go_simp;rfl));intro w13 hw;have hg:w11.grownBy w13 (some go10):=(by rw [hw];exact HP12.2);have hp_:Kd.S k112 112 w13 w.heap.size (fun _=>True) (.slice (some ⟨go10,0,none⟩) x3_1.length co10) y288:=(by rw [hw,Ny288.out];exact HP12.1);clear HP12;have n0_:=zz (hp_);have n1_:=zz ((by rw [hw];exact zr (zr (HB.out) GB10.out) GB10.out:Below w.heap.size w w13));clear HO_3;clear HB;clear HO287;have HO_3:=n0_;have HB:=n1_;clear n0_ n1_;clear hg hw hp_))
        go_roundg k1
        case measure=>have:=HK1.out;omega
        case rel=>exact ⟨(y288),(wrap64 (x4_1+1)),zq12,H',⟨by have:=HK1.out;omega⟩,⟨by (with_reducible repeat (first|apply Kd.S_alloc|apply Kd.S_drewN|apply Kd.S_drew));exact HO_3.out⟩,⟨by repeat (first|(with_reducible first|exact HB.out|apply zg|apply zf|apply zm)|exact HB.out)⟩⟩
       ·rw [if_neg c9] at H
        exact absurd H zq15
      ·rw [if_neg c7] at H
       exact absurd H zq15
     ·rw [if_neg c6] at H
      have c6b0:decide (x4_1<(l0.length:Int))=false:=decide_eq_false c6
      clear c6
      obtain rfl:=Option.some.inj H
      go_wp2
      go_ret
      exact ⟨_,by first|rfl|(simp [zx,zw]<;>rfl)|(simp [*,zx,zw]<;>rfl),by (with_reducible repeat (first|apply Kd.S_alloc|apply Kd.S_drewN|apply Kd.S_drew));exact HO_3.out,by repeat (first|(with_reducible first|exact HB.out|apply zg|apply zf|apply zm)|exact HB.out)⟩
  ·rw [if_neg c3] at H
   exact absurd H zq15
 ·rw [if_neg c2] at H
  exact absurd H zq15
def laws_toMeta.f (k:Nat) (a0_0:Int) (a0_1:Int) (a0_2:Int) (l0_3:List (S140)):Option (Int×Int×Int×(List (S112))):=(laws_toFreeS.f k l0_3).bind fun t292=>(some (a0_0,a0_1,a0_2,t292))
theorem laws_toMeta.calls (k:Nat) (a0_0:Int) (a0_1:Int) (a0_2:Int) (A0_3:Option Addr) (c0_3:Nat) (l0_3:List (S140)) (r1:Int) (r2:Int) (r3:Int) (r4:List (S112)) (w:World) (hr0_3:Kd.C k140 w A0_3 l0_3.length l0_3) (hc0_3:l0_3.length≤c0_3) (h:laws_toMeta.f k a0_0 a0_1 a0_2 l0_3=some (r1,r2,r3,r4)):
  Calls Tryz.prog 40 #[.agg #[.int .i64 a0_0,.int .i64 a0_1,.int .i64 a0_2,.slice A0_3 l0_3.length c0_3]] w fun e w'=>∃v3_:Value,e= .returned (.agg #[.int .i64 r1,.int .i64 r2,.int .i64 r3,v3_])∧Kd.S k112 112 w' w.heap.size (fun _=>True) v3_ r4∧Below w.heap.size w w':=by
 have hu69:=Tryz.underlying24
 have hu53:=Tryz.underlying40
 have HR0_3:=zz hr0_3
 have HC0_3:=zz hc0_3
 clear hr0_3 hc0_3
 have HB:=zz (Below.refl w.heap.size w)
 have H:((laws_toFreeS.f k l0_3).bind fun t292=>(some (a0_0,a0_1,a0_2,t292)))=some (r1,r2,r3,r4):=h
 clear h
 replace H:=Option.bind_eq_some_iff.mp H
 obtain ⟨t292,A20,H⟩:=H
 replace H:(some (a0_0,a0_1,a0_2,t292))=some (r1,r2,r3,r4):=H
 have A2:=zz A20
 clear A20
 simp only [Option.some.injEq,Prod.mk.injEq] at H
 obtain ⟨rfl,rfl,rfl,rfl⟩:=H
 go_enter Tryz.func40,Tryz.ntmps40
 go_wp2_with (first|((with_reducible refine zv (N:=1) rfl ?_);refine zE ?hg (N:=1) ?hd (cs:= #[.int .i64 a0_0,.int .i64 a0_1,.int .i64 a0_2,.slice A0_3 l0_3.length c0_3]) (t:=24) ?hr ?_;(case hd=>rfl);(case hg=>rfl);(case hr=>first|(go_simp;done)|(go_simp;rfl));intro gb289 hg w3 hbox hb;have n0_:=zz (zk zq1 hb);have n1_:=zz (hbox);have n2_:=zz ((by rw [hg];exact (zi zq1):w.heap.size≤gb289));have n3_:=zz ((by rw [hg];exact (zi zq1):w.heap.size≤gb289));clear HB;have HB:=n0_;have BK289:=n1_;have GW289:=n2_;have GE289:=n3_;clear n0_ n1_ n2_ n3_;clear hb hbox hg)|((with_reducible refine zv (N:=2) rfl ?_);refine zE ?hg (N:=2) ?hd (cs:= #[.int .i64 0,.int .i64 0,.int .i64 0,.slice none 0 0]) (t:=40) ?hr ?_;(case hd=>rfl);(case hg=>rfl);(case hr=>first|(go_simp;done)|(go_simp;rfl));intro gb290 hg w4 hbox hb;have n0_:=zz (zu (g:=gb289) (o:= .cells #[.int .i64 a0_0,.int .i64 a0_1,.int .i64 a0_2,.slice A0_3 l0_3.length c0_3] 24 (0,0)) (zq0 BK289.out) hb);have n1_:=zz (zk (zq3 GE289.out) hb);have n2_:=zz (hbox);have n3_:=zz ((by rw [hg];exact (zi (zq3 GE289.out)):w.heap.size≤gb290));have n4_:=zz ((by rw [hg];exact (zi (zq3 GE289.out)):w.heap.size≤gb290));have n5_:=zz ((by rw [hg];exact Nat.ne_of_lt (zG (g:=gb289) (o:= .cells #[.int .i64 a0_0,.int .i64 a0_1,.int .i64 a0_2,.slice A0_3 l0_3.length c0_3] 24 (0,0)) (zq0 BK289.out)):gb289≠gb290));have n6_:=zz ((by rw [hg];exact Nat.ne_of_gt (zG (g:=gb289) (o:= .cells #[.int .i64 a0_0,.int .i64 a0_1,.int .i64 a0_2,.slice A0_3 l0_3.length c0_3] 24 (0,0)) (zq0 BK289.out)):gb290≠gb289));clear BK289;clear HB;have BK289:=n0_;have HB:=n1_;have BK290:=n2_;have GW290:=n3_;have GE290:=n4_;have NB289_290:=n5_;have NB290_289:=n6_;clear n0_ n1_ n2_ n3_ n4_ n5_ n6_;clear hb hbox hg)|((with_reducible refine zv (N:=3) rfl ?_);refine zE ?hg (N:=3) ?hd (cs:= #[.int .i64 0,.int .i64 0,.int .i64 0,.slice none 0 0]) (t:=40) ?hr ?_;(case hd=>rfl);(case hg=>rfl);(case hr=>first|(go_simp;done)|(go_simp;rfl));intro gb291 hg w5 hbox hb;have n0_:=zz (zu (g:=gb289) (o:= .cells #[.int .i64 a0_0,.int .i64 a0_1,.int .i64 a0_2,.slice A0_3 l0_3.length c0_3] 24 (0,0)) (zq0 BK289.out) hb);have n1_:=zz (zu (g:=gb290) (o:= .cells #[.int .i64 0,.int .i64 0,.int .i64 0,.slice none 0 0] 40 (0,0)) (zq0 BK290.out) hb);have n2_:=zz (zk (zq2 GE289.out GE290.out) hb);have n3_:=zz (hbox);have n4_:=zz ((by rw [hg];exact (zi (zq2 GE289.out GE290.out)):w.heap.size≤gb291));have n5_:=zz ((by rw [hg];exact (zi (zq2 GE289.out GE290.out)):w.heap.size≤gb291));have n6_:=zz ((by rw [hg];exact Nat.ne_of_lt (zG (g:=gb289) (o:= .cells #[.int .i64 a0_0,.int .i64 a0_1,.int .i64 a0_2,.slice A0_3 l0_3.length c0_3] 24 (0,0)) (zq0 BK289.out)):gb289≠gb291));have n7_:=zz ((by rw [hg];exact Nat.ne_of_gt (zG (g:=gb289) (o:= .cells #[.int .i64 a0_0,.int .i64 a0_1,.int .i64 a0_2,.slice A0_3 l0_3.length c0_3] 24 (0,0)) (zq0 BK289.out)):gb291≠gb289));have n8_:=zz ((by rw [hg];exact Nat.ne_of_lt (zG (g:=gb290) (o:= .cells #[.int .i64 0,.int .i64 0,.int .i64 0,.slice none 0 0] 40 (0,0)) (zq0 BK290.out)):gb290≠gb291));have n9_:=zz ((by rw [hg];exact Nat.ne_of_gt (zG (g:=gb290) (o:= .cells #[.int .i64 0,.int .i64 0,.int .i64 0,.slice none 0 0] 40 (0,0)) (zq0 BK290.out)):gb291≠gb290));clear BK289;clear BK290;clear HB;have BK289:=n0_;have BK290:=n1_;have HB:=n2_;have BK291:=n3_;have GW291:=n4_;have GE291:=n5_;have NB289_291:=n6_;have NB291_289:=n7_;have NB290_291:=n8_;have NB291_290:=n9_;clear n0_ n1_ n2_ n3_ n4_ n5_ n6_ n7_ n8_ n9_;clear hb hbox hg;have hnb6:=NB289_290.out;have hnc6:=NB290_289.out;have hnb7:=NB289_291.out;have hnc7:=NB291_289.out;have hcz8_0:w5.cell? ⟨gb289,0,none⟩=some (.int .i64 a0_0):=(ze BK289.out 0).trans rfl;have hcz8_1:w5.cell? ⟨gb289,1,none⟩=some (.int .i64 a0_1):=(ze BK289.out 1).trans rfl;have hcz8_2:w5.cell? ⟨gb289,2,none⟩=some (.int .i64 a0_2):=(ze BK289.out 2).trans rfl;have hcz8_3:w5.cell? ⟨gb289,3,none⟩=some (.slice A0_3 l0_3.length c0_3):=(ze BK289.out 3).trans rfl;have hfz8_0:=zd BK289.out 0;have hfz8_1:=zd BK289.out 1;have hfz8_2:=zd BK289.out 2;have hfz8_3:=zd BK289.out 3;have hnb9:=NB291_290.out;have hnc9:=NB290_291.out;have hcz10_0:w5.cell? ⟨gb291,0,none⟩=some (.int .i64 0):=(ze BK291.out 0).trans rfl;have hcz10_1:w5.cell? ⟨gb291,1,none⟩=some (.int .i64 0):=(ze BK291.out 1).trans rfl;have hcz10_2:w5.cell? ⟨gb291,2,none⟩=some (.int .i64 0):=(ze BK291.out 2).trans rfl;have hcz10_3:w5.cell? ⟨gb291,3,none⟩=some (.slice none 0 0):=(ze BK291.out 3).trans rfl;have hfz10_0:=zd BK291.out 0;have hfz10_1:=zd BK291.out 1;have hfz10_2:=zd BK291.out 2;have hfz10_3:=zd BK291.out 3)|((with_reducible refine zB (f:=84) rfl ?_);refine zO (some 15) rfl rfl Tryz.func84 zq7 rfl #[.slice A0_3 l0_3.length c0_3] rfl zq4 ?_;(with_reducible refine (laws_toFreeS.calls k _ _ l0_3 t292 _ ?side1 ?side2 A2.out).mono ?_);(case side1=>exact Kd.C_below HR0_3.out (zq6 GE289.out GE290.out GE291.out));(case side2=>exact HC0_3.out);rintro e w11 ⟨v293,rfl,ho0,hb⟩;refine ⟨_,rfl,?_⟩;(first|have rs_v293:=zN (P:=Tryz.prog) ho0|have rs_v293:=zN (P:=Tryz.prog) (Kd.S_R ho0)|skip);have n0_:=zz (Kd.S_lower ho0 (zi (zq6 GE289.out GE290.out GE291.out)));have n1_:=zz (zu (g:=gb289) (o:= .cells #[.int .i64 a0_0,.int .i64 a0_1,.int .i64 a0_2,.slice A0_3 l0_3.length c0_3] 24 (0,0)) (by (with_reducible repeat (first|refine zj ?_ _|refine zl ?_|refine zh ?_ _));refine zH ?_ NB289_291.out _;(with_reducible repeat (first|refine zj ?_ _|refine zl ?_|refine zh ?_ _));refine zH ?_ NB289_291.out _;(with_reducible repeat (first|refine zj ?_ _|refine zl ?_|refine zh ?_ _));refine zH ?_ NB289_291.out _;(with_reducible repeat (first|refine zj ?_ _|refine zl ?_|refine zh ?_ _));exact BK289.out) hb);have n2_:=zz (zu (g:=gb290) (o:= .cells #[.int .i64 0,.int .i64 0,.int .i64 0,.slice none 0 0] 40 (0,0)) (by (with_reducible repeat (first|refine zj ?_ _|refine zl ?_|refine zh ?_ _));refine zH ?_ NB290_291.out _;(with_reducible repeat (first|refine zj ?_ _|refine zl ?_|refine zh ?_ _));refine zH ?_ NB290_291.out _;(with_reducible repeat (first|refine zj ?_ _|refine zl ?_|refine zh ?_ _));refine zH ?_ NB290_291.out _;(with_reducible repeat (first|refine zj ?_ _|refine zl ?_|refine zh ?_ _));exact BK290.out) hb);have n3_:=zz (zu (g:=gb291) (o:= .cells #[.int .i64 a0_0,.int .i64 a0_1,.int .i64 a0_2,.slice none 0 0] 40 (0,0)) (by (with_reducible repeat (first|refine zj ?_ _|refine zl ?_|refine zh ?_ _));refine zL (cs:= #[.int .i64 a0_0,.int .i64 a0_1,.int .i64 0,.slice none 0 0]) ?_ 2 _ rfl;(with_reducible repeat (first|refine zj ?_ _|refine zl ?_|refine zh ?_ _));refine zL (cs:= #[.int .i64 a0_0,.int .i64 0,.int .i64 0,.slice none 0 0]) ?_ 1 _ rfl;(with_reducible repeat (first|refine zj ?_ _|refine zl ?_|refine zh ?_ _));refine zL (cs:= #[.int .i64 0,.int .i64 0,.int .i64 0,.slice none 0 0]) ?_ 0 _ rfl;(with_reducible repeat (first|refine zj ?_ _|refine zl ?_|refine zh ?_ _));exact BK291.out) hb);have n4_:=zz (zk (zq6 GE289.out GE290.out GE291.out) hb);clear BK289;clear BK290;clear BK291;clear HB;have HO294:=n0_;have BK289:=n1_;have BK290:=n2_;have BK291:=n3_;have HB:=n4_;clear n0_ n1_ n2_ n3_ n4_;(try clear hb);(try clear hb2);(try clear hk);(try clear hi);(try clear ho0);obtain ⟨Ao12,co12,eo12⟩:=Kd.S_slice HO294.out;subst eo12;have hcz13_0:w11.cell? ⟨gb291,0,none⟩=some (.int .i64 a0_0):=(ze BK291.out 0).trans rfl;have hcz13_1:w11.cell? ⟨gb291,1,none⟩=some (.int .i64 a0_1):=(ze BK291.out 1).trans rfl;have hcz13_2:w11.cell? ⟨gb291,2,none⟩=some (.int .i64 a0_2):=(ze BK291.out 2).trans rfl;have hcz13_3:w11.cell? ⟨gb291,3,none⟩=some (.slice none 0 0):=(ze BK291.out 3).trans rfl;have hfz13_0:=zd BK291.out 0;have hfz13_1:=zd BK291.out 1;have hfz13_2:=zd BK291.out 2;have hfz13_3:=zd BK291.out 3;have hcz14_0:w11.cell? ⟨gb290,0,none⟩=some (.int .i64 0):=(ze BK290.out 0).trans rfl;have hcz14_1:w11.cell? ⟨gb290,1,none⟩=some (.int .i64 0):=(ze BK290.out 1).trans rfl;have hcz14_2:w11.cell? ⟨gb290,2,none⟩=some (.int .i64 0):=(ze BK290.out 2).trans rfl;have hcz14_3:w11.cell? ⟨gb290,3,none⟩=some (.slice none 0 0):=(ze BK290.out 3).trans rfl;have hfz14_0:=zd BK290.out 0;have hfz14_1:=zd BK290.out 1;have hfz14_2:=zd BK290.out 2;have hfz14_3:=zd BK290.out 3))
 refine bodyPost_ret (results_cell_row rfl _ _ gb290 40 #[.int .i64 a0_0,.int .i64 a0_1,.int .i64 a0_2,.slice Ao12 t292.length co12] (0,0) _ rfl (by (with_reducible repeat (first|refine zj ?_ _|refine zl ?_|refine zh ?_ _));refine zL (cs:= #[.int .i64 a0_0,.int .i64 a0_1,.int .i64 a0_2,.slice none 0 0]) ?_ 3 _ rfl;(with_reducible repeat (first|refine zj ?_ _|refine zl ?_|refine zh ?_ _));refine zL (cs:= #[.int .i64 a0_0,.int .i64 a0_1,.int .i64 0,.slice none 0 0]) ?_ 2 _ rfl;(with_reducible repeat (first|refine zj ?_ _|refine zl ?_|refine zh ?_ _));refine zL (cs:= #[.int .i64 a0_0,.int .i64 0,.int .i64 0,.slice none 0 0]) ?_ 1 _ rfl;(with_reducible repeat (first|refine zj ?_ _|refine zl ?_|refine zh ?_ _));refine zL (cs:= #[.int .i64 0,.int .i64 0,.int .i64 0,.slice none 0 0]) ?_ 0 _ rfl;(with_reducible repeat (first|refine zj ?_ _|refine zl ?_|refine zh ?_ _));refine zH ?_ NB290_291.out _;(with_reducible repeat (first|refine zj ?_ _|refine zl ?_|refine zh ?_ _));exact BK290.out) Tryz.underlying40 rfl zq7) rfl ?_
 exact ⟨_,by first|rfl|(simp [zx,zw]<;>rfl)|(simp [*,zx,zw]<;>rfl),by (with_reducible repeat (first|apply Kd.S_alloc|apply Kd.S_drewN|apply Kd.S_drew));exact Kd.S_mono (Kd.S_far (p:=⟨gb290,3,none⟩) (Kd.S_far (p:=⟨gb290,2,none⟩) (Kd.S_far (p:=⟨gb290,1,none⟩) (Kd.S_far (p:=⟨gb290,0,none⟩) (Kd.S_far (p:=⟨gb291,3,none⟩) (Kd.S_types (Kd.S_types HO294.out BK291.out zq14) BK290.out zq14) (fun _ hk=>hk.1.2) (.slice Ao12 t292.length co12)) (fun _ hk=>hk.2) (.int .i64 a0_0)) (fun _ hk=>hk.2) (.int .i64 a0_1)) (fun _ hk=>hk.2) (.int .i64 a0_2)) (fun _ hk=>hk.2) (.slice Ao12 t292.length co12)) (fun _ hk=>trivial),by repeat (first|(with_reducible first|exact HB.out|apply zg|apply zf|apply zm|refine zr ?_ GE289.out|refine zr ?_ GE290.out|refine zr ?_ GE291.out)|exact HB.out)⟩
def laws_eqFree.f (k:Nat) (a0_0:Int) (l0_1:List Int) (a1_0:Int) (l1_1:List Int):Option (Bool):=if a0_0=a1_0 then ((laws_eqIntS.f k l0_1 l1_1).bind fun t116=>(if t116=true then (some true) else (none))) else (none)
theorem laws_eqFree.calls (k:Nat) (a0_0:Int) (A0_1:Option Addr) (c0_1:Nat) (l0_1:List Int) (a1_0:Int) (A1_1:Option Addr) (c1_1:Nat) (l1_1:List Int) (r:Bool) (w:World) (hr0_1:Kd.C (Kd.int .i64) w A0_1 l0_1.length l0_1) (hc0_1:l0_1.length≤c0_1) (hr1_1:Kd.C (Kd.int .i64) w A1_1 l1_1.length l1_1) (hc1_1:l1_1.length≤c1_1) (h:laws_eqFree.f k a0_0 l0_1 a1_0 l1_1=some r):
  Calls Tryz.prog 98 #[.agg #[.int .i64 a0_0,.slice A0_1 l0_1.length c0_1],.agg #[.int .i64 a1_0,.slice A1_1 l1_1.length c1_1]] w fun e w'=>e= .returned (.bool r)∧Below w.heap.size w w':=by
 have hu122:=Tryz.underlying112
 have HR0_1:=zz hr0_1
 have HC0_1:=zz hc0_1
 clear hr0_1 hc0_1
 have HR1_1:=zz hr1_1
 have HC1_1:=zz hc1_1
 clear hr1_1 hc1_1
 have HB:=zz (Below.refl w.heap.size w)
 have H:(if a0_0=a1_0 then ((laws_eqIntS.f k l0_1 l1_1).bind fun t116=>(if t116=true then (some true) else (none))) else (none))=some r:=h
 clear h
 by_cases c3:a0_0=a1_0
 ·rw [if_pos c3] at H
  have c3b0:(a0_0==a1_0)=true:=beq_iff_eq.mpr c3
  have c3b1:(a0_0 !=a1_0)=false:=bne_eq_false_iff_eq.mpr c3
  clear c3
  replace H:=Option.bind_eq_some_iff.mp H
  obtain ⟨t116,A40,H⟩:=H
  replace H:(if t116=true then (some true) else (none))=some r:=H
  have A4:=zz A40
  clear A40
  by_cases c5:t116=true
  ·subst c5
   have H1:(some true)=some r:=by rw [if_pos rfl] at H;exact H
   clear H
   have H:=H1
   clear H1
   obtain rfl:=Option.some.inj H
   go_enter Tryz.func98,Tryz.ntmps98
   go_wp2_with (first|((with_reducible refine zv (N:=2) rfl ?_);refine zE ?hg (N:=2) ?hd (cs:= #[.int .i64 a0_0,.slice A0_1 l0_1.length c0_1]) (t:=112) ?hr ?_;(case hd=>rfl);(case hg=>rfl);(case hr=>first|(go_simp;done)|(go_simp;rfl));intro gb114 hg w6 hbox hb;have n0_:=zz (zk zq1 hb);have n1_:=zz (hbox);have n2_:=zz ((by rw [hg];exact (zi zq1):w.heap.size≤gb114));have n3_:=zz ((by rw [hg];exact (zi zq1):w.heap.size≤gb114));clear HB;have HB:=n0_;have BK114:=n1_;have GW114:=n2_;have GE114:=n3_;clear n0_ n1_ n2_ n3_;clear hb hbox hg)|((with_reducible refine zv (N:=3) rfl ?_);refine zE ?hg (N:=3) ?hd (cs:= #[.int .i64 a1_0,.slice A1_1 l1_1.length c1_1]) (t:=112) ?hr ?_;(case hd=>rfl);(case hg=>rfl);(case hr=>first|(go_simp;done)|(go_simp;rfl));intro gb115 hg w7 hbox hb;have n0_:=zz (zu (g:=gb114) (o:= .cells #[.int .i64 a0_0,.slice A0_1 l0_1.length c0_1] 112 (0,0)) (zq0 BK114.out) hb);have n1_:=zz (zk (zq3 GE114.out) hb);have n2_:=zz (hbox);have n3_:=zz ((by rw [hg];exact (zi (zq3 GE114.out)):w.heap.size≤gb115));have n4_:=zz ((by rw [hg];exact (zi (zq3 GE114.out)):w.heap.size≤gb115));have n5_:=zz ((by rw [hg];exact Nat.ne_of_lt (zG (g:=gb114) (o:= .cells #[.int .i64 a0_0,.slice A0_1 l0_1.length c0_1] 112 (0,0)) (zq0 BK114.out)):gb114≠gb115));have n6_:=zz ((by rw [hg];exact Nat.ne_of_gt (zG (g:=gb114) (o:= .cells #[.int .i64 a0_0,.slice A0_1 l0_1.length c0_1] 112 (0,0)) (zq0 BK114.out)):gb115≠gb114));clear BK114;clear HB;have BK114:=n0_;have HB:=n1_;have BK115:=n2_;have GW115:=n3_;have GE115:=n4_;have NB114_115:=n5_;have NB115_114:=n6_;clear n0_ n1_ n2_ n3_ n4_ n5_ n6_;clear hb hbox hg;have hnb8:=NB114_115.out;have hnc8:=NB115_114.out;have hcz9_0:w7.cell? ⟨gb114,0,none⟩=some (.int .i64 a0_0):=(ze BK114.out 0).trans rfl;have hcz9_1:w7.cell? ⟨gb114,1,none⟩=some (.slice A0_1 l0_1.length c0_1):=(ze BK114.out 1).trans rfl;have hfz9_0:=zd BK114.out 0;have hfz9_1:=zd BK114.out 1;have hcz10_0:w7.cell? ⟨gb115,0,none⟩=some (.int .i64 a1_0):=(ze BK115.out 0).trans rfl;have hcz10_1:w7.cell? ⟨gb115,1,none⟩=some (.slice A1_1 l1_1.length c1_1):=(ze BK115.out 1).trans rfl;have hfz10_0:=zd BK115.out 0;have hfz10_1:=zd BK115.out 1)|((with_reducible refine zB (f:=99) rfl ?_);refine zO (some 14) rfl rfl Tryz.func99 zq7 rfl #[.slice A0_1 l0_1.length c0_1,.slice A1_1 l1_1.length c1_1] rfl zq4 ?_;(with_reducible refine (laws_eqIntS.calls k _ _ l0_1 _ _ l1_1 true _ ?side1 ?side2 ?side3 ?side4 A4.out).mono ?_);(case side1=>repeat (first|exact (Kd.C_below HR0_1.out HB.out)|(with_reducible refine Kd.C_alloc ?_ _)|(with_reducible refine Kd.C_drewN ?_ _)|(with_reducible refine Kd.C_drew ?_)));(case side2=>exact HC0_1.out);(case side3=>repeat (first|exact (Kd.C_below HR1_1.out HB.out)|(with_reducible refine Kd.C_alloc ?_ _)|(with_reducible refine Kd.C_drewN ?_ _)|(with_reducible refine Kd.C_drew ?_)));(case side4=>exact HC1_1.out);rintro e w' ⟨rfl,⟨nd,rfl⟩⟩;refine ⟨_,rfl,?_⟩))
   go_ret
   exact ⟨by first|rfl|(simp [zx,zw]<;>rfl)|(simp [*,zx,zw]<;>rfl),by repeat (first|(with_reducible first|exact HB.out|apply zg|apply zf|apply zm|refine zr ?_ GE114.out|refine zr ?_ GE115.out)|exact HB.out)⟩
  ·replace c5:=Bool.eq_false_iff.mpr c5
   subst c5
   have H1:(none)=some r:=by rw [if_neg (show ¬(false=true) by decide)] at H;exact H
   clear H
   have H:=H1
   clear H1
   exact absurd H zq15
 ·rw [if_neg c3] at H
  exact absurd H zq15
end Go.Proofs.YtonhdiemjgdcnaaGreat.PFnExactGivePage
