import Derived.Test.YtonhdiemjgdcnaaPA3
import Derived.Outline
import Derived.Deep.MidRow
set_option maxHeartbeats 64000000
set_option maxRecDepth 100000
set_option linter.unusedVariables false
set_option linter.unusedSimpArgs false
namespace Go.Proofs.Ytonhdiemjgdcnaa.PFnExactGivePage
open Go.RowKit Go.Proofs.YtonhdiemjgdcnaaW.PrintWords Go.Proofs.YtonhdiemjgdcnaaW.PrintLast Go.Proofs.YtonhdiemjgdcnaaW.PrintMore
attribute [local go_sem] zO zP zY zX zK zJ zQ zR
def laws_eqDisk.f (k:Nat) (l0_0:List ByteArray) (l0_1:List (S135)) (l1_0:List ByteArray) (l1_1:List (S135)):Option (Bool):=(laws_eqStringS.f k l0_0 l1_0).bind fun t271=>(if t271=true then ((laws_eqPutS.f k l0_1 l1_1).bind fun t272=>(if t272=true then (some true) else (none))) else (none))
theorem laws_eqDisk.calls (k:Nat) (A0_0:Option Addr) (c0_0:Nat) (l0_0:List ByteArray) (A0_1:Option Addr) (c0_1:Nat) (l0_1:List (S135)) (A1_0:Option Addr) (c1_0:Nat) (l1_0:List ByteArray) (A1_1:Option Addr) (c1_1:Nat) (l1_1:List (S135)) (r:Bool) (w:World) (hr0_0:Kd.C Kd.string w A0_0 l0_0.length l0_0) (hc0_0:l0_0.length≤c0_0) (hr0_1:Kd.C k135 w A0_1 l0_1.length l0_1) (hc0_1:l0_1.length≤c0_1) (hr1_0:Kd.C Kd.string w A1_0 l1_0.length l1_0) (hc1_0:l1_0.length≤c1_0) (hr1_1:Kd.C k135 w A1_1 l1_1.length l1_1) (hc1_1:l1_1.length≤c1_1) (h:laws_eqDisk.f k l0_0 l0_1 l1_0 l1_1=some r):
  Calls Try.prog 27 #[.agg #[.slice A0_0 l0_0.length c0_0,.slice A0_1 l0_1.length c0_1],.agg #[.slice A1_0 l1_0.length c1_0,.slice A1_1 l1_1.length c1_1]] w fun e w'=>e= .returned (.bool r)∧Below w.heap.size w w':=by
 have hu32:=Try.underlying32
 have HR0_0:=zz hr0_0
 have HC0_0:=zz hc0_0
 clear hr0_0 hc0_0
 have HR0_1:=zz hr0_1
 have HC0_1:=zz hc0_1
 clear hr0_1 hc0_1
 have HR1_0:=zz hr1_0
 have HC1_0:=zz hc1_0
 clear hr1_0 hc1_0
 have HR1_1:=zz hr1_1
 have HC1_1:=zz hc1_1
 clear hr1_1 hc1_1
 have HB:=zz (Below.refl w.heap.size w)
 have H:((laws_eqStringS.f k l0_0 l1_0).bind fun t271=>(if t271=true then ((laws_eqPutS.f k l0_1 l1_1).bind fun t272=>(if t272=true then (some true) else (none))) else (none)))=some r:=h
 clear h
 replace H:=Option.bind_eq_some_iff.mp H
 obtain ⟨t271,A30,H⟩:=H
 replace H:(if t271=true then ((laws_eqPutS.f k l0_1 l1_1).bind fun t272=>(if t272=true then (some true) else (none))) else (none))=some r:=H
 have A3:=zz A30
 clear A30
 by_cases c4:t271=true
 ·subst c4
  rw [if_pos rfl] at H
  replace H:=Option.bind_eq_some_iff.mp H
  obtain ⟨t272,A50,H⟩:=H
  replace H:(if t272=true then (some true) else (none))=some r:=H
  have A5:=zz A50
  clear A50
  by_cases c6:t272=true
  ·subst c6
   rw [if_pos rfl] at H
   obtain rfl:=Option.some.inj H
   go_enter Try.func27,Try.ntmps27
   go_wp2_with (first|((with_reducible refine zm (N:=2) rfl ?_);refine zq ?hg (N:=2) ?hd (cs:= #[.slice A0_0 l0_0.length c0_0,.slice A0_1 l0_1.length c0_1]) (t:=32) ?hr ?_;(case hd=>rfl);(case hg=>rfl);(case hr=>first|(go_simp;done)|(go_simp;rfl));intro gb269 hg w7 hbox hb;have n0_:=zz (ze zq2 hb);have n1_:=zz (hbox);have n2_:=zz ((by rw [hg];exact (zc zq2):w.heap.size≤gb269));have n3_:=zz ((by rw [hg];exact (zc zq2):w.heap.size≤gb269));clear HB;have HB:=n0_;have BK269:=n1_;have GW269:=n2_;have GE269:=n3_;clear n0_ n1_ n2_ n3_;clear hb hbox hg)|((with_reducible refine zm (N:=3) rfl ?_);refine zq ?hg (N:=3) ?hd (cs:= #[.slice A1_0 l1_0.length c1_0,.slice A1_1 l1_1.length c1_1]) (t:=32) ?hr ?_;(case hd=>rfl);(case hg=>rfl);(case hr=>first|(go_simp;done)|(go_simp;rfl));intro gb270 hg w8 hbox hb;have n0_:=zz (zi (g:=gb269) (o:= .cells #[.slice A0_0 l0_0.length c0_0,.slice A0_1 l0_1.length c0_1] 32 (0,0)) (zq0 BK269.out) hb);have n1_:=zz (ze (zq3 GE269.out) hb);have n2_:=zz (hbox);have n3_:=zz ((by rw [hg];exact (zc (zq3 GE269.out)):w.heap.size≤gb270));have n4_:=zz ((by rw [hg];exact (zc (zq3 GE269.out)):w.heap.size≤gb270));have n5_:=zz ((by rw [hg];exact Nat.ne_of_lt (zu (g:=gb269) (o:= .cells #[.slice A0_0 l0_0.length c0_0,.slice A0_1 l0_1.length c0_1] 32 (0,0)) (zq0 BK269.out)):gb269≠gb270));have n6_:=zz ((by rw [hg];exact Nat.ne_of_gt (zu (g:=gb269) (o:= .cells #[.slice A0_0 l0_0.length c0_0,.slice A0_1 l0_1.length c0_1] 32 (0,0)) (zq0 BK269.out)):gb270≠gb269));clear BK269;clear HB;have BK269:=n0_;have HB:=n1_;have BK270:=n2_;have GW270:=n3_;have GE270:=n4_;have NB269_270:=n5_;have NB270_269:=n6_;clear n0_ n1_ n2_ n3_ n4_ n5_ n6_;clear hb hbox hg;have hnb9:=NB269_270.out;have hnc9:=NB270_269.out;have hcz10_0:w8.cell? ⟨gb269,0,none⟩=some (.slice A0_0 l0_0.length c0_0):=(zb BK269.out 0).trans rfl;have hcz10_1:w8.cell? ⟨gb269,1,none⟩=some (.slice A0_1 l0_1.length c0_1):=(zb BK269.out 1).trans rfl;have hfz10_0:=za BK269.out 0;have hfz10_1:=za BK269.out 1;have hcz11_0:w8.cell? ⟨gb270,0,none⟩=some (.slice A1_0 l1_0.length c1_0):=(zb BK270.out 0).trans rfl;have hcz11_1:w8.cell? ⟨gb270,1,none⟩=some (.slice A1_1 l1_1.length c1_1):=(zb BK270.out 1).trans rfl;have hfz11_0:=za BK270.out 0;have hfz11_1:=za BK270.out 1)|((with_reducible refine zo (f:=60) rfl ?_);refine zw (some 9) rfl rfl Try.func60 zq15 rfl #[.slice A0_0 l0_0.length c0_0,.slice A1_0 l1_0.length c1_0] rfl zq4 ?_;(with_reducible refine (laws_eqStringS.calls k _ _ l0_0 _ _ l1_0 true _ ?side1 ?side2 ?side3 ?side4 A3.out).mono ?_);(case side1=>repeat (first|exact (Kd.C_below HR0_0.out HB.out)|(with_reducible refine Kd.C_alloc ?_ _)|(with_reducible refine Kd.C_drewN ?_ _)|(with_reducible refine Kd.C_drew ?_)));(case side2=>exact HC0_0.out);(case side3=>repeat (first|exact (Kd.C_below HR1_0.out HB.out)|(with_reducible refine Kd.C_alloc ?_ _)|(with_reducible refine Kd.C_drewN ?_ _)|(with_reducible refine Kd.C_drew ?_)));(case side4=>exact HC1_0.out);rintro e w' ⟨rfl,⟨nd,rfl⟩⟩;refine ⟨_,rfl,?_⟩)|((with_reducible refine zo (f:=71) rfl ?_);refine zw (some 15) rfl rfl Try.func71 zq15 rfl #[.slice A0_1 l0_1.length c0_1,.slice A1_1 l1_1.length c1_1] rfl zq4 ?_;(with_reducible refine (laws_eqPutS.calls k _ _ l0_1 _ _ l1_1 true _ ?side1 ?side2 ?side3 ?side4 A5.out).mono ?_);(case side1=>repeat (first|exact (Kd.C_below HR0_1.out (zq1 GE269.out GE270.out))|(with_reducible refine Kd.C_alloc ?_ _)|(with_reducible refine Kd.C_drewN ?_ _)|(with_reducible refine Kd.C_drew ?_)));(case side2=>exact HC0_1.out);(case side3=>repeat (first|exact (Kd.C_below HR1_1.out (zq1 GE269.out GE270.out))|(with_reducible refine Kd.C_alloc ?_ _)|(with_reducible refine Kd.C_drewN ?_ _)|(with_reducible refine Kd.C_drew ?_)));(case side4=>exact HC1_1.out);rintro e w12 ⟨rfl,hb⟩;refine ⟨_,rfl,?_⟩;have n0_:=zz (zi (g:=gb269) (o:= .cells #[.slice A0_0 l0_0.length c0_0,.slice A0_1 l0_1.length c0_1] 32 (0,0)) (zq0 BK269.out) hb);have n1_:=zz (zi (g:=gb270) (o:= .cells #[.slice A1_0 l1_0.length c1_0,.slice A1_1 l1_1.length c1_1] 32 (0,0)) (zq0 BK270.out) hb);have n2_:=zz (ze (zq1 GE269.out GE270.out) hb);clear BK269;clear BK270;clear HB;have BK269:=n0_;have BK270:=n1_;have HB:=n2_;clear n0_ n1_ n2_;(try clear hb);(try clear hb2);(try clear hk);(try clear hi)))
   go_ret
   exact ⟨zq10,by repeat (first|(with_reducible first|exact HB.out|apply zg|apply zd|apply zk|refine zn ?_ GE269.out|refine zn ?_ GE270.out)|exact HB.out)⟩
  ·replace c6:=Bool.eq_false_iff.mpr c6
   subst c6
   rw [if_neg (show ¬(false=true) by decide)] at H
   exact absurd H zq52
 ·replace c4:=Bool.eq_false_iff.mpr c4
  subst c4
  rw [if_neg (show ¬(false=true) by decide)] at H
  exact absurd H zq52
def laws_eqIntS.l0:Nat→List Int→List Int→Int→Option (Bool)
 |0,_,_,_=>none
 |k+1,x0,x1,x5=>if x5<(x0.length:Int) then (if 0≤x5 then (if x5<(x1.length:Int) then (if (rd x0 x5)=(rd x1 x5) then (laws_eqIntS.l0 k x0 x1 (wrap64 (x5+1))) else (none)) else (none)) else (none)) else (some true)
def laws_eqIntS.f (k:Nat) (l0:List Int) (l1:List Int):Option (Bool):=if (l0.length:Int)=(l1.length:Int) then (laws_eqIntS.l0 k l0 l1 0) else (none)
theorem laws_eqIntS.mono_l:∀k,(∀y0 y1 y2,LeO (laws_eqIntS.l0 k y0 y1 y2) (laws_eqIntS.l0 (k+1) y0 y1 y2))
 |0=>fun _ _ _ r h=>by simp [laws_eqIntS.l0] at h
 |k+1=>by
  have ih0:=laws_eqIntS.mono_l k
  ·intro y0 y1 y2
   unfold laws_eqIntS.l0
   repeat' first
   |(with_reducible exact ih0 _ _ _)
   |(with_reducible exact LeO.refl _)
   |(with_reducible exact LeO.none _)
   |(with_reducible refine LeO.ite ?_ ?_)
   |(with_reducible refine LeO.bind ?_ (fun _=> ?_))
   |exact ih0 _ _ _
theorem laws_eqIntS.mono:∀a0 a1 k,LeO (laws_eqIntS.f k a0 a1) (laws_eqIntS.f (k+1) a0 a1):=by
 intro a0 a1 k
 have ih0:=laws_eqIntS.mono_l k
 unfold laws_eqIntS.f
 repeat' first
   |(with_reducible exact ih0 _ _ _)
   |(with_reducible exact LeO.refl _)
   |(with_reducible exact LeO.none _)
   |(with_reducible refine LeO.ite ?_ ?_)
   |(with_reducible refine LeO.bind ?_ (fun _=> ?_))
   |exact ih0 _ _ _
theorem laws_eqIntS.calls (k:Nat) (A0:Option Addr) (c0:Nat) (l0:List Int) (A1:Option Addr) (c1:Nat) (l1:List Int) (r:Bool) (w:World) (hr0:Kd.C (Kd.int .i64) w A0 l0.length l0) (hc0:l0.length≤c0) (hr1:Kd.C (Kd.int .i64) w A1 l1.length l1) (hc1:l1.length≤c1) (h:laws_eqIntS.f k l0 l1=some r):
  Calls Try.prog 50 #[.slice A0 l0.length c0,.slice A1 l1.length c1] w fun e w'=>e= .returned (.bool r)∧Drawn0 w w':=by
 have HR0:=zz hr0
 have HC0:=zz hc0
 clear hr0 hc0
 have HR1:=zz hr1
 have HC1:=zz hc1
 clear hr1 hc1
 have H:(if (l0.length:Int)=(l1.length:Int) then (laws_eqIntS.l0 k l0 l1 0) else (none))=some r:=h
 clear h
 by_cases c3:(l0.length:Int)=(l1.length:Int)
 ·rw [if_pos c3] at H
  have c3b0:((l0.length:Int)==(l1.length:Int))=true:=beq_iff_eq.mpr c3
  have c3b1:((l0.length:Int) !=(l1.length:Int))=false:=bne_eq_false_iff_eq.mpr c3
  have c3b2:(l0.length==l1.length)=true:=by first|simpa using c3|(simp at c3 ⊢;omega)
  clear c3
  have H':=zz H
  clear H
  go_enter Try.func50,Try.ntmps50
  go_wp2
  repeat (go_quiet (fail);try go_wp2)
  go_loopg [5] k (fun kq v5 w'=>∃(x5_1:Int),v5= .int .i64 x5_1∧Z0 (laws_eqIntS.l0 kq l0 l1 x5_1=some r)∧Z0 (kq≤k)∧Drawn0 w w')
  case atStart=>exact ⟨(0),zq16,H',⟨Nat.le_refl _⟩,by repeat (first|exact Drawn0.refl _|apply Drawn0.step)⟩
  case round=>
   clear H'
   try clear c1
   try clear c3
   try clear c3b0
   try clear c3b1
   try clear c3b2
   obtain ⟨x5_1,rfl,HA,HK1,⟨m1,rfl⟩⟩:=hrel
   cases gk with
   |zero=>exact absurd HA.out (by simp [laws_eqIntS.l0])
   |succ k1=>
    have H:=HA.out
    clear HA
    simp only [laws_eqIntS.l0] at H
    by_cases c4:x5_1<(l0.length:Int)
    ·rw [if_pos c4] at H
     have c4b0:=decide_eq_true c4
     clear c4
     by_cases c5:0≤x5_1
     ·rw [if_pos c5] at H
      have c5b0:=decide_eq_true c5
      clear c5
      by_cases c6:x5_1<(l1.length:Int)
      ·rw [if_pos c6] at H
       have c6b0:=decide_eq_true c6
       clear c6
       by_cases c7:(rd l0 x5_1)=(rd l1 x5_1)
       ·rw [if_pos c7] at H
        have c7b0:((rd l0 x5_1)==(rd l1 x5_1))=true:=beq_iff_eq.mpr c7
        have c7b1:((rd l0 x5_1) !=(rd l1 x5_1))=false:=bne_eq_false_iff_eq.mpr c7
        clear c7
        have H':=zz H
        clear H
        have p273:0≤(x5_1:Int):=of_decide_eq_true zq24
        have q273:x5_1<(l0.length:Int):=of_decide_eq_true zq24
        obtain ⟨ad273,e273,hx273_0⟩:=Kd.at_int HR0.out x5_1 p273 q273
        cases e273
        replace p273:=eq_true p273
        replace q273:=eq_true q273
        have p274:0≤(x5_1:Int):=of_decide_eq_true zq24
        have q274:x5_1<(l1.length:Int):=of_decide_eq_true zq24
        obtain ⟨ad274,e274,hx274_0⟩:=Kd.at_int HR1.out x5_1 p274 q274
        cases e274
        replace p274:=eq_true p274
        replace q274:=eq_true q274
        go_wp2
        repeat (go_quiet (fail);try go_wp2)
        go_roundg k1
        case measure=>have:=HK1.out;omega
        case rel=>exact ⟨(wrap64 (x5_1+1)),zq16,H',⟨zq95 HK1.out⟩,by repeat (first|exact Drawn0.refl _|apply Drawn0.step)⟩
       ·rw [if_neg c7] at H
        exact absurd H zq52
      ·rw [if_neg c6] at H
       exact absurd H zq52
     ·rw [if_neg c5] at H
      exact absurd H zq52
    ·rw [if_neg c4] at H
     have c4b0:=decide_eq_false c4
     clear c4
     obtain rfl:=Option.some.inj H
     go_wp2
     repeat (go_quiet (fail);try go_wp2)
     go_ret
     exact ⟨zq16,by repeat (first|exact Drawn0.refl _|apply Drawn0.step)⟩
 ·rw [if_neg c3] at H
  exact absurd H zq52
def laws_markText.l0:Nat→Int→ByteArray→Option (ByteArray)
 |0,_,_=>none
 |k+1,x0,x3=>if x0>0 then ((some (([(wrap64 (48+(Int.tmod x0 10)))%256]:List Int):List Int)).bind fun y281=>(if (strOfNums y281).size+x3.size≤9223372036854775807 then (laws_markText.l0 k (wrap64 (Int.tdiv x0 10)) ((strOfNums y281)++x3)) else (none))) else (if 1+x3.size≤9223372036854775807 then (some ((⟨#[109]⟩:ByteArray)++x3)) else (none))
def laws_markText.f (k:Nat) (a0:Int):Option (ByteArray):=if a0≤0 then (some (⟨#[109,48]⟩:ByteArray)) else (laws_markText.l0 k a0 (⟨#[]⟩:ByteArray))
theorem laws_markText.mono_l:∀k,(∀y0 y1,LeO (laws_markText.l0 k y0 y1) (laws_markText.l0 (k+1) y0 y1))
 |0=>fun _ _ r h=>by simp [laws_markText.l0] at h
 |k+1=>by
  have ih0:=laws_markText.mono_l k
  ·intro y0 y1
   unfold laws_markText.l0
   repeat' first
   |(with_reducible exact ih0 _ _)
   |(with_reducible exact LeO.refl _)
   |(with_reducible exact LeO.none _)
   |(with_reducible refine LeO.ite ?_ ?_)
   |(with_reducible refine LeO.bind ?_ (fun _=> ?_))
   |exact ih0 _ _
theorem laws_markText.mono:∀a0 k,LeO (laws_markText.f k a0) (laws_markText.f (k+1) a0):=by
 intro a0 k
 have ih0:=laws_markText.mono_l k
 unfold laws_markText.f
 repeat' first
   |(with_reducible exact ih0 _ _)
   |(with_reducible exact LeO.refl _)
   |(with_reducible exact LeO.none _)
   |(with_reducible refine LeO.ite ?_ ?_)
   |(with_reducible refine LeO.bind ?_ (fun _=> ?_))
   |exact ih0 _ _
theorem laws_markText.calls (k:Nat) (a0:Int) (r:ByteArray) (w:World) (h:laws_markText.f k a0=some r):
  Calls Try.prog 114 #[.int .i64 a0] w fun e w'=>e= .returned (.string r)∧Below w.heap.size w w':=by
 have HB:=zz (Below.refl w.heap.size w)
 have H:(if a0≤0 then (some (⟨#[109,48]⟩:ByteArray)) else (laws_markText.l0 k a0 (⟨#[]⟩:ByteArray)))=some r:=h
 clear h
 by_cases c2:a0≤0
 ·rw [if_pos c2] at H
  have c2b0:=decide_eq_true c2
  clear c2
  obtain rfl:=Option.some.inj H
  go_enter Try.func114,Try.ntmps114
  go_wp2
  go_ret
  exact ⟨zq10,by repeat (first|(with_reducible first|exact HB.out|apply zg|apply zd|apply zk)|exact HB.out)⟩
 ·rw [if_neg c2] at H
  have c2b0:=decide_eq_false c2
  clear c2
  have H':=zz H
  clear H
  go_enter Try.func114,Try.ntmps114
  go_wp2
  go_loopg [0,3] k (fun kq v0 v3 w'=>∃(x0_1:Int) (x3_1:ByteArray),v0= .int .i64 x0_1∧v3= .string x3_1∧Z0 (laws_markText.l0 kq x0_1 x3_1=some r)∧Z0 (kq≤k)∧Z0 (Below w.heap.size w w'))
  case atStart=>exact ⟨(a0),((⟨#[]⟩:ByteArray)),zq16,zq16,H',⟨Nat.le_refl _⟩,⟨by repeat (first|(with_reducible first|exact HB.out|apply zg|apply zd|apply zk)|exact HB.out)⟩⟩
  case round=>
   clear H'
   try clear c2
   try clear c2b0
   obtain ⟨x0_1,x3_1,rfl,rfl,HA,HK1,HB⟩:=hrel
   cases gk with
   |zero=>exact absurd HA.out (by simp [laws_markText.l0])
   |succ k1=>
    have H:=HA.out
    clear HA
    simp only [laws_markText.l0] at H
    by_cases c3:x0_1>0
    ·rw [if_pos c3] at H
     have c3b0:decide (0<x0_1)=true:=decide_eq_true c3
     clear c3
     obtain ⟨y281,hy281⟩:∃y_:List Int,y_=(([(wrap64 (48+(Int.tmod x0_1 10)))%256]:List Int)):=⟨_,rfl⟩
     replace H:(if (strOfNums y281).size+x3_1.size≤9223372036854775807 then (laws_markText.l0 k1 (wrap64 (Int.tdiv x0_1 10)) ((strOfNums y281)++x3_1)) else (none))=some r:=zq8 hy281
     have Ny281:=zz hy281
     clear hy281
     by_cases c4:(strOfNums y281).size+x3_1.size≤9223372036854775807
     ·rw [if_pos c4] at H
      have c4b0:=eq_true c4
      have c4b1:=decide_eq_true c4
      try have c4b2:(9223372036854775807<(strOfNums y281).size+x3_1.size)=False:=eq_false (Nat.not_lt.2 c4)
      have H':=zz H
      clear H
      go_wp2_with (first|((with_reducible refine zm (N:=12) rfl ?_);refine Kd.R_lit (Kd.int .u8) _ 5 ?hg (N:=12) ?hd (xs:=([(wrap64 (48+(Int.tmod x0_1 10)))%256]:List Int)) (inner:=[.int .u8 ((wrap64 (48+(Int.tmod x0_1 10)))%256)]) (ok:=fun _=>True) (okp:=fun _=>True) ?hr ?hp (fun _ hk=>hk) trivial (Below.refl _ _) (Nat.le_refl _) zq52 ?_;(case hd=>rfl);(case hg=>rfl);(case hr=>first|(go_simp;done)|(go_simp;rfl));(case hp=>exact (Reps.one (show Kd.M (Kd.int .u8) _ _ _ ((wrap64 (48+(Int.tmod x0_1 10)))%256) [.int .u8 ((wrap64 (48+(Int.tmod x0_1 10)))%256)] from rfl) (Reps.none _ _)));intro v282 w5 ho6 hb hg_ hnew_;clear hg_ hnew_;(first|rw [←Ny281.out] at ho6|(simp only [Int.reduceToNat] at ho6;rw [←Ny281.out] at ho6));have n0_:=zz (Kd.R_lower ho6 (zc zq2));have n1_:=zz (ze zq2 hb);clear HB;have HO283:=n0_;have HB:=n1_;clear n0_ n1_;clear hb ho6;have hcv7:=zVa (P:=Try.prog) Try.underlying171 Try.underlying5 Try.underlying9 (Kd.own_of_R HO283.out)))
      go_roundg k1
      case measure=>have:=HK1.out;omega
      case rel=>exact ⟨(wrap64 (Int.tdiv x0_1 10)),((strOfNums y281)++x3_1),zq16,zq16,H',⟨zq95 HK1.out⟩,⟨by repeat (first|(with_reducible first|exact HB.out|apply zg|apply zd|apply zk)|exact HB.out)⟩⟩
     ·rw [if_neg c4] at H
      exact absurd H zq52
    ·rw [if_neg c3] at H
     have c3b0:decide (0<x0_1)=false:=decide_eq_false c3
     clear c3
     by_cases c8:1+x3_1.size≤9223372036854775807
     ·rw [if_pos c8] at H
      have c8b0:=eq_true c8
      have c8b1:=decide_eq_true c8
      try have c8b2:(9223372036854775807<1+x3_1.size)=False:=eq_false (Nat.not_lt.2 c8)
      obtain rfl:=Option.some.inj H
      go_wp2
      go_ret
      exact ⟨zq10,by repeat (first|(with_reducible first|exact HB.out|apply zg|apply zd|apply zk)|exact HB.out)⟩
     ·rw [if_neg c8] at H
      exact absurd H zq52
def laws_markStringS.l0:Nat→List ByteArray→Int→Int→Option (Int×List ByteArray)
 |0,_,_,_=>none
 |k+1,x0,x1,x5=>if x5<(x0.length:Int) then ((laws_markText.f k x1).bind fun t284=>(if 0≤x5 then (laws_markStringS.l0 k (x0.set (x5:Int).toNat t284) (wrap64 (x1+1)) (wrap64 (x5+1))) else (none))) else (some (x1,x0))
def laws_markStringS.f (k:Nat) (l0:List ByteArray) (a1:Int):Option (Int×List ByteArray):=laws_markStringS.l0 k l0 a1 0
theorem laws_markStringS.calls (k:Nat) (P0_:Nat→Prop) (u9000_:Value) (l0:List ByteArray) (a1:Int) (r1:Int) (r2:List ByteArray) (w0 w:World) (hB:Below w0.heap.size w0 w) (ho0:Kd.R Kd.string 9 w w0.heap.size P0_ u9000_ l0) (h:laws_markStringS.f k l0 a1=some (r1,r2)):
  Calls Try.prog 61 #[u9000_,.int .i64 a1] w fun e w'=>e= .returned (.int .i64 r1)∧Kd.R Kd.string 9 w' w0.heap.size (fun k_=>(P0_ k_∨w.heap.size≤k_)) u9000_ r2∧Below w0.heap.size w0 w'∧Kept w w' (fun k_=>P0_ k_):=by
 have HO0:=zz (show Kd.R Kd.string 9 w w0.heap.size (fun k_=>(P0_ k_∨w.heap.size≤k_)) u9000_ l0 from Kd.R_mono ho0 (fun k_ hk=>(.inl hk)))
 have HK:=zz (Kept.refl w (fun k_=>P0_ k_))
 have HW0:=zz hB.size
 have HB:=zz hB
 clear hB
 have H:(laws_markStringS.l0 k l0 a1 0)=some (r1,r2):=h
 clear h
 have H':=zz H
 clear H
 go_enter Try.func61,Try.ntmps61
 go_wp2
 go_loopg [1,5] k (fun kq v1 v5 w'=>∃(x0_1:List ByteArray) (x1_1:Int) (x5_1:Int),v1= .int .i64 x1_1∧v5= .int .i64 x5_1∧Z0 (laws_markStringS.l0 kq x0_1 x1_1 x5_1=some (r1,r2))∧Z0 (kq≤k)∧Z0 (Kd.R Kd.string 9 w' w0.heap.size (fun k_=>(P0_ k_∨w.heap.size≤k_)) u9000_ x0_1)∧Z0 (Kept w w' (fun k_=>P0_ k_))∧Z0 (Below w0.heap.size w0 w'))
 case atStart=>exact ⟨(l0),(a1),(0),zq16,zq16,H',⟨Nat.le_refl _⟩,⟨by (with_reducible repeat (first|apply Kd.R_alloc|apply Kd.R_drewN|apply Kd.R_drew));exact HO0.out⟩,⟨by repeat (first|(with_reducible first|exact HK.out|apply Kept.alloc|apply Kept.drewN|apply Kept.drew)|exact HK.out)⟩,⟨by repeat (first|(with_reducible first|exact HB.out|apply zg|apply zd|apply zk)|exact HB.out)⟩⟩
 case round=>
  clear H'
  obtain ⟨x0_1,x1_1,x5_1,rfl,rfl,HA,HK1,HO_0,HK,HB⟩:=hrel
  cases gk with
  |zero=>exact absurd HA.out (by simp [laws_markStringS.l0])
  |succ k1=>
   have H:=HA.out
   clear HA
   simp only [laws_markStringS.l0] at H
   by_cases c3:x5_1<(x0_1.length:Int)
   ·rw [if_pos c3] at H
    have c3b0:=decide_eq_true c3
    clear c3
    replace H:=Option.bind_eq_some_iff.mp H
    obtain ⟨t284,A40,H⟩:=H
    replace H:(if 0≤x5_1 then (laws_markStringS.l0 k1 (x0_1.set (x5_1:Int).toNat t284) (wrap64 (x1_1+1)) (wrap64 (x5_1+1))) else (none))=some (r1,r2):=H
    have A4:=zz A40
    clear A40
    by_cases c5:0≤x5_1
    ·rw [if_pos c5] at H
     have c5b0:=decide_eq_true c5
     clear c5
     obtain ⟨y285,hy285⟩:∃y_:List ByteArray,y_=(x0_1.set (x5_1:Int).toNat t284):=⟨_,rfl⟩
     replace H:(laws_markStringS.l0 k1 y285 (wrap64 (x1_1+1)) (wrap64 (x5_1+1)))=some (r1,r2):=zq8 hy285
     have Ny285:=zz hy285
     clear hy285
     have H':=zz H
     clear H
     obtain ⟨Ao7,co7,eo7⟩:=Kd.R_slice HO_0.out
     subst eo7
     go_wp2_with (first|((with_reducible refine zo (f:=114) rfl ?_);refine zw (some 15) rfl rfl Try.func114 zq15 rfl #[.int .i64 x1_1] rfl zq4 ?_;(with_reducible refine (laws_markText.calls k1 x1_1 t284 _ A4.out).mono ?_);rintro e w8 ⟨rfl,hb⟩;refine ⟨_,rfl,?_⟩;have n0_:=zz (Kd.R_below (zq5 HO_0.out) hb);have n1_:=zz (Kept.below (S:=(fun k_=>P0_ k_)) zq54 hb);have n2_:=zz (ze zq2 hb);clear HO_0;clear HK;clear HB;have HO_0:=n0_;have HK:=n1_;have HB:=n2_;clear n0_ n1_ n2_;(try clear hb);(try clear hb2);(try clear hk);(try clear hi);have p6:0≤(x5_1:Int):=of_decide_eq_true zq24;have q6:(x5_1:Int)<((x0_1.length:Int):Int):=of_decide_eq_true zq24;obtain ⟨go6,co6,eo6,gb6,gl6,cl6,HG6⟩:=Kd.R_form HO_0.out zq11;(first|cases eo6|(injection eo6 with ea_ en_ ec_;(first|subst ea_|(injection ea_ with ea_;subst ea_));subst ec_;clear en_));have GB6:=zz gb6;have GG6:=zz HG6;clear gb6 gl6 HG6;have HMgo6:=zz (show (P0_ go6∨w.heap.size≤go6) from (HO_0.out.1 _ rfl));obtain ⟨hx6_0,hf6_0⟩:=Kd.R_celln (⟨#[]⟩:ByteArray) HO_0.out (x5_1:Int) p6 q6;replace p6:=eq_true p6;replace q6:=eq_true q6;obtain ⟨hy9_,hz9_⟩:=Kd.R_celln (⟨#[]⟩:ByteArray) HO_0.out (x5_1:Int) (of_decide_eq_true zq24) (of_decide_eq_true zq24);have HP9:=Kd.R_putg HO_0.out (x5_1:Int) t284)|((with_reducible refine zv (t:=9) (p:=16) rfl ?_);refine zga (t:=9) (p:=16) (v:= ?vo_w10) (w1:=(w8.setCell ⟨go6,(x5_1:Int).toNat,none⟩ (.string t284))) ?hg ?ho ?hn ?hr ?_;(case ho=>rfl);(case hg=>rfl);(case hn=>rfl);(case hr=>first|(go_simp;done)|(go_simp;rfl));intro w10 hw;have hg:w8.grownBy w10 (some go6):=(by rw [hw];exact HP9.2);have hp_:Kd.R Kd.string 9 w10 w0.heap.size (fun k_=>(P0_ k_∨w.heap.size≤k_)) (.slice (some ⟨go6,0,none⟩) x0_1.length co7) y285:=(by rw [hw,Ny285.out];exact HP9.1);clear HP9;have n0_:=zz (hp_);have n1_:=zz ((by rw [hw];exact zn (HB.out) GB6.out:Below w0.heap.size w0 w10));have n2_:=zz (Kept.of_grown (S:=(fun k_=>P0_ k_)) hg zq54 (fun k_ e_=>(HO_0.out.1 k_ e_)));clear HO_0;clear HB;clear HK;have HO_0:=n0_;have HB:=n1_;have HK:=n2_;clear n0_ n1_ n2_;clear hg hw hp_))
     go_roundg k1
     case measure=>have:=HK1.out;omega
     case rel=>exact ⟨(y285),(wrap64 (x1_1+1)),(wrap64 (x5_1+1)),zq16,zq16,H',⟨zq95 HK1.out⟩,⟨by (with_reducible repeat (first|apply Kd.R_alloc|apply Kd.R_drewN|apply Kd.R_drew));exact HO_0.out⟩,⟨by repeat (first|(with_reducible first|exact HK.out|apply Kept.alloc|apply Kept.drewN|apply Kept.drew)|exact HK.out)⟩,⟨by repeat (first|(with_reducible first|exact HB.out|apply zg|apply zd|apply zk)|exact HB.out)⟩⟩
    ·rw [if_neg c5] at H
     exact absurd H zq52
   ·rw [if_neg c3] at H
    have c3b0:=decide_eq_false c3
    clear c3
    simp only [Option.some.injEq,Prod.mk.injEq] at H
    obtain ⟨rfl,rfl⟩:=H
    obtain ⟨Ao11,co11,eo11⟩:=Kd.R_slice HO_0.out
    subst eo11
    go_wp2
    go_ret
    exact ⟨zq10,by (with_reducible repeat (first|apply Kd.R_alloc|apply Kd.R_drewN|apply Kd.R_drew));exact HO_0.out,by repeat (first|(with_reducible first|exact HB.out|apply zg|apply zd|apply zk)|exact HB.out),by repeat (first|(with_reducible first|exact HK.out|apply Kept.alloc|apply Kept.drewN|apply Kept.drew)|exact HK.out)⟩
def laws_markPutS.l0:Nat→List (S135)→Int→Int→Option (Int×(List (S135)))
 |0,_,_,_=>none
 |k+1,x0,x1,x5=>if x5<(x0.length:Int) then (if 0≤x5 then ((some (x0.set (x5:Int).toNat (⟨x1,(zx x0 x5).f1⟩:S135):List (S135))).bind fun y286=>((laws_markText.f k (wrap64 (x1+1))).bind fun t287=>(laws_markPutS.l0 k (y286.set (x5:Int).toNat (⟨(zx y286 x5).f0,t287⟩:S135)) (wrap64 ((wrap64 (x1+1))+1)) (wrap64 (x5+1))))) else (none)) else (some (x1,x0))
def laws_markPutS.f (k:Nat) (l0:List (S135)) (a1:Int):Option (Int×(List (S135))):=laws_markPutS.l0 k l0 a1 0
theorem laws_markPutS.calls (k:Nat) (P0_:Nat→Prop) (u9000_:Value) (l0:List (S135)) (a1:Int) (r1:Int) (r2:List (S135)) (w0 w:World) (hB:Below w0.heap.size w0 w) (ho0:Kd.R k135 135 w w0.heap.size P0_ u9000_ l0) (h:laws_markPutS.f k l0 a1=some (r1,r2)):
  Calls Try.prog 72 #[u9000_,.int .i64 a1] w fun e w'=>e= .returned (.int .i64 r1)∧Kd.R k135 135 w' w0.heap.size (fun k_=>(P0_ k_∨w.heap.size≤k_)) u9000_ r2∧Below w0.heap.size w0 w'∧Kept w w' (fun k_=>P0_ k_):=by
 have HO0:=zz (show Kd.R k135 135 w w0.heap.size (fun k_=>(P0_ k_∨w.heap.size≤k_)) u9000_ l0 from Kd.R_mono ho0 (fun k_ hk=>(.inl hk)))
 have HK:=zz (Kept.refl w (fun k_=>P0_ k_))
 have HW0:=zz hB.size
 have HB:=zz hB
 clear hB
 have H:(laws_markPutS.l0 k l0 a1 0)=some (r1,r2):=h
 clear h
 have H':=zz H
 clear H
 go_enter Try.func72,Try.ntmps72
 go_wp2
 go_loopg [1,5] k (fun kq v1 v5 w'=>∃(x0_1:List (S135)) (x1_1:Int) (x5_1:Int),v1= .int .i64 x1_1∧v5= .int .i64 x5_1∧Z0 (laws_markPutS.l0 kq x0_1 x1_1 x5_1=some (r1,r2))∧Z0 (kq≤k)∧Z0 (Kd.R k135 135 w' w0.heap.size (fun k_=>(P0_ k_∨w.heap.size≤k_)) u9000_ x0_1)∧Z0 (Kept w w' (fun k_=>P0_ k_))∧Z0 (Below w0.heap.size w0 w'))
 case atStart=>exact ⟨(l0),(a1),(0),zq16,zq16,H',⟨Nat.le_refl _⟩,⟨by (with_reducible repeat (first|apply Kd.R_alloc|apply Kd.R_drewN|apply Kd.R_drew));exact HO0.out⟩,⟨by repeat (first|(with_reducible first|exact HK.out|apply Kept.alloc|apply Kept.drewN|apply Kept.drew)|exact HK.out)⟩,⟨by repeat (first|(with_reducible first|exact HB.out|apply zg|apply zd|apply zk)|exact HB.out)⟩⟩
 case round=>
  clear H'
  obtain ⟨x0_1,x1_1,x5_1,rfl,rfl,HA,HK1,HO_0,HK,HB⟩:=hrel
  cases gk with
  |zero=>exact absurd HA.out (by simp [laws_markPutS.l0])
  |succ k1=>
   have H:=HA.out
   clear HA
   simp only [laws_markPutS.l0] at H
   by_cases c3:x5_1<(x0_1.length:Int)
   ·rw [if_pos c3] at H
    have c3b0:=decide_eq_true c3
    clear c3
    by_cases c4:0≤x5_1
    ·rw [if_pos c4] at H
     have c4b0:=decide_eq_true c4
     clear c4
     obtain ⟨y286,hy286⟩:∃y_:List (S135),y_=(x0_1.set (x5_1:Int).toNat (⟨x1_1,(zx x0_1 x5_1).f1⟩:S135)):=⟨_,rfl⟩
     replace H:((laws_markText.f k1 (wrap64 (x1_1+1))).bind fun t287=>(laws_markPutS.l0 k1 (y286.set (x5_1:Int).toNat (⟨(zx y286 x5_1).f0,t287⟩:S135)) (wrap64 ((wrap64 (x1_1+1))+1)) (wrap64 (x5_1+1))))=some (r1,r2):=zq8 hy286
     have Ny286:=zz hy286
     clear hy286
     replace H:=Option.bind_eq_some_iff.mp H
     obtain ⟨t287,A60,H⟩:=H
     replace H:(laws_markPutS.l0 k1 (y286.set (x5_1:Int).toNat (⟨(zx y286 x5_1).f0,t287⟩:S135)) (wrap64 ((wrap64 (x1_1+1))+1)) (wrap64 (x5_1+1)))=some (r1,r2):=H
     have A6:=zz A60
     clear A60
     obtain ⟨y288,hy288⟩:∃y_:List (S135),y_=(y286.set (x5_1:Int).toNat (⟨(zx y286 x5_1).f0,t287⟩:S135)):=⟨_,rfl⟩
     replace H:(laws_markPutS.l0 k1 y288 (wrap64 ((wrap64 (x1_1+1))+1)) (wrap64 (x5_1+1)))=some (r1,r2):=zq8 hy288
     have Ny288:=zz hy288
     clear hy288
     have H':=zz H
     clear H
     obtain ⟨Ao8,co8,eo8⟩:=Kd.R_slice HO_0.out
     subst eo8
     have p5:0≤(x5_1:Int):=of_decide_eq_true zq24
     have q5:(x5_1:Int)<((x0_1.length:Int):Int):=of_decide_eq_true zq24
     obtain ⟨go5,co5,eo5,gb5,gl5,cl5,HG5⟩:=Kd.R_form HO_0.out zq11
     (first|cases eo5|(injection eo5 with ea_ en_ ec_;(first|subst ea_|(injection ea_ with ea_;subst ea_));subst ec_;clear en_))
     have GB5:=zz gb5
     have GG5:=zz HG5
     clear gb5 gl5 HG5
     have HMgo5:=zz (show (P0_ go5∨w.heap.size≤go5) from (HO_0.out.1 _ rfl))
     obtain ⟨ce5,hcl5,hM5,hcc5,hfr5⟩:=Kd.R_elem HO_0.out z135 (x5_1:Int) p5 q5
     obtain rfl:=zEa hM5
     have hx5_0:wr.cell? ⟨go5,(x5_1:Int).toNat*2,none⟩=some (.int .i64 ((zx x0_1 x5_1).f0)):=hcc5 0 _ rfl
     have hx5_1:wr.cell? ⟨go5,(x5_1:Int).toNat*2+1,none⟩=some (.string ((zx x0_1 x5_1).f1)):=hcc5 1 _ rfl
     have hf5_0:wr.frozen? ⟨go5,(x5_1:Int).toNat*2,none⟩=false:=hfr5 0
     have hf5_1:wr.frozen? ⟨go5,(x5_1:Int).toNat*2+1,none⟩=false:=hfr5 1
     clear hcl5 hcc5 hfr5 hM5
     replace p5:=eq_true p5
     replace q5:=eq_true q5
     have HX9:=zz (show Kd.R k135 135 wr w0.heap.size (fun k_=>(P0_ k_∨w.heap.size≤k_)) (.slice (some ⟨go5,0,none⟩) x0_1.length co8) x0_1 from (zq5 HO_0.out))
     obtain ⟨ce9,hcl9,hM9,hcc9,hfr9⟩:=Kd.R_elem HX9.out z135 (x5_1:Int) (of_decide_eq_true zq24) (zq73 HO_0.out)
     obtain rfl:=zEa hM9
     have HP9:=Kd.R_seg HX9.out (x5_1:Int) (of_decide_eq_true zq24) (zq73 HO_0.out) (seg:=[.int .i64 x1_1]) (j:=0) hcl9 hcc9 (show 1≤2 from by decide) (x':=(⟨x1_1,(zx x0_1 x5_1).f1⟩:S135)) (k135_mkM _ _ _ (⟨x1_1,(zx x0_1 x5_1).f1⟩:S135)) (fun _ hk=>hk)
     have hx9_0:=hcc9 0 _ rfl
     (try simp only [show (k135).sz=2 from rfl,Nat.mul_one,Nat.add_zero] at hx9_0)
     have hf9_0:=hfr9 0
     (try simp only [show (k135).sz=2 from rfl,Nat.mul_one,Nat.add_zero] at hf9_0)
     clear hcl9 hcc9 hfr9 hM9
     go_wp2_with (first|((with_reducible refine zv (t:=3) (p:=16) rfl ?_);refine zga (t:=3) (p:=16) (v:= ?vo_w10) (w1:=(wr.setCell ⟨go5,(x5_1:Int).toNat*2,none⟩ (.int .i64 x1_1))) ?hg ?ho ?hn ?hr ?_;(case ho=>rfl);(case hg=>rfl);(case hn=>rfl);(case hr=>first|(go_simp;done)|(go_simp;rfl));intro w10 hw;have hg:wr.grownBy w10 (some go5):=(by rw [hw];exact HP9.2);have hp_:Kd.R k135 135 w10 w0.heap.size (fun k_=>(P0_ k_∨w.heap.size≤k_)) (.slice (some ⟨go5,0,none⟩) x0_1.length co8) y286:=(by rw [hw,Ny286.out];exact HP9.1);clear HP9;have n0_:=zz (hp_);have n1_:=zz ((by rw [hw];exact zn (HB.out) GB5.out:Below w0.heap.size w0 w10));have n2_:=zz (Kept.of_grown (S:=(fun k_=>P0_ k_)) hg zq54 (fun k_ e_=>(HO_0.out.1 k_ e_)));clear HO_0;clear HB;clear HK;have HO_0:=n0_;have HB:=n1_;have HK:=n2_;clear n0_ n1_ n2_;clear hg hw hp_)|((with_reducible refine zo (f:=114) rfl ?_);refine zw (some 22) rfl rfl Try.func114 zq15 rfl #[.int .i64 (wrap64 (x1_1+1))] rfl zq4 ?_;(with_reducible refine (laws_markText.calls k1 (wrap64 (x1_1+1)) t287 _ A6.out).mono ?_);rintro e w11 ⟨rfl,hb⟩;refine ⟨_,rfl,?_⟩;have n0_:=zz (Kd.R_below (zq5 HO_0.out) hb);have n1_:=zz (Kept.below (S:=(fun k_=>P0_ k_)) zq54 hb);have n2_:=zz (ze zq2 hb);clear HO_0;clear HK;clear HB;have HO_0:=n0_;have HK:=n1_;have HB:=n2_;clear n0_ n1_ n2_;(try clear hb);(try clear hb2);(try clear hk);(try clear hi);have p7:0≤(x5_1:Int):=of_decide_eq_true zq24;have q7:(x5_1:Int)<((x0_1.length:Int):Int):=of_decide_eq_true zq24;obtain ⟨ce7,hcl7,hM7,hcc7,hfr7⟩:=Kd.R_elem HO_0.out z135 (x5_1:Int) p7 q7;obtain rfl:=zEa hM7;have hx7_0:w11.cell? ⟨go5,(x5_1:Int).toNat*2,none⟩=some (.int .i64 ((zx y286 x5_1).f0)):=hcc7 0 _ rfl;have hx7_1:w11.cell? ⟨go5,(x5_1:Int).toNat*2+1,none⟩=some (.string ((zx y286 x5_1).f1)):=hcc7 1 _ rfl;have hf7_0:w11.frozen? ⟨go5,(x5_1:Int).toNat*2,none⟩=false:=hfr7 0;have hf7_1:w11.frozen? ⟨go5,(x5_1:Int).toNat*2+1,none⟩=false:=hfr7 1;clear hcl7 hcc7 hfr7 hM7;replace p7:=eq_true p7;replace q7:=eq_true q7;have HX12:=zz (show Kd.R k135 135 w11 w0.heap.size (fun k_=>(P0_ k_∨w.heap.size≤k_)) (.slice (some ⟨go5,0,none⟩) x0_1.length co8) y286 from (zq5 HO_0.out));obtain ⟨ce12,hcl12,hM12,hcc12,hfr12⟩:=Kd.R_elem HX12.out z135 (x5_1:Int) (of_decide_eq_true zq24) (zq73 HO_0.out);obtain rfl:=zEa hM12;have HP12:=Kd.R_seg HX12.out (x5_1:Int) (of_decide_eq_true zq24) (zq73 HO_0.out) (seg:=[.string t287]) (j:=1) hcl12 hcc12 (show 2≤2 from by decide) (x':=(⟨(zx y286 x5_1).f0,t287⟩:S135)) (k135_mkM _ _ _ (⟨(zx y286 x5_1).f0,t287⟩:S135)) (fun _ hk=>hk);have hx12_1:=hcc12 1 _ rfl;(try simp only [show (k135).sz=2 from rfl,Nat.mul_one,Nat.add_zero] at hx12_1);have hf12_1:=hfr12 1;(try simp only [show (k135).sz=2 from rfl,Nat.mul_one,Nat.add_zero] at hf12_1);clear hcl12 hcc12 hfr12 hM12)|((with_reducible refine zv (t:=9) (p:=24) rfl ?_);refine zga (t:=9) (p:=24) (v:= ?vo_w13) (w1:=(w11.setCell ⟨go5,(x5_1:Int).toNat*2+1,none⟩ (.string t287))) ?hg ?ho ?hn ?hr ?_;(case ho=>rfl);(case hg=>rfl);(case hn=>rfl);(case hr=>first|(go_simp;done)|(go_simp;rfl));intro w13 hw;have hg:w11.grownBy w13 (some go5):=(by rw [hw];exact HP12.2);have hp_:Kd.R k135 135 w13 w0.heap.size (fun k_=>(P0_ k_∨w.heap.size≤k_)) (.slice (some ⟨go5,0,none⟩) x0_1.length co8) y288:=(by rw [hw,Ny288.out];exact HP12.1);clear HP12;have n0_:=zz (hp_);have n1_:=zz ((by rw [hw];exact zn (HB.out) GB5.out:Below w0.heap.size w0 w13));have n2_:=zz (Kept.of_grown (S:=(fun k_=>P0_ k_)) hg zq54 (fun k_ e_=>(HO_0.out.1 k_ e_)));clear HO_0;clear HB;clear HK;have HO_0:=n0_;have HB:=n1_;have HK:=n2_;clear n0_ n1_ n2_;clear hg hw hp_))
     go_roundg k1
     case measure=>have:=HK1.out;omega
     case rel=>exact ⟨(y288),(wrap64 ((wrap64 (x1_1+1))+1)),(wrap64 (x5_1+1)),zq16,zq16,H',⟨zq95 HK1.out⟩,⟨by (with_reducible repeat (first|apply Kd.R_alloc|apply Kd.R_drewN|apply Kd.R_drew));exact HO_0.out⟩,⟨by repeat (first|(with_reducible first|exact HK.out|apply Kept.alloc|apply Kept.drewN|apply Kept.drew)|exact HK.out)⟩,⟨by repeat (first|(with_reducible first|exact HB.out|apply zg|apply zd|apply zk)|exact HB.out)⟩⟩
    ·rw [if_neg c4] at H
     exact absurd H zq52
   ·rw [if_neg c3] at H
    have c3b0:=decide_eq_false c3
    clear c3
    simp only [Option.some.injEq,Prod.mk.injEq] at H
    obtain ⟨rfl,rfl⟩:=H
    obtain ⟨Ao14,co14,eo14⟩:=Kd.R_slice HO_0.out
    subst eo14
    go_wp2
    go_ret
    exact ⟨zq10,by (with_reducible repeat (first|apply Kd.R_alloc|apply Kd.R_drewN|apply Kd.R_drew));exact HO_0.out,by repeat (first|(with_reducible first|exact HB.out|apply zg|apply zd|apply zk)|exact HB.out),by repeat (first|(with_reducible first|exact HK.out|apply Kept.alloc|apply Kept.drewN|apply Kept.drew)|exact HK.out)⟩
def laws_markDisk.f (k:Nat) (l0_0:List ByteArray) (l0_1:List (S135)) (a1:Int):Option (Int×List ByteArray×(List (S135))):=(laws_markStringS.f k l0_0 a1).bind fun bt290=>((laws_markPutS.f k l0_1 bt290.1).bind fun bt292=>(some (bt292.1,bt290.2,bt292.2)))
theorem laws_markDisk.calls (k:Nat) (P0_0_:Nat→Prop) (u9000_:Value) (l0_0:List ByteArray) (P0_1_:Nat→Prop) (u9001_:Value) (l0_1:List (S135)) (a1:Int) (r1:Int) (r2:List ByteArray) (r3:List (S135)) (w0 w:World) (hB:Below w0.heap.size w0 w) (ho0_0:Kd.R Kd.string 9 w w0.heap.size P0_0_ u9000_ l0_0) (ho0_1:Kd.R k135 135 w w0.heap.size P0_1_ u9001_ l0_1) (h:laws_markDisk.f k l0_0 l0_1 a1=some (r1,r2,r3)):
  Calls Try.prog 28 #[.agg #[u9000_,u9001_],.int .i64 a1] w fun e w'=>e= .returned (.int .i64 r1)∧Kd.R Kd.string 9 w' w0.heap.size (fun k_=>((P0_0_ k_∨P0_1_ k_)∨w.heap.size≤k_)) u9000_ r2∧Kd.R k135 135 w' w0.heap.size (fun k_=>((P0_0_ k_∨P0_1_ k_)∨w.heap.size≤k_)) u9001_ r3∧Below w0.heap.size w0 w'∧Kept w w' (fun k_=>P0_0_ k_∨P0_1_ k_):=by
 have hu32:=Try.underlying32
 have HO0_0:=zz (show Kd.R Kd.string 9 w w0.heap.size (fun k_=>((P0_0_ k_∨P0_1_ k_)∨w.heap.size≤k_)) u9000_ l0_0 from Kd.R_mono ho0_0 (fun k_ hk=>(.inl (.inl hk))))
 have HO0_1:=zz (show Kd.R k135 135 w w0.heap.size (fun k_=>((P0_0_ k_∨P0_1_ k_)∨w.heap.size≤k_)) u9001_ l0_1 from Kd.R_mono ho0_1 (fun k_ hk=>(.inl (.inr hk))))
 have HK:=zz (Kept.refl w (fun k_=>P0_0_ k_∨P0_1_ k_))
 have HW0:=zz hB.size
 have HB:=zz hB
 clear hB
 have H:((laws_markStringS.f k l0_0 a1).bind fun bt290=>((laws_markPutS.f k l0_1 bt290.1).bind fun bt292=>(some (bt292.1,bt290.2,bt292.2))))=some (r1,r2,r3):=h
 clear h
 replace H:=Option.bind_eq_some_iff.mp H
 obtain ⟨⟨t290,t291⟩,A30,H⟩:=H
 replace H:((laws_markPutS.f k l0_1 t290).bind fun bt292=>(some (bt292.1,t291,bt292.2)))=some (r1,r2,r3):=H
 have A3:=zz A30
 clear A30
 replace H:=Option.bind_eq_some_iff.mp H
 obtain ⟨⟨t292,t293⟩,A40,H⟩:=H
 replace H:(some (t292,t291,t293))=some (r1,r2,r3):=H
 have A4:=zz A40
 clear A40
 simp only [Option.some.injEq,Prod.mk.injEq] at H
 obtain ⟨rfl,rfl,rfl⟩:=H
 obtain ⟨Ao5,co5,eo5⟩:=Kd.R_slice HO0_0.out
 subst eo5
 obtain ⟨Ao6,co6,eo6⟩:=Kd.R_slice HO0_1.out
 subst eo6
 go_enter Try.func28,Try.ntmps28
 go_wp2_with (first|((with_reducible refine zm (N:=2) rfl ?_);refine zq ?hg (N:=2) ?hd (cs:= #[.slice Ao5 l0_0.length co5,.slice Ao6 l0_1.length co6]) (t:=32) ?hr ?_;(case hd=>rfl);(case hg=>rfl);(case hr=>first|(go_simp;done)|(go_simp;rfl));intro gb289 hg w7 hbox hb;have n0_:=zz (Kd.R_below (zq5 HO0_0.out) hb);have n1_:=zz (Kd.R_below (zq5 HO0_1.out) hb);have n2_:=zz (Kept.below (S:=(fun k_=>P0_0_ k_∨P0_1_ k_)) zq54 hb);have n3_:=zz (ze zq2 hb);have n4_:=zz (hbox);have n5_:=zz ((by rw [hg];exact (by first|exact HK.out.1|exact (show Kept w _ (fun k_=>P0_0_ k_∨P0_1_ k_) from by repeat (first|(with_reducible first|exact HK.out|apply Kept.alloc|apply Kept.drewN|apply Kept.drew)|exact HK.out)).1):w.heap.size≤gb289));have n6_:=zz ((by rw [hg];exact (zc zq2):w0.heap.size≤gb289));clear HO0_0;clear HO0_1;clear HK;clear HB;have HO0_0:=n0_;have HO0_1:=n1_;have HK:=n2_;have HB:=n3_;have BK289:=n4_;have GW289:=n5_;have GE289:=n6_;clear n0_ n1_ n2_ n3_ n4_ n5_ n6_;clear hb hbox hg;have hcz8_0:w7.cell? ⟨gb289,0,none⟩=some (.slice Ao5 l0_0.length co5):=(zb BK289.out 0).trans rfl;have hcz8_1:w7.cell? ⟨gb289,1,none⟩=some (.slice Ao6 l0_1.length co6):=(zb BK289.out 1).trans rfl;have hfz8_0:=za BK289.out 0;have hfz8_1:=za BK289.out 1)|((with_reducible refine zo (f:=61) rfl ?_);refine zw (some 8) rfl rfl Try.func61 zq15 rfl #[.slice Ao5 l0_0.length co5,.int .i64 a1] rfl zq4 ?_;(with_reducible refine (laws_markStringS.calls k (fun k_=>some k_=(.slice Ao5 l0_0.length co5:Value).ownBlock) (.slice Ao5 l0_0.length co5) l0_0 a1 t290 t291 w0 _ ?side1 ?side2 A3.out).mono ?_);(case side1=>repeat (first|(with_reducible first|exact HB.out|apply zg|apply zd|apply zk|refine zn ?_ GE289.out)|exact HB.out));(case side2=>exact Kd.R_tight rfl HO0_0.out);rintro e w9 ⟨rfl,hy0,hb,hkp⟩;refine ⟨_,rfl,?_⟩;have n0_:=zz (Kd.R_reok rfl hy0 (fun k_ e_=>HO0_0.out.1 k_ e_));have n1_:=zz (Kd.R_mono (ok':=fun k_=>((P0_0_ k_∨P0_1_ k_)∨w.heap.size≤k_)) (Kd.R_keptB ((Kd.R_apart' HO0_1.out (Kd.R_typed HO0_0.out) zq26)) hkp (fun k_ hk_ hs_=>(hk_.2) hs_)) (fun k_ hk_=>hk_.1.1));have n2_:=zz (zBa (zq0 BK289.out) hkp (fun hs_=>(fun e_=>(Kd.R_ne HO0_0.out BK289.out zq26) e_) hs_));have n3_:=zz (Kept.then_ (S:=(fun k_=>P0_0_ k_∨P0_1_ k_)) (zq71 GW289.out) hkp (fun k_ hs_=>(fun e_=>(HO0_0.out.1 k_ e_.symm)) hs_));have n4_:=zz (hb);clear HO0_0;clear HO0_1;clear BK289;clear HK;clear HB;have HO0_0:=n0_;have HO0_1:=n1_;have BK289:=n2_;have HK:=n3_;have HB:=n4_;clear n0_ n1_ n2_ n3_ n4_;(try clear hb);(try clear hkp);(try clear hy0);have hcz10_0:w9.cell? ⟨gb289,0,none⟩=some (.slice Ao5 l0_0.length co5):=(zb BK289.out 0).trans rfl;have hcz10_1:w9.cell? ⟨gb289,1,none⟩=some (.slice Ao6 l0_1.length co6):=(zb BK289.out 1).trans rfl;have hfz10_0:=za BK289.out 0;have hfz10_1:=za BK289.out 1)|((with_reducible refine zo (f:=72) rfl ?_);refine zw (some 12) rfl rfl Try.func72 zq15 rfl #[.slice Ao6 l0_1.length co6,.int .i64 t290] rfl zq4 ?_;(with_reducible refine (laws_markPutS.calls k (fun k_=>some k_=(.slice Ao6 l0_1.length co6:Value).ownBlock) (.slice Ao6 l0_1.length co6) l0_1 t290 t292 t293 w0 _ ?side1 ?side2 A4.out).mono ?_);(case side1=>repeat (first|(with_reducible first|exact HB.out|apply zg|apply zd|apply zk|refine zn ?_ GE289.out)|exact HB.out));(case side2=>exact Kd.R_tight rfl HO0_1.out);rintro e w11 ⟨rfl,hy0,hb,hkp⟩;refine ⟨_,rfl,?_⟩;have n0_:=zz (Kd.R_mono (ok':=fun k_=>((P0_0_ k_∨P0_1_ k_)∨w.heap.size≤k_)) (Kd.R_keptB ((Kd.R_apart' HO0_0.out (Kd.R_typed HO0_1.out) zq26)) hkp (fun k_ hk_ hs_=>(hk_.2) hs_)) (fun k_ hk_=>hk_.1.1));have n1_:=zz (Kd.R_reok rfl hy0 (fun k_ e_=>HO0_1.out.1 k_ e_));have n2_:=zz (zBa (zq0 BK289.out) hkp (fun hs_=>(fun e_=>(Kd.R_ne HO0_1.out BK289.out zq26) e_) hs_));have n3_:=zz (Kept.then_ (S:=(fun k_=>P0_0_ k_∨P0_1_ k_)) (zq71 GW289.out) hkp (fun k_ hs_=>(fun e_=>(HO0_1.out.1 k_ e_.symm)) hs_));have n4_:=zz (hb);clear HO0_0;clear HO0_1;clear BK289;clear HK;clear HB;have HO0_0:=n0_;have HO0_1:=n1_;have BK289:=n2_;have HK:=n3_;have HB:=n4_;clear n0_ n1_ n2_ n3_ n4_;(try clear hb);(try clear hkp);(try clear hy0)))
 go_ret
 exact ⟨zq10,by (with_reducible repeat (first|apply Kd.R_alloc|apply Kd.R_drewN|apply Kd.R_drew));exact HO0_0.out,by (with_reducible repeat (first|apply Kd.R_alloc|apply Kd.R_drewN|apply Kd.R_drew));exact HO0_1.out,by repeat (first|(with_reducible first|exact HB.out|apply zg|apply zd|apply zk|refine zn ?_ GE289.out)|exact HB.out),by repeat (first|(with_reducible first|exact HK.out|apply Kept.alloc|apply Kept.drewN|apply Kept.drew|refine Kept.setCell ?_ (.inr GW289.out) _)|exact HK.out)⟩
def laws_markIntS.l0:Nat→List Int→Int→Int→Option (Int×List Int)
 |0,_,_,_=>none
 |k+1,x0,x1,x5=>if x5<(x0.length:Int) then (if 0≤x5 then (laws_markIntS.l0 k (x0.set (x5:Int).toNat x1) (wrap64 (x1+1)) (wrap64 (x5+1))) else (none)) else (some (x1,x0))
def laws_markIntS.f (k:Nat) (l0:List Int) (a1:Int):Option (Int×List Int):=laws_markIntS.l0 k l0 a1 0
theorem laws_markIntS.calls (k:Nat) (P0_:Nat→Prop) (u9000_:Value) (l0:List Int) (a1:Int) (r1:Int) (r2:List Int) (w0 w:World) (hB:Below w0.heap.size w0 w) (ho0:Kd.R (Kd.int .i64) 3 w w0.heap.size P0_ u9000_ l0) (h:laws_markIntS.f k l0 a1=some (r1,r2)):
  Calls Try.prog 51 #[u9000_,.int .i64 a1] w fun e w'=>e= .returned (.int .i64 r1)∧Kd.R (Kd.int .i64) 3 w' w0.heap.size (fun k_=>(P0_ k_∨w.heap.size≤k_)) u9000_ r2∧Below w0.heap.size w0 w'∧Kept w w' (fun k_=>P0_ k_):=by
 have HO0:=zz (show Kd.R (Kd.int .i64) 3 w w0.heap.size (fun k_=>(P0_ k_∨w.heap.size≤k_)) u9000_ l0 from Kd.R_mono ho0 (fun k_ hk=>(.inl hk)))
 have HK:=zz (Kept.refl w (fun k_=>P0_ k_))
 have HW0:=zz hB.size
 have HB:=zz hB
 clear hB
 have H:(laws_markIntS.l0 k l0 a1 0)=some (r1,r2):=h
 clear h
 have H':=zz H
 clear H
 go_enter Try.func51,Try.ntmps51
 go_wp2
 go_loopg [1,5] k (fun kq v1 v5 w'=>∃(x0_1:List Int) (x1_1:Int) (x5_1:Int),v1= .int .i64 x1_1∧v5= .int .i64 x5_1∧Z0 (laws_markIntS.l0 kq x0_1 x1_1 x5_1=some (r1,r2))∧Z0 (kq≤k)∧Z0 (Kd.R (Kd.int .i64) 3 w' w0.heap.size (fun k_=>(P0_ k_∨w.heap.size≤k_)) u9000_ x0_1)∧Z0 (Kept w w' (fun k_=>P0_ k_))∧Z0 (Below w0.heap.size w0 w'))
 case atStart=>exact ⟨(l0),(a1),(0),zq16,zq16,H',⟨Nat.le_refl _⟩,⟨by (with_reducible repeat (first|apply Kd.R_alloc|apply Kd.R_drewN|apply Kd.R_drew));exact HO0.out⟩,⟨by repeat (first|(with_reducible first|exact HK.out|apply Kept.alloc|apply Kept.drewN|apply Kept.drew)|exact HK.out)⟩,⟨by repeat (first|(with_reducible first|exact HB.out|apply zg|apply zd|apply zk)|exact HB.out)⟩⟩
 case round=>
  clear H'
  obtain ⟨x0_1,x1_1,x5_1,rfl,rfl,HA,HK1,HO_0,HK,HB⟩:=hrel
  cases gk with
  |zero=>exact absurd HA.out (by simp [laws_markIntS.l0])
  |succ k1=>
   have H:=HA.out
   clear HA
   simp only [laws_markIntS.l0] at H
   by_cases c3:x5_1<(x0_1.length:Int)
   ·rw [if_pos c3] at H
    have c3b0:=decide_eq_true c3
    clear c3
    by_cases c4:0≤x5_1
    ·rw [if_pos c4] at H
     have c4b0:=decide_eq_true c4
     clear c4
     obtain ⟨y294,hy294⟩:∃y_:List Int,y_=(x0_1.set (x5_1:Int).toNat x1_1):=⟨_,rfl⟩
     replace H:(laws_markIntS.l0 k1 y294 (wrap64 (x1_1+1)) (wrap64 (x5_1+1)))=some (r1,r2):=zq8 hy294
     have Ny294:=zz hy294
     clear hy294
     have H':=zz H
     clear H
     obtain ⟨Ao6,co6,eo6⟩:=Kd.R_slice HO_0.out
     subst eo6
     have p5:0≤(x5_1:Int):=of_decide_eq_true zq24
     have q5:(x5_1:Int)<((x0_1.length:Int):Int):=of_decide_eq_true zq24
     obtain ⟨go5,co5,eo5,gb5,gl5,cl5,HG5⟩:=Kd.R_form HO_0.out zq11
     (first|cases eo5|(injection eo5 with ea_ en_ ec_;(first|subst ea_|(injection ea_ with ea_;subst ea_));subst ec_;clear en_))
     have GB5:=zz gb5
     have GG5:=zz HG5
     clear gb5 gl5 HG5
     have HMgo5:=zz (show (P0_ go5∨w.heap.size≤go5) from (HO_0.out.1 _ rfl))
     obtain ⟨hx5_0,hf5_0⟩:=Kd.R_celln 0 HO_0.out (x5_1:Int) p5 q5
     replace p5:=eq_true p5
     replace q5:=eq_true q5
     have HP7:=Kd.R_putg HO_0.out (x5_1:Int) x1_1
     go_wp2_with (first|((with_reducible refine zv (t:=3) (p:=15) rfl ?_);refine zga (t:=3) (p:=15) (v:= ?vo_w8) (w1:=(wr.setCell ⟨go5,(x5_1:Int).toNat,none⟩ (.int .i64 x1_1))) ?hg ?ho ?hn ?hr ?_;(case ho=>rfl);(case hg=>rfl);(case hn=>rfl);(case hr=>first|(go_simp;done)|(go_simp;rfl));intro w8 hw;have hg:wr.grownBy w8 (some go5):=(by rw [hw];exact HP7.2);have hp_:Kd.R (Kd.int .i64) 3 w8 w0.heap.size (fun k_=>(P0_ k_∨w.heap.size≤k_)) (.slice (some ⟨go5,0,none⟩) x0_1.length co6) y294:=(by rw [hw,Ny294.out];exact HP7.1);clear HP7;have n0_:=zz (hp_);have n1_:=zz ((by rw [hw];exact zn (HB.out) GB5.out:Below w0.heap.size w0 w8));have n2_:=zz (Kept.of_grown (S:=(fun k_=>P0_ k_)) hg zq54 (fun k_ e_=>(HO_0.out.1 k_ e_)));clear HO_0;clear HB;clear HK;have HO_0:=n0_;have HB:=n1_;have HK:=n2_;clear n0_ n1_ n2_;clear hg hw hp_))
     go_roundg k1
     case measure=>have:=HK1.out;omega
     case rel=>exact ⟨(y294),(wrap64 (x1_1+1)),(wrap64 (x5_1+1)),zq16,zq16,H',⟨zq95 HK1.out⟩,⟨by (with_reducible repeat (first|apply Kd.R_alloc|apply Kd.R_drewN|apply Kd.R_drew));exact HO_0.out⟩,⟨by repeat (first|(with_reducible first|exact HK.out|apply Kept.alloc|apply Kept.drewN|apply Kept.drew)|exact HK.out)⟩,⟨by repeat (first|(with_reducible first|exact HB.out|apply zg|apply zd|apply zk)|exact HB.out)⟩⟩
    ·rw [if_neg c4] at H
     exact absurd H zq52
   ·rw [if_neg c3] at H
    have c3b0:=decide_eq_false c3
    clear c3
    simp only [Option.some.injEq,Prod.mk.injEq] at H
    obtain ⟨rfl,rfl⟩:=H
    obtain ⟨Ao9,co9,eo9⟩:=Kd.R_slice HO_0.out
    subst eo9
    go_wp2
    go_ret
    exact ⟨zq10,by (with_reducible repeat (first|apply Kd.R_alloc|apply Kd.R_drewN|apply Kd.R_drew));exact HO_0.out,by repeat (first|(with_reducible first|exact HB.out|apply zg|apply zd|apply zk)|exact HB.out),by repeat (first|(with_reducible first|exact HK.out|apply Kept.alloc|apply Kept.drewN|apply Kept.drew)|exact HK.out)⟩
def laws_heldStringS.l0:Nat→List ByteArray→Int→Int→Option (Int)
 |0,_,_,_=>none
 |k+1,x0,x1,x5=>if x5<(x0.length:Int) then (if 0≤x5 then ((laws_markText.f k x1).bind fun t306=>(if (zpa ByteArray.empty x0 x5).toList=t306.toList then (laws_heldStringS.l0 k x0 (wrap64 (x1+1)) (wrap64 (x5+1))) else (none))) else (none)) else (some x1)
def laws_heldStringS.f (k:Nat) (l0:List ByteArray) (a1:Int):Option (Int):=laws_heldStringS.l0 k l0 a1 0
theorem laws_heldStringS.calls (k:Nat) (A0:Option Addr) (c0:Nat) (l0:List ByteArray) (a1:Int) (r:Int) (w:World) (hr0:Kd.C Kd.string w A0 l0.length l0) (hc0:l0.length≤c0) (h:laws_heldStringS.f k l0 a1=some r):
  Calls Try.prog 103 #[.slice A0 l0.length c0,.int .i64 a1] w fun e w'=>e= .returned (.int .i64 r)∧Below w.heap.size w w':=by
 have HR0:=zz hr0
 have HC0:=zz hc0
 clear hr0 hc0
 have HB:=zz (Below.refl w.heap.size w)
 have H:(laws_heldStringS.l0 k l0 a1 0)=some r:=h
 clear h
 have H':=zz H
 clear H
 go_enter Try.func103,Try.ntmps103
 go_wp2
 go_loopg [1,5] k (fun kq v1 v5 w'=>∃(x1_1:Int) (x5_1:Int),v1= .int .i64 x1_1∧v5= .int .i64 x5_1∧Z0 (laws_heldStringS.l0 kq l0 x1_1 x5_1=some r)∧Z0 (kq≤k)∧Z0 (Below w.heap.size w w'))
 case atStart=>exact ⟨(a1),(0),zq16,zq16,H',⟨Nat.le_refl _⟩,⟨by repeat (first|(with_reducible first|exact HB.out|apply zg|apply zd|apply zk)|exact HB.out)⟩⟩
 case round=>
  clear H'
  obtain ⟨x1_1,x5_1,rfl,rfl,HA,HK1,HB⟩:=hrel
  cases gk with
  |zero=>exact absurd HA.out (by simp [laws_heldStringS.l0])
  |succ k1=>
   have H:=HA.out
   clear HA
   simp only [laws_heldStringS.l0] at H
   by_cases c3:x5_1<(l0.length:Int)
   ·rw [if_pos c3] at H
    have c3b0:=decide_eq_true c3
    clear c3
    by_cases c4:0≤x5_1
    ·rw [if_pos c4] at H
     have c4b0:=decide_eq_true c4
     clear c4
     replace H:=Option.bind_eq_some_iff.mp H
     obtain ⟨t306,A50,H⟩:=H
     replace H:(if (zpa ByteArray.empty l0 x5_1).toList=t306.toList then (laws_heldStringS.l0 k1 l0 (wrap64 (x1_1+1)) (wrap64 (x5_1+1))) else (none))=some r:=H
     have A5:=zz A50
     clear A50
     by_cases c6:(zpa ByteArray.empty l0 x5_1).toList=t306.toList
     ·rw [if_pos c6] at H
      have c6b0:((zpa ByteArray.empty l0 x5_1).toList==t306.toList)=true:=beq_iff_eq.mpr c6
      have c6b1:((zpa ByteArray.empty l0 x5_1).toList !=t306.toList)=false:=bne_eq_false_iff_eq.mpr c6
      clear c6
      have H':=zz H
      clear H
      try go_wp2
      have n0_:=zz (zk HB.out)
      clear HB
      have HB:=n0_
      clear n0_
      have p305:0≤(x5_1:Int):=of_decide_eq_true zq24
      have q305:x5_1<(l0.length:Int):=of_decide_eq_true zq24
      obtain ⟨ad305,e305,hx305_0⟩:=Kd.at_string HR0.out x5_1 p305 q305
      have hw305_0:=hx305_0
      cases e305
      replace hx305_0:=(HB.out.cell (World.block_lt_of_cell? w _ hx305_0)).trans hx305_0
      replace p305:=eq_true p305
      replace q305:=eq_true q305
      refine start_ (n:=7) (S:=fun w'=>w'.cell? (ad305.add (x5_1).toNat)=some (.string (zpa ByteArray.empty l0 x5_1))) (ds:=[]) #[false,false,false,false,false,false,false] zq15 rfl rfl (((HB.out.cell (World.block_lt_of_cell? w _ hw305_0)).trans hw305_0)) (fun hHeld=> ?_)
      generalize wr.drew=w7 at HB hx305_0 hHeld ⊢
      refine zca (i:=0) (N:=some 12) (v:= ?_) (a':= ?_) #[true,false,false,false,false,false,false] rfl rfl zq15 (fun _ _ _ h=>h) (Or.inl ⟨zq44,zq27⟩) zq12 ?_
      refine zca (i:=1) (N:=some 13) (v:= ?_) (a':= ?_) #[true,true,false,false,false,false,false] rfl rfl zq15 (fun _ _ _ h=>h) (Or.inl ⟨zq44,zq27⟩) zq12 ?_
      refine zca (i:=2) (N:=some 14) (v:= ?_) (a':= ?_) #[true,true,true,false,false,false,false] rfl rfl zq15 (fun _ _ _ h=>h) (Or.inl ⟨zq44,zq27⟩) zq12 ?_
      refine zca (i:=4) (N:=some 16) (v:= ?_) (a':= ?_) #[true,true,true,false,true,false,false] rfl rfl zq15 (fun _ _ _ h=>h) (Or.inl ⟨zq44,zq27⟩) zq12 ?_
      refine take_ (i:=3) (N:=some 15) (v:= ?_) (a':= ?_) #[true,true,true,true,true,false,false] rfl rfl zq15 (fun _ _ _ h=>h) (Or.inl ⟨zq44,by intro w' s0;go_simp;with_reducible rfl⟩) hHeld zq12 ?_
      refine one_ (i:=5) (N:=some 17) #[true,true,true,true,true,true,false] rfl rfl zq15 zq26 (fun K hK=> ?_)
      refine goes_ Try.func114 zq15 rfl #[.int .i64 x1_1] zq44 rfl rfl zq4 ?_
      with_reducible refine (laws_markText.calls k1 x1_1 t306 _ A5.out).mono ?_
      rintro e w8 ⟨rfl,hb⟩
      refine ⟨_,rfl,?_⟩
      have n0_:=zz (ze zq2 hb)
      clear HB
      have HB:=n0_
      clear n0_
      (try clear hb)
      (try clear hb2)
      (try clear hk)
      (try clear hi)
      refine hK.out _ _ (((HB.out.cell (World.block_lt_of_cell? w _ hw305_0)).trans hw305_0)) (fun hHeld=> ?_)
      clear hK K
      refine zAa (a':= ?_) ?_ ?_
      rotate_left
      ·show Act.put _ (some 17) _=_
       simp only [Act.put,List.setIfInBounds_toArray,List.set_cons_zero,List.set_cons_succ,zfa,zOa]
       rfl
      refine zca (i:=6) (N:=some 18) (v:= ?_) (a':= ?_) #[true,true,true,true,true,true,true] rfl rfl zq15 (fun _ _ _ h=>h) (Or.inl ⟨zq44,zq27⟩) zq12 ?_
      refine done_ zq15 ?_
      try go_wp2
      go_roundg k1
      case measure=>have:=HK1.out;omega
      case rel=>exact ⟨(wrap64 (x1_1+1)),(wrap64 (x5_1+1)),zq16,zq16,H',⟨zq95 HK1.out⟩,⟨by repeat (first|(with_reducible first|exact HB.out|apply zg|apply zd|apply zk)|exact HB.out)⟩⟩
     ·rw [if_neg c6] at H
      exact absurd H zq52
    ·rw [if_neg c4] at H
     exact absurd H zq52
   ·rw [if_neg c3] at H
    have c3b0:=decide_eq_false c3
    clear c3
    obtain rfl:=Option.some.inj H
    go_wp2
    go_ret
    exact ⟨zq10,by repeat (first|(with_reducible first|exact HB.out|apply zg|apply zd|apply zk)|exact HB.out)⟩
def laws_heldPutS.l0:Nat→List (S135)→Int→Int→Option (Int)
 |0,_,_,_=>none
 |k+1,x0,x1,x5=>if x5<(x0.length:Int) then (if 0≤x5 then (if ((zx x0 x5).f0)=x1 then ((laws_markText.f k (wrap64 (x1+1))).bind fun t309=>(if ((zx x0 x5).f1).toList=t309.toList then (laws_heldPutS.l0 k x0 (wrap64 ((wrap64 (x1+1))+1)) (wrap64 (x5+1))) else (none))) else (none)) else (none)) else (some x1)
def laws_heldPutS.f (k:Nat) (l0:List (S135)) (a1:Int):Option (Int):=laws_heldPutS.l0 k l0 a1 0
def laws_heldPutS.T7:Bool×List (List Nat×List Nat):=(true,[([],[]),([],[]),([0,1],[0,1]),([2],[2]),([3],[3]),([],[]),([5],[5]),([4,6],[4,6])])
def laws_heldPutS.B7:List Nat:=[0,0,3,7,15,0,32,127]
theorem laws_heldPutS.tab7:rtab .any (opsOf Try.f104 7)=laws_heldPutS.T7:=zq15
theorem laws_heldPutS.bits7:zza laws_heldPutS.T7.2 laws_heldPutS.B7=true:=zq15
theorem laws_heldPutS.calls (k:Nat) (A0:Option Addr) (c0:Nat) (l0:List (S135)) (a1:Int) (r:Int) (w:World) (hr0:Kd.C k135 w A0 l0.length l0) (hc0:l0.length≤c0) (h:laws_heldPutS.f k l0 a1=some r):
  Calls Try.prog 104 #[.slice A0 l0.length c0,.int .i64 a1] w fun e w'=>e= .returned (.int .i64 r)∧Below w.heap.size w w':=by
 have HR0:=zz hr0
 have HC0:=zz hc0
 clear hr0 hc0
 have HB:=zz (Below.refl w.heap.size w)
 have H:(laws_heldPutS.l0 k l0 a1 0)=some r:=h
 clear h
 have H':=zz H
 clear H
 go_enter Try.func104,Try.ntmps104
 go_wp2
 go_loopg [1,5] k (fun kq v1 v5 w'=>∃(x1_1:Int) (x5_1:Int),v1= .int .i64 x1_1∧v5= .int .i64 x5_1∧Z0 (laws_heldPutS.l0 kq l0 x1_1 x5_1=some r)∧Z0 (kq≤k)∧Z0 (Below w.heap.size w w'))
 case atStart=>exact ⟨(a1),(0),zq16,zq16,H',⟨Nat.le_refl _⟩,⟨by repeat (first|(with_reducible first|exact HB.out|apply zg|apply zd|apply zk)|exact HB.out)⟩⟩
 case round=>
  clear H'
  obtain ⟨x1_1,x5_1,rfl,rfl,HA,HK1,HB⟩:=hrel
  cases gk with
  |zero=>exact absurd HA.out (by simp [laws_heldPutS.l0])
  |succ k1=>
   have H:=HA.out
   clear HA
   simp only [laws_heldPutS.l0] at H
   by_cases c3:x5_1<(l0.length:Int)
   ·rw [if_pos c3] at H
    have c3b0:=decide_eq_true c3
    clear c3
    by_cases c4:0≤x5_1
    ·rw [if_pos c4] at H
     have c4b0:=decide_eq_true c4
     clear c4
     by_cases c5:((zx l0 x5_1).f0)=x1_1
     ·rw [if_pos c5] at H
      have c5b0:(((zx l0 x5_1).f0)==x1_1)=true:=beq_iff_eq.mpr c5
      have c5b1:(((zx l0 x5_1).f0) !=x1_1)=false:=bne_eq_false_iff_eq.mpr c5
      clear c5
      replace H:=Option.bind_eq_some_iff.mp H
      obtain ⟨t309,A60,H⟩:=H
      replace H:(if ((zx l0 x5_1).f1).toList=t309.toList then (laws_heldPutS.l0 k1 l0 (wrap64 ((wrap64 (x1_1+1))+1)) (wrap64 (x5_1+1))) else (none))=some r:=H
      have A6:=zz A60
      clear A60
      by_cases c7:((zx l0 x5_1).f1).toList=t309.toList
      ·rw [if_pos c7] at H
       have c7b0:(((zx l0 x5_1).f1).toList==t309.toList)=true:=beq_iff_eq.mpr c7
       have c7b1:(((zx l0 x5_1).f1).toList !=t309.toList)=false:=bne_eq_false_iff_eq.mpr c7
       clear c7
       have H':=zz H
       clear H
       have p307:0≤(x5_1:Int):=of_decide_eq_true zq24
       have q307:x5_1<(l0.length:Int):=of_decide_eq_true zq24
       obtain ⟨ad307,e307,hx307_0,hx307_1⟩:=zsa HR0.out x5_1 p307 q307
       cases e307
       replace hx307_0:=(HB.out.cell (World.block_lt_of_cell? w _ hx307_0)).trans hx307_0
       replace hx307_1:=(HB.out.cell (World.block_lt_of_cell? w _ hx307_1)).trans hx307_1
       replace p307:=eq_true p307
       replace q307:=eq_true q307
       try go_wp2
       have n0_:=zz (zk HB.out)
       clear HB
       have HB:=n0_
       clear n0_
       have p308:0≤(x5_1:Int):=of_decide_eq_true zq24
       have q308:x5_1<(l0.length:Int):=of_decide_eq_true zq24
       obtain ⟨ad308,e308,hx308_0,hx308_1⟩:=zsa HR0.out x5_1 p308 q308
       have hw308_1:=hx308_1
       have hw308_0:=hx308_0
       obtain rfl:ad307=ad308:=(by injection e308)
       replace hx308_0:=(HB.out.cell (World.block_lt_of_cell? w _ hx308_0)).trans hx308_0
       replace hx308_1:=(HB.out.cell (World.block_lt_of_cell? w _ hx308_1)).trans hx308_1
       replace p308:=eq_true p308
       replace q308:=eq_true q308
       refine start_ (n:=8) (S:=fun w'=>w'.cell? (ad307.add ((x5_1).toNat*2))=some (.int .i64 ((zx l0 x5_1).f0))∧w'.cell? ⟨(ad307.add ((x5_1).toNat*2)).block,(ad307.add ((x5_1).toNat*2)).off+1,none⟩=some (.string ((zx l0 x5_1).f1))) (ds:=[]) #[false,false,false,false,false,false,false,false] zq15 rfl rfl ⟨((HB.out.cell (World.block_lt_of_cell? w _ hw308_0)).trans hw308_0),((HB.out.cell (World.block_lt_of_cell? w _ hw308_1)).trans hw308_1)⟩ (fun hHeld=> ?_);refine zXa laws_heldPutS.tab7 laws_heldPutS.bits7 (fun HT_ HW_=> ?_)
       generalize wr.drew=w8 at HB hx308_0 hx308_1 hHeld ⊢
       refine zca (i:=0) (N:=some 21) (v:= ?_) (a':= ?_) #[true,false,false,false,false,false,false,false] rfl rfl (zV HT_.out zq15) (fun _ _ _ h=>h) (Or.inl ⟨zq44,zq27⟩) zq12 ?_
       refine zca (i:=1) (N:=some 22) (v:= ?_) (a':= ?_) #[true,true,false,false,false,false,false,false] rfl rfl (zV HT_.out zq15) (fun _ _ _ h=>h) (Or.inl ⟨zq44,zq27⟩) zq12 ?_
       refine zca (i:=2) (N:=some 23) (v:= ?_) (a':= ?_) #[true,true,true,false,false,false,false,false] rfl rfl (zV HT_.out zq15) (fun _ _ _ h=>h) (Or.inl ⟨zq44,zq27⟩) zq12 ?_
       refine zca (i:=3) (N:=some 24) (v:= ?_) (a':= ?_) #[true,true,true,true,false,false,false,false] rfl rfl (zV HT_.out zq15) (fun _ _ _ h=>h) (Or.inl ⟨zq44,zq27⟩) zq12 ?_
       refine zca (i:=5) (N:=some 26) (v:= ?_) (a':= ?_) #[true,true,true,true,false,true,false,false] rfl rfl (zV HT_.out zq15) (fun _ _ _ h=>h) (Or.inl ⟨zq44,zq27⟩) zq12 ?_
       refine take_ (i:=4) (N:=some 25) (v:= ?_) (a':= ?_) #[true,true,true,true,true,true,false,false] rfl rfl (zaa HT_.out HW_.out zq15) (fun _ _ _ h=>h) (Or.inl ⟨zq44,zq117⟩) hHeld zq12 ?_
       refine one_ (i:=6) (N:=some 27) #[true,true,true,true,true,true,true,false] rfl rfl (zoa HT_.out zq15) zq26 (fun K hK=> ?_)
       refine goes_ Try.func114 zq15 rfl #[.int .i64 (wrap64 (x1_1+1))] zq44 rfl rfl zq4 ?_
       with_reducible refine (laws_markText.calls k1 (wrap64 (x1_1+1)) t309 _ A6.out).mono ?_
       rintro e w9 ⟨rfl,hb⟩
       refine ⟨_,rfl,?_⟩
       have n0_:=zz (ze zq2 hb)
       clear HB
       have HB:=n0_
       clear n0_
       (try clear hb)
       (try clear hb2)
       (try clear hk)
       (try clear hi)
       refine hK.out _ _ ⟨((HB.out.cell (World.block_lt_of_cell? w _ hw308_0)).trans hw308_0),((HB.out.cell (World.block_lt_of_cell? w _ hw308_1)).trans hw308_1)⟩ (fun hHeld=> ?_)
       clear hK K
       refine zAa (a':= ?_) ?_ ?_
       rotate_left
       ·show Act.put _ (some 27) _=_
        simp only [Act.put,List.setIfInBounds_toArray,List.set_cons_zero,List.set_cons_succ,zfa,zOa]
        rfl
       refine zca (i:=7) (N:=some 28) (v:= ?_) (a':= ?_) #[true,true,true,true,true,true,true,true] rfl rfl (zV HT_.out zq15) (fun _ _ _ h=>h) (Or.inl ⟨zq44,zq27⟩) zq12 ?_
       refine done_ (done_of HT_.out zq15) ?_
       try go_wp2
       go_roundg k1
       case measure=>have:=HK1.out;omega
       case rel=>exact ⟨(wrap64 ((wrap64 (x1_1+1))+1)),(wrap64 (x5_1+1)),zq16,zq16,H',⟨zq95 HK1.out⟩,⟨by repeat (first|(with_reducible first|exact HB.out|apply zg|apply zd|apply zk)|exact HB.out)⟩⟩
      ·rw [if_neg c7] at H
       exact absurd H zq52
     ·rw [if_neg c5] at H
      exact absurd H zq52
    ·rw [if_neg c4] at H
     exact absurd H zq52
   ·rw [if_neg c3] at H
    have c3b0:=decide_eq_false c3
    clear c3
    obtain rfl:=Option.some.inj H
    go_wp2
    go_ret
    exact ⟨zq10,by repeat (first|(with_reducible first|exact HB.out|apply zg|apply zd|apply zk)|exact HB.out)⟩
def laws_heldDisk.f (k:Nat) (l0_0:List ByteArray) (l0_1:List (S135)) (a1:Int):Option (Int):=(laws_heldStringS.f k l0_0 a1).bind fun t311=>(if t311<0 then (none) else ((laws_heldPutS.f k l0_1 t311).bind fun t312=>(if t312<0 then (none) else (some t312))))
theorem laws_heldDisk.calls (k:Nat) (A0_0:Option Addr) (c0_0:Nat) (l0_0:List ByteArray) (A0_1:Option Addr) (c0_1:Nat) (l0_1:List (S135)) (a1:Int) (r:Int) (w:World) (hr0_0:Kd.C Kd.string w A0_0 l0_0.length l0_0) (hc0_0:l0_0.length≤c0_0) (hr0_1:Kd.C k135 w A0_1 l0_1.length l0_1) (hc0_1:l0_1.length≤c0_1) (h:laws_heldDisk.f k l0_0 l0_1 a1=some r):
  Calls Try.prog 52 #[.agg #[.slice A0_0 l0_0.length c0_0,.slice A0_1 l0_1.length c0_1],.int .i64 a1] w fun e w'=>e= .returned (.int .i64 r)∧Below w.heap.size w w':=by
 have hu32:=Try.underlying32
 have HR0_0:=zz hr0_0
 have HC0_0:=zz hc0_0
 clear hr0_0 hc0_0
 have HR0_1:=zz hr0_1
 have HC0_1:=zz hc0_1
 clear hr0_1 hc0_1
 have HB:=zz (Below.refl w.heap.size w)
 have H:((laws_heldStringS.f k l0_0 a1).bind fun t311=>(if t311<0 then (none) else ((laws_heldPutS.f k l0_1 t311).bind fun t312=>(if t312<0 then (none) else (some t312)))))=some r:=h
 clear h
 replace H:=Option.bind_eq_some_iff.mp H
 obtain ⟨t311,A30,H⟩:=H
 replace H:(if t311<0 then (none) else ((laws_heldPutS.f k l0_1 t311).bind fun t312=>(if t312<0 then (none) else (some t312))))=some r:=H
 have A3:=zz A30
 clear A30
 by_cases c4:t311<0
 ·rw [if_pos c4] at H
  exact absurd H zq52
 ·rw [if_neg c4] at H
  have c4b0:=decide_eq_false c4
  clear c4
  replace H:=Option.bind_eq_some_iff.mp H
  obtain ⟨t312,A50,H⟩:=H
  replace H:(if t312<0 then (none) else (some t312))=some r:=H
  have A5:=zz A50
  clear A50
  by_cases c6:t312<0
  ·rw [if_pos c6] at H
   exact absurd H zq52
  ·rw [if_neg c6] at H
   have c6b0:=decide_eq_false c6
   clear c6
   obtain rfl:=Option.some.inj H
   go_enter Try.func52,Try.ntmps52
   go_wp2_with (first|((with_reducible refine zm (N:=2) rfl ?_);refine zq ?hg (N:=2) ?hd (cs:= #[.slice A0_0 l0_0.length c0_0,.slice A0_1 l0_1.length c0_1]) (t:=32) ?hr ?_;(case hd=>rfl);(case hg=>rfl);(case hr=>first|(go_simp;done)|(go_simp;rfl));intro gb310 hg w7 hbox hb;have n0_:=zz (ze zq2 hb);have n1_:=zz (hbox);have n2_:=zz ((by rw [hg];exact (zc zq2):w.heap.size≤gb310));have n3_:=zz ((by rw [hg];exact (zc zq2):w.heap.size≤gb310));clear HB;have HB:=n0_;have BK310:=n1_;have GW310:=n2_;have GE310:=n3_;clear n0_ n1_ n2_ n3_;clear hb hbox hg;have hcz8_0:w7.cell? ⟨gb310,0,none⟩=some (.slice A0_0 l0_0.length c0_0):=(zb BK310.out 0).trans rfl;have hcz8_1:w7.cell? ⟨gb310,1,none⟩=some (.slice A0_1 l0_1.length c0_1):=(zb BK310.out 1).trans rfl;have hfz8_0:=za BK310.out 0;have hfz8_1:=za BK310.out 1)|((with_reducible refine zo (f:=103) rfl ?_);refine zw (some 8) rfl rfl Try.func103 zq15 rfl #[.slice A0_0 l0_0.length c0_0,.int .i64 a1] rfl zq4 ?_;(with_reducible refine (laws_heldStringS.calls k _ _ l0_0 a1 t311 _ ?side1 ?side2 A3.out).mono ?_);(case side1=>repeat (first|exact (Kd.C_below HR0_0.out HB.out)|(with_reducible refine Kd.C_alloc ?_ _)|(with_reducible refine Kd.C_drewN ?_ _)|(with_reducible refine Kd.C_drew ?_)));(case side2=>exact HC0_0.out);rintro e w9 ⟨rfl,hb⟩;refine ⟨_,rfl,?_⟩;have n0_:=zz (zi (g:=gb310) (o:= .cells #[.slice A0_0 l0_0.length c0_0,.slice A0_1 l0_1.length c0_1] 32 (0,0)) (zq0 BK310.out) hb);have n1_:=zz (ze (zq3 GE310.out) hb);clear BK310;clear HB;have BK310:=n0_;have HB:=n1_;clear n0_ n1_;(try clear hb);(try clear hb2);(try clear hk);(try clear hi);have hcz10_0:w9.cell? ⟨gb310,0,none⟩=some (.slice A0_0 l0_0.length c0_0):=(zb BK310.out 0).trans rfl;have hcz10_1:w9.cell? ⟨gb310,1,none⟩=some (.slice A0_1 l0_1.length c0_1):=(zb BK310.out 1).trans rfl;have hfz10_0:=za BK310.out 0;have hfz10_1:=za BK310.out 1)|((with_reducible refine zo (f:=104) rfl ?_);refine zw (some 14) rfl rfl Try.func104 zq15 rfl #[.slice A0_1 l0_1.length c0_1,.int .i64 t311] rfl zq4 ?_;(with_reducible refine (laws_heldPutS.calls k _ _ l0_1 t311 t312 _ ?side1 ?side2 A5.out).mono ?_);(case side1=>repeat (first|exact (Kd.C_below HR0_1.out HB.out)|(with_reducible refine Kd.C_alloc ?_ _)|(with_reducible refine Kd.C_drewN ?_ _)|(with_reducible refine Kd.C_drew ?_)));(case side2=>exact HC0_1.out);rintro e w11 ⟨rfl,hb⟩;refine ⟨_,rfl,?_⟩;have n0_:=zz (zi (g:=gb310) (o:= .cells #[.slice A0_0 l0_0.length c0_0,.slice A0_1 l0_1.length c0_1] 32 (0,0)) (zq0 BK310.out) hb);have n1_:=zz (ze (zq3 GE310.out) hb);clear BK310;clear HB;have BK310:=n0_;have HB:=n1_;clear n0_ n1_;(try clear hb);(try clear hb2);(try clear hk);(try clear hi)))
   go_ret
   exact ⟨zq10,by repeat (first|(with_reducible first|exact HB.out|apply zg|apply zd|apply zk|refine zn ?_ GE310.out)|exact HB.out)⟩
def laws_heldIntS.l0:Nat→List Int→Int→Int→Option (Int)
 |0,_,_,_=>none
 |k+1,x0,x1,x5=>if x5<(x0.length:Int) then (if 0≤x5 then (if (rd x0 x5)=x1 then (laws_heldIntS.l0 k x0 (wrap64 (x1+1)) (wrap64 (x5+1))) else (none)) else (none)) else (some x1)
def laws_heldIntS.f (k:Nat) (l0:List Int) (a1:Int):Option (Int):=laws_heldIntS.l0 k l0 a1 0
theorem laws_heldIntS.calls (k:Nat) (A0:Option Addr) (c0:Nat) (l0:List Int) (a1:Int) (r:Int) (w:World) (hr0:Kd.C (Kd.int .i64) w A0 l0.length l0) (hc0:l0.length≤c0) (h:laws_heldIntS.f k l0 a1=some r):
  Calls Try.prog 53 #[.slice A0 l0.length c0,.int .i64 a1] w fun e w'=>e= .returned (.int .i64 r)∧Drawn0 w w':=by
 have HR0:=zz hr0
 have HC0:=zz hc0
 clear hr0 hc0
 have H:(laws_heldIntS.l0 k l0 a1 0)=some r:=h
 clear h
 have H':=zz H
 clear H
 go_enter Try.func53,Try.ntmps53
 go_wp2
 go_loopg [1,5] k (fun kq v1 v5 w'=>∃(x1_1:Int) (x5_1:Int),v1= .int .i64 x1_1∧v5= .int .i64 x5_1∧Z0 (laws_heldIntS.l0 kq l0 x1_1 x5_1=some r)∧Z0 (kq≤k)∧Drawn0 w w')
 case atStart=>exact ⟨(a1),(0),zq16,zq16,H',⟨Nat.le_refl _⟩,by repeat (first|exact Drawn0.refl _|apply Drawn0.step)⟩
 case round=>
  clear H'
  obtain ⟨x1_1,x5_1,rfl,rfl,HA,HK1,⟨m1,rfl⟩⟩:=hrel
  cases gk with
  |zero=>exact absurd HA.out (by simp [laws_heldIntS.l0])
  |succ k1=>
   have H:=HA.out
   clear HA
   simp only [laws_heldIntS.l0] at H
   by_cases c3:x5_1<(l0.length:Int)
   ·rw [if_pos c3] at H
    have c3b0:=decide_eq_true c3
    clear c3
    by_cases c4:0≤x5_1
    ·rw [if_pos c4] at H
     have c4b0:=decide_eq_true c4
     clear c4
     by_cases c5:(rd l0 x5_1)=x1_1
     ·rw [if_pos c5] at H
      have c5b0:((rd l0 x5_1)==x1_1)=true:=beq_iff_eq.mpr c5
      have c5b1:((rd l0 x5_1) !=x1_1)=false:=bne_eq_false_iff_eq.mpr c5
      clear c5
      have H':=zz H
      clear H
      have p313:0≤(x5_1:Int):=of_decide_eq_true zq24
      have q313:x5_1<(l0.length:Int):=of_decide_eq_true zq24
      obtain ⟨ad313,e313,hx313_0⟩:=Kd.at_int HR0.out x5_1 p313 q313
      cases e313
      replace p313:=eq_true p313
      replace q313:=eq_true q313
      go_wp2
      go_roundg k1
      case measure=>have:=HK1.out;omega
      case rel=>exact ⟨(wrap64 (x1_1+1)),(wrap64 (x5_1+1)),zq16,zq16,H',⟨zq95 HK1.out⟩,by repeat (first|exact Drawn0.refl _|apply Drawn0.step)⟩
     ·rw [if_neg c5] at H
      exact absurd H zq52
    ·rw [if_neg c4] at H
     exact absurd H zq52
   ·rw [if_neg c3] at H
    have c3b0:=decide_eq_false c3
    clear c3
    obtain rfl:=Option.some.inj H
    go_wp2
    go_ret
    exact ⟨zq16,by repeat (first|exact Drawn0.refl _|apply Drawn0.step)⟩
end Go.Proofs.Ytonhdiemjgdcnaa.PFnExactGivePage
namespace Go.Proofs.Ytonhdiemjgdcnaa.PFnExactGivePage
open Go.RowKit Go.Proofs.YtonhdiemjgdcnaaW.PrintWords Go.Proofs.YtonhdiemjgdcnaaW.PrintLast Go.Proofs.YtonhdiemjgdcnaaW.PrintMore
attribute [local go_sem] zO zP zY zX zK zJ zQ zR
theorem zla {α:Type} (d:α) (xs:List α) (k:Nat) (hk:k<xs.length):zpa d xs (k:Int)=xs[k]:=by
 simp [zpa,List.getD_eq_getElem?_getD,List.getElem?_eq_getElem hk]
theorem rd_nat (xs:List Int) (k:Nat) (hk:k<xs.length):rd xs (k:Int)=xs[k]:=by
 simp [rd,List.getD_eq_getElem?_getD,List.getElem?_eq_getElem hk]
theorem rd_T135_nat (xs:List S135) (k:Nat) (hk:k<xs.length):zx xs (k:Int)=xs[k]:=by
 simp [zx,List.getD_eq_getElem?_getD,List.getElem?_eq_getElem hk]
theorem rd_T140_nat (xs:List S140) (k:Nat) (hk:k<xs.length):zba xs (k:Int)=xs[k]:=by
 simp [zba,List.getD_eq_getElem?_getD,List.getElem?_eq_getElem hk]
theorem zG {x:Int} (h1: -9223372036854775808≤x) (h2:x≤9223372036854775807):wrap64 x=x:=zq128
theorem szS_go (l:List ByteArray) (hs:∀s∈l,s.size≤9223372036854775807) (hl:l.length≤9223372036854775807):∀(n i:Nat) (x:Int),i+n=l.length→0≤x→x≤1048576→∃r,laws_szStringS.l0 (n+1) l x (i:Int)=some r∧(r<0∨(0≤r∧r≤x∧∀j (hj:j<l.length),i≤j→(l[j].size:Int)≤x)):=by
 intro n
 induction n with
 |zero=>
  intro i x hi h0 h1
  refine ⟨x,?_,.inr ⟨h0,Int.le_refl _,fun j hj h=>by omega⟩⟩
  rw [laws_szStringS.l0,if_neg zq11]
 |succ n ih=>
  intro i x hi h0 h1
  have hlt:i<l.length:=zq11
  have hsz:=hs l[i] (List.getElem_mem hlt)
  rw [laws_szStringS.l0,if_pos zq11,if_pos zq11,zla _ _ _ hlt,zG zq11 zq11,zG zq11 zq11]
  by_cases hneg:x-(l[i].size:Int)<0
  ·rw [if_pos hneg]
   exact ⟨-1,rfl,.inl zq11⟩
  ·rw [if_neg hneg]
   obtain ⟨r,h2,h3⟩:=ih (i+1) (x-(l[i].size:Int)) zq11 zq11 zq11
   refine ⟨r,by rw [show (i:Int)+1=((i+1:Nat):Int) by omega];exact h2,?_⟩
   rcases h3 with h3|⟨h4,h5,h6⟩
   ·exact .inl h3
   ·refine .inr ⟨h4,zq11,fun j hj h=> ?_⟩
    by_cases e:j=i
    ·subst e;omega
    ·have:=h6 j hj zq11;omega
theorem szS_ev (l:List ByteArray) (hs:∀s∈l,s.size≤9223372036854775807) (hl:l.length≤9223372036854775807) (x:Int) (h0:0≤x) (h1:x≤1048576):∃r,Ev (fun k=>laws_szStringS.f k l x) r∧(r<0∨(0≤r∧r≤x∧(l.length:Int)≤x∧∀s∈l,(s.size:Int)≤x)):=by
 by_cases hneg:x-(l.length:Int)<0
 ·refine ⟨-1,Ev.of (k:=0) (fun k=>laws_szStringS.mono _ _ k) ?_,.inl zq11⟩
  unfold laws_szStringS.f
  rw [zG zq11 zq11,if_pos hneg]
 ·obtain ⟨r,h2,h3⟩:=szS_go l hs hl l.length 0 (x-(l.length:Int)) zq11 zq11 zq11
  refine ⟨r,Ev.of (k:=l.length+1) (fun k=>laws_szStringS.mono _ _ k) ?_,?_⟩
  ·unfold laws_szStringS.f
   rw [zG zq11 zq11,if_neg hneg]
   exact h2
  ·rcases h3 with h3|⟨h4,h5,h6⟩
   ·exact .inl h3
   ·refine .inr ⟨h4,zq11,zq11,fun s hs=> ?_⟩
    obtain ⟨j,hj,rfl⟩:=List.getElem_of_mem hs
    have:=h6 j hj (Nat.zero_le _)
    omega
theorem szP_go (l:List S140) (hs:∀s∈l,s.f1.size≤9223372036854775807) (hl:l.length≤9223372036854775807):∀(n i:Nat) (x:Int),i+n=l.length→0≤x→x≤1048576→∃r,laws_szPutS.l0 (n+1) l x (i:Int)=some r∧(r<0∨(0≤r∧r≤x∧∀j (hj:j<l.length),i≤j→(l[j].f1.size:Int)≤x)):=by
 intro n
 induction n with
 |zero=>
  intro i x hi h0 h1
  refine ⟨x,?_,.inr ⟨h0,Int.le_refl _,fun j hj h=>by omega⟩⟩
  rw [laws_szPutS.l0,if_neg zq11]
 |succ n ih=>
  intro i x hi h0 h1
  have hlt:i<l.length:=zq11
  have hsz:=hs l[i] (List.getElem_mem hlt)
  rw [laws_szPutS.l0,if_pos zq11,if_pos zq11,rd_T140_nat _ _ hlt,laws_szPut.f,zG (x:=x-_) zq11 zq11,zG (x:=(i:Int)+1) zq11 zq11]
  by_cases hneg:x-(l[i].f1.size:Int)<0
  ·rw [if_pos hneg,Option.bind_some,if_pos zq11]
   exact ⟨-1,rfl,.inl zq11⟩
  ·rw [if_neg hneg,Option.bind_some,if_neg hneg]
   obtain ⟨r,h2,h3⟩:=ih (i+1) (x-(l[i].f1.size:Int)) zq11 zq11 zq11
   refine ⟨r,by rw [show (i:Int)+1=((i+1:Nat):Int) by omega];exact h2,?_⟩
   rcases h3 with h3|⟨h4,h5,h6⟩
   ·exact .inl h3
   ·refine .inr ⟨h4,zq11,fun j hj h=> ?_⟩
    by_cases e:j=i
    ·subst e;omega
    ·have:=h6 j hj zq11;omega
theorem szP_ev (l:List S140) (hs:∀s∈l,s.f1.size≤9223372036854775807) (hl:l.length≤9223372036854775807) (x:Int) (h0:0≤x) (h1:x≤1048576):∃r,Ev (fun k=>laws_szPutS.f k l x) r∧(r<0∨(0≤r∧r≤x∧(l.length:Int)≤x∧∀s∈l,(s.f1.size:Int)≤x)):=by
 by_cases hneg:x-(l.length:Int)<0
 ·refine ⟨-1,Ev.of (k:=0) (fun k=>laws_szPutS.mono _ _ k) ?_,.inl zq11⟩
  unfold laws_szPutS.f
  rw [zG zq11 zq11,if_pos hneg]
 ·obtain ⟨r,h2,h3⟩:=szP_go l hs hl l.length 0 (x-(l.length:Int)) zq11 zq11 zq11
  refine ⟨r,Ev.of (k:=l.length+1) (fun k=>laws_szPutS.mono _ _ k) ?_,?_⟩
  ·unfold laws_szPutS.f
   rw [zG zq11 zq11,if_neg hneg]
   exact h2
  ·rcases h3 with h3|⟨h4,h5,h6⟩
   ·exact .inl h3
   ·refine .inr ⟨h4,zq11,zq11,fun s hs=> ?_⟩
    obtain ⟨j,hj,rfl⟩:=List.getElem_of_mem hs
    have:=h6 j hj (Nat.zero_le _)
    omega
def Small (pages:List ByteArray) (late:List S140):Prop:=(pages.length≤1048576∧∀s∈pages,s.size≤1048576)∧(late.length≤1048576∧∀s∈late,s.f1.size≤1048576)
theorem set_front {α:Type} (l r:List α) (x y:α):(l++x::r).set l.length y=(l++[y])++r:=by
 rw [List.set_append_right _ _ (Nat.le_refl _),Nat.sub_self,List.set_cons_zero,List.append_assoc,List.singleton_append]
theorem toS_go (l:List ByteArray) (hl:l.length≤1048576):∀(n i:Nat),i+n=l.length→laws_toStringS.l0 (n+1) l (l.take i++List.replicate n (⟨#[]⟩:ByteArray)) (i:Int)=some l:=by
 intro n
 induction n with
 |zero=>
  intro i hi
  rw [laws_toStringS.l0,if_neg zq11,List.replicate_zero,List.append_nil,List.take_of_length_le zq11]
 |succ n ih=>
  intro i hi
  have hlt:i<l.length:=zq11
  have hti:(l.take i).length=i:=zq124
  rw [laws_toStringS.l0,if_pos zq11,if_pos zq11,if_pos zq134,zla _ _ _ hlt,zG zq11 zq11,Int.toNat_natCast,List.replicate_succ]
  have:=set_front (l.take i) (List.replicate n (⟨#[]⟩:ByteArray)) ⟨#[]⟩ l[i]
  rw [hti] at this
  rw [this,List.take_append_getElem hlt,show (i:Int)+1=((i+1:Nat):Int) by omega]
  exact ih (i+1) zq11
theorem toS_ev (l:List ByteArray) (hl:l.length≤1048576):Ev (fun k=>laws_toStringS.f k l) l:=by
 refine Ev.of (k:=l.length+1) (fun k=>laws_toStringS.mono _ k) ?_
 unfold laws_toStringS.f
 rw [if_pos zq11,if_pos (by rw [Int.toNat_natCast];omega),Int.toNat_natCast]
 have:=toS_go l hl l.length 0 zq11
 simpa using this
def conv (x:S140):S135:=⟨x.f0,x.f1⟩
theorem toP_go (l:List S140) (hl:l.length≤1048576):∀(n i:Nat),i+n=l.length→laws_toPutS.l0 (n+1) l ((l.map conv).take i++List.replicate n z135) (i:Int)=some (l.map conv):=by
 intro n
 induction n with
 |zero=>
  intro i hi
  rw [laws_toPutS.l0,if_neg zq11,List.replicate_zero,List.append_nil,List.take_of_length_le (by rw [List.length_map];omega)]
 |succ n ih=>
  intro i hi
  have hlt:i<l.length:=zq11
  have hlt':i<(l.map conv).length:=by rw [List.length_map];exact hlt
  have hti:((l.map conv).take i).length=i:=by rw [List.length_take,List.length_map];omega
  rw [laws_toPutS.l0,if_pos zq11,if_pos zq11,rd_T140_nat _ _ hlt,laws_toPut.f,Option.bind_some,if_pos zq134,zG zq11 zq11,Int.toNat_natCast,List.replicate_succ]
  have:=set_front ((l.map conv).take i) (List.replicate n z135) z135 (conv l[i])
  rw [hti] at this
  show laws_toPutS.l0 (n+1) l (((l.map conv).take i++z135::List.replicate n z135).set i (conv l[i])) _=_
  rw [this,show conv l[i]=(l.map conv)[i] by rw [List.getElem_map],List.take_append_getElem hlt',show (i:Int)+1=((i+1:Nat):Int) by omega]
  exact ih (i+1) zq11
theorem toP_ev (l:List S140) (hl:l.length≤1048576):Ev (fun k=>laws_toPutS.f k l) (l.map conv):=by
 refine Ev.of (k:=l.length+1) (fun k=>laws_toPutS.mono _ k) ?_
 unfold laws_toPutS.f
 rw [if_pos zq11,if_pos (by rw [Int.toNat_natCast];omega),Int.toNat_natCast]
 have:=toP_go l hl l.length 0 zq11
 simpa using this
theorem toD_ev (pages:List ByteArray) (late:List S140) (h:Small pages late):Ev (fun k=>laws_toDisk.f k pages late) (pages,late.map conv):=
 Ev.bind (toS_ev pages h.1.1) (Ev.bind (toP_ev late h.2.1) (Ev.now _))
theorem eqS_go (l:List ByteArray) (hl:l.length≤2000000):∀(n i:Nat),i+n=l.length→laws_eqStringS.l0 (n+1) l l (i:Int)=some true:=by
 intro n
 induction n with
 |zero=>intro i hi;rw [laws_eqStringS.l0,if_neg zq11]
 |succ n ih=>
  intro i hi
  rw [laws_eqStringS.l0,if_pos zq11,if_pos zq11,if_pos zq11,if_pos rfl,zG zq11 zq11,show (i:Int)+1=((i+1:Nat):Int) by omega]
  exact ih (i+1) zq11
theorem eqP_go (l:List S135) (hl:l.length≤2000000):∀(n i:Nat),i+n=l.length→laws_eqPutS.l0 (n+1) l l (i:Int)=some true:=by
 intro n
 induction n with
 |zero=>intro i hi;rw [laws_eqPutS.l0,if_neg zq11]
 |succ n ih=>
  intro i hi
  rw [laws_eqPutS.l0,if_pos zq11,if_pos zq11,if_pos zq11,laws_eqPut.f,if_pos rfl,if_pos rfl,Option.bind_some,if_pos rfl,zG zq11 zq11,show (i:Int)+1=((i+1:Nat):Int) by omega]
  exact ih (i+1) zq11
theorem eqD_ev (pages:List ByteArray) (late:List S135) (h1:pages.length≤2000000) (h2:late.length≤2000000):Ev (fun k=>laws_eqDisk.f k pages late pages late) true:=by
 refine Ev.bind (a:=true) (Ev.of (k:=pages.length+1) (fun k=>laws_eqStringS.mono _ _ k) ?_) ?_
 ·unfold laws_eqStringS.f
  rw [if_pos rfl]
  exact eqS_go pages h1 pages.length 0 zq11
 ·simp only [if_true]
  refine Ev.bind (a:=true) (Ev.of (k:=late.length+1) (fun k=>laws_eqPutS.mono _ _ k) ?_) ?_
  ·unfold laws_eqPutS.f
   rw [if_pos rfl]
   exact eqP_go late h2 late.length 0 zq11
  ·simp only [if_true]
   exact Ev.now _
theorem eqI_go (l:List Int) (hl:l.length≤2000000):∀(n i:Nat),i+n=l.length→laws_eqIntS.l0 (n+1) l l (i:Int)=some true:=by
 intro n
 induction n with
 |zero=>intro i hi;rw [laws_eqIntS.l0,if_neg zq11]
 |succ n ih=>
  intro i hi
  rw [laws_eqIntS.l0,if_pos zq11,if_pos zq11,if_pos zq11,if_pos rfl,zG zq11 zq11,show (i:Int)+1=((i+1:Nat):Int) by omega]
  exact ih (i+1) zq11
theorem eqI_ev (l:List Int) (hl:l.length≤2000000):Ev (fun k=>laws_eqIntS.f k l l) true:=by
 refine Ev.of (k:=l.length+1) (fun k=>laws_eqIntS.mono _ _ k) ?_
 unfold laws_eqIntS.f
 rw [if_pos rfl]
 exact eqI_go l hl l.length 0 zq11
theorem toI_go (l:List Int) (hl:l.length≤1048576):∀(n i:Nat),i+n=l.length→laws_toIntS.l0 (n+1) l (l.take i++List.replicate n 0) (i:Int)=some l:=by
 intro n
 induction n with
 |zero=>
  intro i hi
  rw [laws_toIntS.l0,if_neg zq11,List.replicate_zero,List.append_nil,List.take_of_length_le zq11]
 |succ n ih=>
  intro i hi
  have hlt:i<l.length:=zq11
  have hti:(l.take i).length=i:=zq124
  rw [laws_toIntS.l0,if_pos zq11,if_pos zq11,if_pos zq134,rd_nat _ _ hlt,zG zq11 zq11,Int.toNat_natCast,List.replicate_succ]
  have:=set_front (l.take i) (List.replicate n (0:Int)) 0 l[i]
  rw [hti] at this
  rw [this,List.take_append_getElem hlt,show (i:Int)+1=((i+1:Nat):Int) by omega]
  exact ih (i+1) zq11
theorem toI_ev (l:List Int) (hl:l.length≤1048576):Ev (fun k=>laws_toIntS.f k l) l:=by
 refine Ev.of (k:=l.length+1) (fun k=>laws_toIntS.mono _ k) ?_
 unfold laws_toIntS.f
 rw [if_pos zq11,if_pos (by rw [Int.toNat_natCast];omega),Int.toNat_natCast]
 have:=toI_go l hl l.length 0 zq11
 simpa using this
theorem mt_go:∀(n:Nat) (a:Int) (x:ByteArray),0≤a→a<10^n→a≤9223372036854775807→x.size+n≤1000→∃t,laws_markText.l0 (n+1) a x=some t:=by
 intro n
 induction n with
 |zero=>
  intro a x h0 h1 _ h2
  rw [laws_markText.l0,if_neg zq11,if_pos zq11]
  exact ⟨_,rfl⟩
 |succ n ih=>
  intro a x h0 h1 hb h2
  by_cases ha:a>0
  ·rw [laws_markText.l0,if_pos ha,Option.bind_some,if_pos (by rw [strOfNums_size];simp;omega)]
   have e:wrap64 (Int.tdiv a 10)=a/10:=by rw [Int.tdiv_eq_ediv_of_nonneg h0];exact zG zq11 zq11
   rw [e]
   refine ih (a/10) _ zq11 ?_ zq11 ?_
   ·rw [Int.pow_succ] at h1
    omega
   ·rw [ByteArray.size_append,strOfNums_size]
    simp
    omega
  ·rw [laws_markText.l0,if_neg ha,if_pos zq11]
   exact ⟨_,rfl⟩
theorem mt_ex (a:Int) (h0:0<a) (h1:a≤4000000000000000000):∃t,Ev (fun k=>laws_markText.f k a) t:=by
 obtain ⟨t,ht⟩:=mt_go 19 a ⟨#[]⟩ zq11 (by have:(10:Int)^19=10000000000000000000:=zq26;omega) zq11 zq26
 refine ⟨t,Ev.of (k:=20) (fun k=>laws_markText.mono _ k) ?_⟩
 unfold laws_markText.f
 rw [if_neg zq11]
 exact ht
open Classical in
noncomputable def mt (a:Int):ByteArray:=if h:∃t,Ev (fun k=>laws_markText.f k a) t then Classical.choose h else ⟨#[]⟩
theorem mt_ev (a:Int) (h0:0<a) (h1:a≤4000000000000000000):Ev (fun k=>laws_markText.f k a) (mt a):=by
 unfold mt
 rw [dif_pos (mt_ex a h0 h1)]
 exact Classical.choose_spec (mt_ex a h0 h1)
def INd (pages:List ByteArray) (late:List S140):Prop:=(∀s∈pages,s.size≤9223372036854775807)∧pages.length≤9223372036854775807∧(∀s∈late,s.f1.size≤9223372036854775807)∧late.length≤9223372036854775807
theorem szDx (pages:List ByteArray) (late:List S140) (h:INd pages late) (x:Int) (h0:0≤x) (hx:x≤1048576):∃r,Ev (fun k=>laws_szDisk.f k pages late x) r∧(r<0∨(0≤r∧r≤x∧Small pages late)):=by
 obtain ⟨h1,h2,h3,h4⟩:=h
 obtain ⟨a,ea,ha⟩:=szS_ev pages h1 h2 x h0 hx
 rcases ha with ha|⟨a0,a1,a2,a3⟩
 ·exact ⟨-1,Ev.bind ea (by simp only [if_pos ha];exact Ev.now _),.inl zq11⟩
 ·obtain ⟨b,eb,hb⟩:=szP_ev late h3 h4 a a0 zq11
  rcases hb with hb|⟨b0,b1,b2,b3⟩
  ·exact ⟨-1,Ev.bind ea (by simp only [if_neg (show ¬a<0 by omega)];exact Ev.bind eb (by simp only [if_pos hb];exact Ev.now _)),.inl zq11⟩
  ·exact ⟨b,Ev.bind ea (by simp only [if_neg (show ¬a<0 by omega)];exact Ev.bind eb (by simp only [if_neg (show ¬b<0 by omega)];exact Ev.now _)),.inr ⟨b0,zq11,⟨zq11,fun s hs=>by have:=a3 s hs;omega⟩,⟨zq11,fun s hs=>by have:=b3 s hs;omega⟩⟩⟩
theorem szIx (l:List Int) (hl:l.length≤9223372036854775807) (x:Int) (h0:0≤x) (hx:x≤1048576):∃r,Ev (fun _=>laws_szIntS.f l x) r∧(r<0∨(0≤r∧r≤x∧l.length≤1048576)):=by
 unfold laws_szIntS.f
 rw [zG zq11 zq11]
 by_cases h:x-(l.length:Int)<0
 ·exact ⟨-1,by rw [if_pos h];exact Ev.now _,.inl zq11⟩
 ·exact ⟨_,by rw [if_neg h];exact Ev.now _,.inr ⟨zq11,zq11,zq11⟩⟩
theorem sz_step {A:Nat→Option Int} {F:Nat→Int→Option Int} {x:Int} {P Q:Prop} (hA:∃r,Ev A r∧(r<0∨(0≤r∧r≤x∧P))) (hF:∀y,0≤y→y≤x→∃r,Ev (fun k=>F k y) r∧(r<0∨(0≤r∧r≤y∧Q))):∃r,Ev (fun k=>(A k).bind fun t=>if t<0 then some (-1) else F k t) r∧(r<0∨(0≤r∧r≤x∧P∧Q)):=by
 obtain ⟨a,ea,ha⟩:=hA
 rcases ha with ha|⟨a0,a1,a2⟩
 ·exact ⟨-1,Ev.bind ea (by simp only [if_pos ha];exact Ev.now _),.inl zq11⟩
 ·obtain ⟨b,eb,hb⟩:=hF a a0 a1
  refine ⟨b,Ev.bind ea (by simp only [if_neg (show ¬a<0 by omega)];exact eb),?_⟩
  rcases hb with hb|⟨b0,b1,b2⟩
  ·exact .inl hb
  ·exact .inr ⟨b0,zq11,a2,b2⟩
theorem sz_end {A:Nat→Option Int} {x:Int} {P:Prop} (hA:∃r,Ev A r∧(r<0∨(0≤r∧r≤x∧P))):∃r,Ev (fun k=>(A k).bind fun t=>if t<0 then some (-1) else some t) r∧(r<0∨(0≤r∧r≤x∧P)):=by
 obtain ⟨a,ea,ha⟩:=hA
 rcases ha with ha|⟨a0,a1,a2⟩
 ·exact ⟨-1,Ev.bind ea (by simp only [if_pos ha];exact Ev.now _),.inl zq11⟩
 ·exact ⟨a,Ev.bind ea (by simp only [if_neg (show ¬a<0 by omega)];exact Ev.now _),.inr ⟨a0,a1,a2⟩⟩
def INi (l:List Int):Prop:=l.length≤9223372036854775807
theorem szWx (pages:List ByteArray) (late:List S140) (n:Int) (u g f:List Int) (hd:INd pages late) (hu:INi u) (hg:INi g) (hf:INi f) (x:Int) (h0:0≤x) (hx:x≤1048576):∃r,Ev (fun k=>laws_szWork.f k pages late n u g f x) r∧(r<0∨(0≤r∧r≤x∧Small pages late∧u.length≤1048576∧g.length≤1048576∧f.length≤1048576)):=by
 unfold laws_szWork.f
 exact sz_step (szDx pages late hd x h0 hx) fun y y0 y1=>sz_step (szIx u hu y y0 zq11) fun z z0 z1=>sz_step (szIx g hg z z0 zq11) fun t t0 t1=>sz_end (szIx f hf t t0 zq11)
theorem rd135 (xs:List S135) (i:Nat) (h:i<xs.length):zx xs (i:Int)=xs[i]:=rd_T135_nat xs i h
theorem mhS:∀(n i:Nat) (l:List ByteArray) (a:Int),i+n=l.length→0<a→a+n<4000000000000000000→l.length≤2000000→∃l',Ev (fun k=>laws_markStringS.l0 k l a (i:Int)) (a+n,l')∧l'.length=l.length∧(∀j,j<i→l'[j]?=l[j]?)∧Ev (fun k=>laws_heldStringS.l0 k l' a (i:Int)) (a+n):=by
 intro n
 induction n with
 |zero=>
  intro i l a hi h0 h1 hl
  refine ⟨l,Ev.step (f:=fun _=>some (a+((0:Nat):Int),l)) (fun k=> ?_) (Ev.now _),rfl,fun _ _=>rfl,Ev.step (f:=fun _=>some (a+((0:Nat):Int))) (fun k=> ?_) (Ev.now _)⟩
  ·rw [laws_markStringS.l0,if_neg zq11]
   simp
  ·rw [laws_heldStringS.l0,if_neg zq11]
   simp
 |succ n ih=>
  intro i l a hi h0 h1 hl
  obtain ⟨l',e1,e2,e3,e4⟩:=ih (i+1) (l.set i (mt a)) (a+1) (by rw [List.length_set];omega) zq11 zq11 (by rw [List.length_set];exact hl)
  rw [List.length_set] at e2
  have hat:l'[i]?=some (mt a):=zq127
  have hlt:i<l'.length:=zq11
  have hget:l'[i]=mt a:=zq126
  have hn:a+1+(n:Int)=a+((n+1:Nat):Int):=zq11
  rw [hn] at e1 e4
  refine ⟨l',Ev.step (f:=fun k=>(laws_markText.f k a).bind fun t=>laws_markStringS.l0 k (l.set i t) (a+1) ((i+1:Nat):Int)) (fun k=> ?_) (Ev.bind (mt_ev a h0 zq11) e1),e2,fun j hj=> ?_,Ev.step (f:=fun k=>(laws_markText.f k a).bind fun t=>if (mt a).toList=t.toList then laws_heldStringS.l0 k l' (a+1) ((i+1:Nat):Int) else none) (fun k=> ?_) (Ev.bind (mt_ev a h0 zq11) (by simp only [if_true];exact e4))⟩
  ·rw [laws_markStringS.l0,if_pos zq11]
   congr 1
   funext t
   rw [if_pos zq11,zG zq11 zq11,zG zq11 zq11,Int.toNat_natCast]
   rfl
  ·rw [e3 j zq11,List.getElem?_set_ne zq11]
  ·rw [laws_heldStringS.l0,if_pos zq11,if_pos zq11,zla _ _ _ hlt,hget,zG (x:=a+1) zq11 zq11,zG (x:=(i:Int)+1) zq11 zq11]
   rfl
theorem mhP:∀(n i:Nat) (l:List S135) (a:Int),i+n=l.length→0<a→a+2*n<4000000000000000000→l.length≤2000000→∃l',Ev (fun k=>laws_markPutS.l0 k l a (i:Int)) (a+2*n,l')∧l'.length=l.length∧(∀j,j<i→l'[j]?=l[j]?)∧Ev (fun k=>laws_heldPutS.l0 k l' a (i:Int)) (a+2*n):=by
 intro n
 induction n with
 |zero=>
  intro i l a hi h0 h1 hl
  refine ⟨l,Ev.step (f:=fun _=>some (a+2*((0:Nat):Int),l)) (fun k=> ?_) (Ev.now _),rfl,fun _ _=>rfl,Ev.step (f:=fun _=>some (a+2*((0:Nat):Int))) (fun k=> ?_) (Ev.now _)⟩
  ·rw [laws_markPutS.l0,if_neg zq11]
   simp
  ·rw [laws_heldPutS.l0,if_neg zq11]
   simp
 |succ n ih=>
  intro i l a hi h0 h1 hl
  obtain ⟨l1,hl1⟩:∃z,z=l.set i (⟨a,(zx l i).f1⟩:S135):=⟨_,rfl⟩
  have hs:l1.length=l.length:=by rw [hl1,List.length_set]
  have h10:(zx l1 i).f0=a:=by
   rw [rd135 l1 i zq11]
   simp [hl1]
  obtain ⟨l',e1,e2,e3,e4⟩:=ih (i+1) (l1.set i (⟨a,mt (a+1)⟩:S135)) (a+2) (by rw [List.length_set,hs];omega) zq11 zq11 (by rw [List.length_set,hs];exact hl)
  rw [List.length_set,hs] at e2
  have hlt:i<l'.length:=zq11
  have hat:l'[i]?=some (⟨a,mt (a+1)⟩:S135):=zq127
  have hget:l'[i]=(⟨a,mt (a+1)⟩:S135):=zq126
  have hn:a+2+2*(n:Int)=a+2*((n+1:Nat):Int):=zq11
  rw [hn] at e1 e4
  refine ⟨l',Ev.step (f:=fun k=>(laws_markText.f k (a+1)).bind fun t=>laws_markPutS.l0 k (l1.set i (⟨a,t⟩:S135)) (a+2) ((i+1:Nat):Int)) (fun k=> ?_) (Ev.bind (mt_ev (a+1) zq11 zq11) e1),e2,fun j hj=> ?_,Ev.step (f:=fun k=>(laws_markText.f k (a+1)).bind fun t=>if (mt (a+1)).toList=t.toList then laws_heldPutS.l0 k l' (a+2) ((i+1:Nat):Int) else none) (fun k=> ?_) (Ev.bind (mt_ev (a+1) zq11 zq11) (by simp only [if_true];exact e4))⟩
  ·rw [laws_markPutS.l0,if_pos zq11,if_pos zq11,Option.bind_some,Int.toNat_natCast,←hl1,h10,zG (x:=a+1) zq11 zq11,zG (x:=a+1+1) zq11 zq11,zG (x:=(i:Int)+1) zq11 zq11,show a+1+1=a+2 by omega]
   rfl
  ·rw [e3 j zq11,List.getElem?_set_ne zq11,hl1,List.getElem?_set_ne zq11]
  ·rw [laws_heldPutS.l0,if_pos zq11,if_pos zq11,rd135 _ _ hlt,hget,if_pos rfl,zG (x:=a+1) zq11 zq11,zG (x:=a+1+1) zq11 zq11,zG (x:=(i:Int)+1) zq11 zq11,show a+1+1=a+2 by omega]
   rfl
theorem mhI:∀(n i:Nat) (l:List Int) (a:Int),i+n=l.length→0<a→a+n<4000000000000000000→l.length≤2000000→∃l',Ev (fun k=>laws_markIntS.l0 k l a (i:Int)) (a+n,l')∧l'.length=l.length∧(∀j,j<i→l'[j]?=l[j]?)∧Ev (fun k=>laws_heldIntS.l0 k l' a (i:Int)) (a+n):=by
 intro n
 induction n with
 |zero=>
  intro i l a hi h0 h1 hl
  refine ⟨l,Ev.step (f:=fun _=>some (a+((0:Nat):Int),l)) (fun k=> ?_) (Ev.now _),rfl,fun _ _=>rfl,Ev.step (f:=fun _=>some (a+((0:Nat):Int))) (fun k=> ?_) (Ev.now _)⟩
  ·rw [laws_markIntS.l0,if_neg zq11]
   simp
  ·rw [laws_heldIntS.l0,if_neg zq11]
   simp
 |succ n ih=>
  intro i l a hi h0 h1 hl
  obtain ⟨l',e1,e2,e3,e4⟩:=ih (i+1) (l.set i a) (a+1) (by rw [List.length_set];omega) zq11 zq11 (by rw [List.length_set];exact hl)
  rw [List.length_set] at e2
  have hat:l'[i]?=some a:=zq127
  have hlt:i<l'.length:=zq11
  have hget:l'[i]=a:=zq126
  have hn:a+1+(n:Int)=a+((n+1:Nat):Int):=zq11
  rw [hn] at e1 e4
  refine ⟨l',Ev.step (f:=fun k=>laws_markIntS.l0 k (l.set i a) (a+1) ((i+1:Nat):Int)) (fun k=> ?_) e1,e2,fun j hj=> ?_,Ev.step (f:=fun k=>laws_heldIntS.l0 k l' (a+1) ((i+1:Nat):Int)) (fun k=> ?_) e4⟩
  ·rw [laws_markIntS.l0,if_pos zq11,if_pos zq11,zG zq11 zq11,zG zq11 zq11,Int.toNat_natCast]
   rfl
  ·rw [e3 j zq11,List.getElem?_set_ne zq11]
  ·rw [laws_heldIntS.l0,if_pos zq11,if_pos zq11,rd_nat _ _ hlt,hget,if_pos rfl,zG (x:=a+1) zq11 zq11,zG (x:=(i:Int)+1) zq11 zq11]
   rfl
theorem mhI_ev (l:List Int) (a:Int) (h0:0<a) (h1:a+l.length<4000000000000000000) (hl:l.length≤2000000):∃l',Ev (fun k=>laws_markIntS.f k l a) (a+l.length,l')∧Ev (fun k=>laws_heldIntS.f k l' a) (a+l.length):=by
 obtain ⟨l',e1,_,_,e4⟩:=mhI l.length 0 l a zq11 h0 h1 hl
 exact ⟨l',e1,e4⟩
theorem mhD_ev (p:List ByteArray) (q:List S135) (a:Int) (h0:0<a) (h1:a+10000000<4000000000000000000) (hp:p.length≤2000000) (hq:q.length≤2000000):∃p' q',Ev (fun k=>laws_markDisk.f k p q a) (a+p.length+2*q.length,p',q')∧Ev (fun k=>laws_heldDisk.f k p' q' a) (a+p.length+2*q.length):=by
 obtain ⟨p',e1,_,_,e4⟩:=mhS p.length 0 p a zq11 h0 zq11 hp
 obtain ⟨q',g1,_,_,g4⟩:=mhP q.length 0 q (a+p.length) zq11 zq11 zq11 hq
 refine ⟨p',q',Ev.bind e1 (Ev.bind g1 (Ev.now _)),?_⟩
 refine Ev.bind e4 ?_
 simp only [if_neg (show ¬a+(p.length:Int)<0 by omega)]
 refine Ev.bind g4 ?_
 simp only [if_neg (show ¬a+(p.length:Int)+2*(q.length:Int)<0 by omega)]
 exact Ev.now _
end Go.Proofs.Ytonhdiemjgdcnaa.PFnExactGivePage
namespace Go.Proofs.Ytonhdiemjgdcnaa.Own
open Go.RowKit Go.Proofs.YtonhdiemjgdcnaaW.PrintWords Go.Proofs.YtonhdiemjgdcnaaW.PrintLast Go.Proofs.YtonhdiemjgdcnaaW.PrintMore
theorem tagQ {α:Type} {d:Kd α} {f:Nat→Nat} {e base:Nat} {w:World} {ok:Nat→Prop} {v:Value} {xs:List α} (h:(Kd.tag f d).Q e w base ok v xs.zipIdx):d.Q e w base ok v xs:=by
 obtain ⟨h0,inner,ho,hr⟩:=h
 rw [List.length_zipIdx] at ho
 exact ⟨h0,inner,ho,by have:=hr.1;rw [List.length_zipIdx] at this;exact this,fun j p hj=>d.M_mono (fun _ hk=>⟨hk.1.1,hk.1.2⟩) (hr.2 j (p,j) (Kd.zip_at hj))⟩
def apair {α β:Type} (a:Kd α) (b:Kd β):Kd (α×β) where
 sz:=a.sz+b.sz
 E:=a.E++b.E
 K:=fun w x cs=>∃c0 c1,cs=c0++c1∧a.K w x.1 c0∧b.K w x.2 c1
 M:=fun w base ok x cs=>∃c0 c1,∃f:Nat→Bool,cs=c0++c1∧a.M w base (fun k=>ok k∧f k=true) x.1 c0∧b.M w base (fun k=>ok k∧f k=false) x.2 c1
 K_len:=by
  rintro w x cs ⟨c0,c1,rfl,h0,h1⟩
  rw [List.length_append,a.K_len h0,b.K_len h1]
 K_one:=by
  rintro w x cs ⟨c0,c1,rfl,h0,h1⟩ u hu
  rcases List.mem_append.1 hu with hu|hu
  ·exact a.K_one h0 u hu
  ·exact b.K_one h1 u hu
 K_below:=by
  rintro w w1 x cs hb ⟨c0,c1,rfl,h0,h1⟩
  exact ⟨c0,c1,rfl,a.K_below hb h0,b.K_below hb h1⟩
 K_of_M:=by
  rintro w base ok x cs ⟨c0,c1,f,rfl,h0,h1⟩
  exact ⟨c0,c1,rfl,a.K_of_M h0,b.K_of_M h1⟩
 M_mono:=by
  rintro w base ok ok' x cs hok ⟨c0,c1,f,rfl,h0,h1⟩
  exact ⟨c0,c1,f,rfl,a.M_mono (fun k hk=>⟨hok k hk.1,hk.2⟩) h0,b.M_mono (fun k hk=>⟨hok k hk.1,hk.2⟩) h1⟩
 M_bound:=by
  rintro w base ok x cs ⟨c0,c1,f,rfl,h0,h1⟩
  refine ⟨c0,c1,f,rfl,a.M_mono ?_ (a.M_bound h0),b.M_mono ?_ (b.M_bound h1)⟩
  ·rintro k ⟨⟨h2,h2'⟩,h3,h4,q,hq,hc⟩
   exact ⟨⟨h2,h3,h4,q,List.mem_append_left _ hq,hc⟩,h2'⟩
  ·rintro k ⟨⟨h2,h2'⟩,h3,h4,q,hq,hc⟩
   exact ⟨⟨h2,h3,h4,q,List.mem_append_right _ hq,hc⟩,h2'⟩
 M_move:=by
  rintro w w1 base ok x cs hm ⟨c0,c1,f,rfl,h0,h1⟩
  exact ⟨c0,c1,f,rfl,a.M_move (fun k hk=>hm k hk.1) h0,b.M_move (fun k hk=>hm k hk.1) h1⟩
 M_lower:=by
  rintro w base base' ok x cs hb ⟨c0,c1,f,rfl,h0,h1⟩
  exact ⟨c0,c1,f,rfl,a.M_lower hb h0,b.M_lower hb h1⟩
def arow {α:Type} (e:Nat) (d:Kd α):Kd (List α) where
 sz:=1
 E:=e::d.E
 K:=fun w xs cs=>∃A c,cs=[.slice A xs.length c]∧xs.length≤c∧d.C w A xs.length xs
 M:=fun w base ok xs cs=>∃v,∃f:Nat→Nat,cs=[v]∧(Kd.tag f d).Q e w base ok v xs.zipIdx
 K_len:=by
  rintro w x cs ⟨A,c,rfl,_⟩
  rfl
 K_one:=by
  rintro w x cs ⟨A,c,rfl,_⟩ u hu
  rw [List.mem_singleton.1 hu]
  rfl
 K_below:=by
  rintro w w1 x cs hb ⟨A,c,rfl,hl,hr⟩
  exact ⟨A,c,rfl,hl,Kd.C_below hr hb⟩
 K_of_M:=by
  rintro w base ok x cs ⟨v,f,rfl,h⟩
  obtain ⟨A,c,rfl,hl,hr⟩:=Kd.Q_reads (tagQ h)
  exact ⟨A,c,rfl,hl,hr⟩
 M_mono:=by
  rintro w base ok ok' x cs hok ⟨v,f,rfl,h⟩
  exact ⟨v,f,rfl,Kd.Q_mono h hok⟩
 M_bound:=by
  rintro w base ok x cs ⟨v,f,rfl,h⟩
  exact ⟨v,f,rfl,Kd.Q_bound h⟩
 M_move:=by
  rintro w w1 base ok x cs hm ⟨v,f,rfl,h⟩
  exact ⟨v,f,rfl,Kd.Q_move h hm⟩
 M_lower:=by
  rintro w base base' ok x cs hb ⟨v,f,rfl,h⟩
  exact ⟨v,f,rfl,Kd.Q_lower h hb⟩
theorem flatM {α:Type} {d:Kd α} (hE:d.E=[]) {w:World} {base:Nat} {ok ok':Nat→Prop} {x:α} {cs:List Value} (h:d.M w base ok x cs):d.M w base ok' x cs:=
 d.M_mono (fun k hk=>by
  obtain ⟨_,_,_,q,hq,_⟩:=hk
  rw [hE] at hq
  cases hq) (d.M_bound h)
theorem arow_of_Q {α:Type} {d:Kd α} (hE:d.E=[]) {e base:Nat} {w:World} {ok:Nat→Prop} {v:Value} {xs:List α} (h:d.Q e w base ok v xs):(arow e d).M w base ok xs [v]:=by
 obtain ⟨h0,inner,ho,hr⟩:=h
 refine ⟨v,fun _=>0,rfl,h0,inner,by rw [List.length_zipIdx];exact ho,by rw [List.length_zipIdx];exact hr.1,fun j p hj=> ?_⟩
 rw [List.getElem?_zipIdx] at hj
 obtain ⟨a,ha,rfl⟩:=Option.map_eq_some_iff.1 hj
 exact flatM hE (hr.2 j a ha)
theorem arow_of_S {α:Type} {d:Kd α} {e base:Nat} {w:World} {ok:Nat→Prop} {v:Value} {xs:List α} (h:Kd.S d e w base ok v xs):(arow e d).M w base ok xs [v]:=by
 obtain ⟨f,h⟩:=h
 exact ⟨v,f,rfl,Kd.Q_of_R h⟩
def srow {α:Type} (e:Nat) (d:Kd α):Kd (List α) where
 sz:=1
 E:=e::d.E
 K:=fun w xs cs=>∃A c,cs=[.slice A xs.length c]∧xs.length≤c∧d.C w A xs.length xs
 M:=fun w base ok xs cs=>∃v,cs=[v]∧Kd.S d e w base ok v xs
 K_len:=by
  rintro w x cs ⟨A,c,rfl,_⟩
  rfl
 K_one:=by
  rintro w x cs ⟨A,c,rfl,_⟩ u hu
  rw [List.mem_singleton.1 hu]
  rfl
 K_below:=by
  rintro w w1 x cs hb ⟨A,c,rfl,hl,hr⟩
  exact ⟨A,c,rfl,hl,Kd.C_below hr hb⟩
 K_of_M:=by
  rintro w base ok x cs ⟨v,rfl,h⟩
  obtain ⟨A,c,rfl,hl,hr⟩:=Kd.R_reads (Kd.S_R h)
  exact ⟨A,c,rfl,hl,hr⟩
 M_mono:=by
  rintro w base ok ok' x cs hok ⟨v,rfl,h⟩
  exact ⟨v,rfl,Kd.S_mono h hok⟩
 M_bound:=by
  rintro w base ok x cs ⟨v,rfl,h⟩
  exact ⟨v,rfl,Kd.S_bound h⟩
 M_move:=by
  rintro w w1 base ok x cs hm ⟨v,rfl,h⟩
  exact ⟨v,rfl,Kd.S_move h hm⟩
 M_lower:=by
  rintro w base base' ok x cs hb ⟨v,rfl,h⟩
  exact ⟨v,rfl,Kd.S_lower h hb⟩
theorem srow_of_R {α:Type} {d:Kd α} (hE:d.E=[]) {e base:Nat} {w:World} {ok:Nat→Prop} {v:Value} {xs:List α} (h:d.R e w base ok v xs):(srow e d).M w base (fun k=>some k=v.ownBlock) xs [v]:=by
 refine ⟨v,rfl,fun _=>0,?_⟩
 obtain ⟨h0,inner,ho,hr⟩:=Kd.R_tight hE h
 refine ⟨h0,inner,by rw [List.length_zipIdx];exact ho,by rw [List.length_zipIdx];exact hr.1,fun j p hj=> ?_⟩
 rw [List.getElem?_zipIdx] at hj
 obtain ⟨a,ha,rfl⟩:=Option.map_eq_some_iff.1 hj
 exact flatM hE (hr.2 j a ha)
theorem Q_tight {α:Type} {d:Kd α} (hE:d.E=[]) {e base:Nat} {w:World} {ok:Nat→Prop} {v:Value} {xs:List α} (h:d.Q e w base ok v xs):d.Q e w base (fun k=>some k=v.ownBlock) v xs:=by
 obtain ⟨h0,inner,ho,hr⟩:=h
 exact ⟨fun k hk=>hk.symm,inner,ho,hr.imp_ (fun p c hp=>flatM hE hp)⟩
open Classical in
theorem apair_mk {α β:Type} {a:Kd α} {b:Kd β} {w:World} {base:Nat} {ok okA okB:Nat→Prop} {x:α} {y:β} {c0 c1:List Value} (ha:a.M w base okA x c0) (hb:b.M w base okB y c1) (hA:∀k,okA k→ok k) (hB:∀k,okB k→ok k) (hd:∀k,okA k→¬okB k):
  (apair a b).M w base ok (x,y) (c0++c1):=by
 refine ⟨c0,c1,fun k=>decide (okA k),rfl,a.M_mono (fun k hk=>⟨hA k hk,decide_eq_true hk⟩) ha,b.M_mono (fun k hk=>⟨hB k hk,decide_eq_false (fun h=>hd k h hk)⟩) hb⟩
theorem apair_open {α β:Type} {a:Kd α} {b:Kd β} {w:World} {base:Nat} {ok:Nat→Prop} {x:α} {y:β} {cs:List Value} (h:(apair a b).M w base ok (x,y) cs):
  ∃c0 c1,∃okA okB:Nat→Prop,cs=c0++c1∧a.M w base okA x c0∧b.M w base okB y c1∧(∀k,okA k→ok k)∧(∀k,okB k→ok k)∧(∀k,okA k→¬okB k):=by
 obtain ⟨c0,c1,f,rfl,ha,hb⟩:=h
 exact ⟨c0,c1,_,_,rfl,ha,hb,fun k hk=>hk.1,fun k hk=>hk.1,fun k hk h2=>by have h1:=hk.2;rw [h2.2] at h1;cases h1⟩
theorem R_tightB {α:Type} {d:Kd α} (hE:d.E=[]) {e base:Nat} {w:World} {ok:Nat→Prop} {v:Value} {xs:List α} (h:d.R e w base ok v xs):d.R e w base (fun k=>some k=v.ownBlock) v xs∧(∀k,some k=v.ownBlock→base≤k∧k<w.heap.size)∧(∀k,some k=v.ownBlock→∃cells,w.heap[k]?=some (.cells cells e (0,0))):=
 ⟨Kd.R_tight hE h,fun k hk=>⟨Kd.R_base h k hk.symm,Kd.R_lt h k hk.symm⟩,fun k hk=>Kd.R_typed h k hk.symm⟩
theorem types_ne {w:World} {p q:Nat→Prop} {e e':Nat} (h:∀k,p k→∃cells,w.heap[k]?=some (.cells cells e (0,0))) (h':∀k,q k→∃cells,w.heap[k]?=some (.cells cells e' (0,0))) (hn:e≠e'):∀k,p k→¬q k:=by
 intro k hp hq
 obtain ⟨c,hc⟩:=h k hp
 obtain ⟨c',hc'⟩:=h' k hq
 rw [hc] at hc'
 injection hc' with hc'
 injection hc' with _ hc'
 exact hn hc'
theorem R_tight2 {α:Type} {d:Kd α} (hE:d.E=[]) {e base:Nat} {w:World} {ok P:Nat→Prop} {v:Value} {xs:List α} (h:d.R e w base ok v xs) (hP:∀k,v.ownBlock=some k→P k):d.R e w base P v xs:=Kd.R_mono (Kd.R_tight hE h) (fun k hk=>hP k hk.symm)
theorem Q_tight2 {α:Type} {d:Kd α} (hE:d.E=[]) {e base:Nat} {w:World} {ok P:Nat→Prop} {v:Value} {xs:List α} (h:d.Q e w base ok v xs) (hP:∀k,v.ownBlock=some k→P k):d.Q e w base P v xs:=Kd.Q_mono (Q_tight hE h) (fun k hk=>hP k hk.symm)
theorem below_more {w0 w:World} (h:Below w0.heap.size w0 w) (o:Obj):Below w0.heap.size w0 (w.alloc o):=zg h o
end Go.Proofs.Ytonhdiemjgdcnaa.Own
namespace Go.Proofs.Ytonhdiemjgdcnaa.PFnExactGivePage
open Go.RowKit Go.Proofs.YtonhdiemjgdcnaaW.PrintWords Go.Proofs.YtonhdiemjgdcnaaW.PrintLast Go.Proofs.YtonhdiemjgdcnaaW.PrintMore
attribute [local go_sem] zO zP zY zX zK zJ zQ zR
structure S122 where
 f0:Int
 f1:(List Int)
structure S53 where
 f0:Int
 f1:Int
 f2:Int
 f3:(List S122)
end Go.Proofs.Ytonhdiemjgdcnaa.PFnExactGivePage
namespace Go.Proofs.Ytonhdiemjgdcnaa.PFnExactGivePage
open Go.RowKit Go.Proofs.YtonhdiemjgdcnaaW.PrintWords Go.Proofs.YtonhdiemjgdcnaaW.PrintLast Go.Proofs.YtonhdiemjgdcnaaW.PrintMore
attribute [local go_sem] zO zP zY zX zK zJ zQ zR
theorem markIntS_Q (k:Nat) (P0_:Nat→Prop) (u9000_:Value) (l0:List Int) (a1:Int) (r1:Int) (r2:List Int) (w0 w:World) (hB:Below w0.heap.size w0 w) (ho0:Kd.Q (Kd.int .i64) 3 w w0.heap.size P0_ u9000_ l0) (h:laws_markIntS.f k l0 a1=some (r1,r2)):
  Calls Try.prog 51 #[u9000_,.int .i64 a1] w fun e w'=>e= .returned (.int .i64 r1)∧Kd.Q (Kd.int .i64) 3 w' w0.heap.size (fun k_=>(P0_ k_∨w.heap.size≤k_)) u9000_ r2∧Below w0.heap.size w0 w'∧Kept w w' (fun k_=>P0_ k_):=by
 have HO0:=zz (show Kd.Q (Kd.int .i64) 3 w w0.heap.size (fun k_=>(P0_ k_∨w.heap.size≤k_)) u9000_ l0 from Kd.Q_mono ho0 (fun k_ hk=>(.inl hk)))
 have HK:=zz (Kept.refl w (fun k_=>P0_ k_))
 have HW0:=zz hB.size
 have HB:=zz hB
 clear hB
 have H:(laws_markIntS.l0 k l0 a1 0)=some (r1,r2):=h
 clear h
 have H':=zz H
 clear H
 go_enter Try.func51,Try.ntmps51
 go_wp2
 go_loopg [1,5] k (fun kq v1 v5 w'=>∃(x0_1:List Int) (x1_1:Int) (x5_1:Int),v1= .int .i64 x1_1∧v5= .int .i64 x5_1∧Z0 (laws_markIntS.l0 kq x0_1 x1_1 x5_1=some (r1,r2))∧Z0 (kq≤k)∧Z0 (Kd.Q (Kd.int .i64) 3 w' w0.heap.size (fun k_=>(P0_ k_∨w.heap.size≤k_)) u9000_ x0_1)∧Z0 (Kept w w' (fun k_=>P0_ k_))∧Z0 (Below w0.heap.size w0 w'))
 case atStart=>exact ⟨(l0),(a1),(0),zq16,zq16,H',⟨Nat.le_refl _⟩,⟨by (with_reducible repeat (first|apply Kd.Q_alloc|apply Kd.Q_drewN|apply Kd.Q_drew));exact HO0.out⟩,⟨by repeat (first|(with_reducible first|exact HK.out|apply Kept.alloc|apply Kept.drewN|apply Kept.drew)|exact HK.out)⟩,⟨by repeat (first|(with_reducible first|exact HB.out|apply zg|apply zd|apply zk)|exact HB.out)⟩⟩
 case round=>
  clear H'
  obtain ⟨x0_1,x1_1,x5_1,rfl,rfl,HA,HK1,HO_0,HK,HB⟩:=hrel
  cases gk with
  |zero=>exact absurd HA.out (by simp [laws_markIntS.l0])
  |succ k1=>
   have H:=HA.out
   clear HA
   simp only [laws_markIntS.l0] at H
   by_cases c3:x5_1<(x0_1.length:Int)
   ·rw [if_pos c3] at H
    have c3b0:=decide_eq_true c3
    clear c3
    by_cases c4:0≤x5_1
    ·rw [if_pos c4] at H
     have c4b0:=decide_eq_true c4
     clear c4
     obtain ⟨y294,hy294⟩:∃y_:List Int,y_=(x0_1.set (x5_1:Int).toNat x1_1):=⟨_,rfl⟩
     replace H:(laws_markIntS.l0 k1 y294 (wrap64 (x1_1+1)) (wrap64 (x5_1+1)))=some (r1,r2):=zq8 hy294
     have Ny294:=zz hy294
     clear hy294
     have H':=zz H
     clear H
     obtain ⟨Ao6,co6,eo6,_⟩:=Kd.Q_slice HO_0.out
     subst eo6
     have p5:0≤(x5_1:Int):=of_decide_eq_true zq24
     have q5:(x5_1:Int)<((x0_1.length:Int):Int):=of_decide_eq_true zq24
     obtain ⟨go5,oo5,co5,eo5,gb5,gl5,cl5,HG5⟩:=Kd.Q_form HO_0.out zq11
     (first|cases eo5|(injection eo5 with ea_ en_ ec_;(first|subst ea_|(injection ea_ with ea_;subst ea_));subst ec_;clear en_))
     have GB5:=zz gb5
     have GG5:=zz HG5
     clear gb5 gl5 HG5
     have HMgo5:=zz (show (P0_ go5∨w.heap.size≤go5) from (HO_0.out.1 _ rfl))
     obtain ⟨hx5_0,hf5_0⟩:=Kd.Q_cell 0 HO_0.out (x5_1:Int) p5 q5
     have p5q:=p5
     have q5q:=q5
     replace p5:=eq_true p5
     replace q5:=eq_true q5
     have HP7:=Kd.Q_putg HO_0.out (x5_1:Int) p5q q5q x1_1
     go_wp2_with (first|((with_reducible refine zv (t:=3) (p:=15) rfl ?_);refine zga (t:=3) (p:=15) (v:= ?vo_w8) (w1:=(wr.setCell ⟨go5,oo5+(x5_1:Int).toNat,none⟩ (.int .i64 x1_1))) ?hg ?ho ?hn ?hr ?_;(case ho=>rfl);(case hg=>rfl);(case hn=>rfl);(case hr=>first|(go_simp;done)|(go_simp;rfl));intro w8 hw;have hg:wr.grownBy w8 (some go5):=(by rw [hw];exact HP7.2);have hp_:Kd.Q (Kd.int .i64) 3 w8 w0.heap.size (fun k_=>(P0_ k_∨w.heap.size≤k_)) (.slice (some ⟨go5,oo5,none⟩) x0_1.length co6) y294:=(by rw [hw,Ny294.out];exact HP7.1);clear HP7;have n0_:=zz (hp_);have n1_:=zz ((by rw [hw];exact zn (HB.out) GB5.out:Below w0.heap.size w0 w8));have n2_:=zz (Kept.of_grown (S:=(fun k_=>P0_ k_)) hg zq54 (fun k_ e_=>(HO_0.out.1 k_ e_)));clear HO_0;clear HB;clear HK;have HO_0:=n0_;have HB:=n1_;have HK:=n2_;clear n0_ n1_ n2_;clear hg hw hp_))
     go_roundg k1
     case measure=>have:=HK1.out;omega
     case rel=>exact ⟨(y294),(wrap64 (x1_1+1)),(wrap64 (x5_1+1)),zq16,zq16,H',⟨zq95 HK1.out⟩,⟨by (with_reducible repeat (first|apply Kd.Q_alloc|apply Kd.Q_drewN|apply Kd.Q_drew));exact HO_0.out⟩,⟨by repeat (first|(with_reducible first|exact HK.out|apply Kept.alloc|apply Kept.drewN|apply Kept.drew)|exact HK.out)⟩,⟨by repeat (first|(with_reducible first|exact HB.out|apply zg|apply zd|apply zk)|exact HB.out)⟩⟩
    ·rw [if_neg c4] at H
     exact absurd H zq52
   ·rw [if_neg c3] at H
    have c3b0:=decide_eq_false c3
    clear c3
    simp only [Option.some.injEq,Prod.mk.injEq] at H
    obtain ⟨rfl,rfl⟩:=H
    obtain ⟨Ao9,co9,eo9,_⟩:=Kd.Q_slice HO_0.out
    subst eo9
    go_wp2
    go_ret
    exact ⟨zq10,by (with_reducible repeat (first|apply Kd.Q_alloc|apply Kd.Q_drewN|apply Kd.Q_drew));exact HO_0.out,by repeat (first|(with_reducible first|exact HB.out|apply zg|apply zd|apply zk)|exact HB.out),by repeat (first|(with_reducible first|exact HK.out|apply Kept.alloc|apply Kept.drewN|apply Kept.drew)|exact HK.out)⟩
def kDisk:Kd ((List ByteArray)×(List S135)):=Own.apair (Own.srow 9 Kd.string) (Own.srow 135 k135)
theorem zna {w:World} {l0:List ByteArray} {l1:List S135} {cs:List Value} (h:kDisk.K w (l0,l1) cs):∃A0 c0 A1 c1,cs=[.slice A0 l0.length c0,.slice A1 l1.length c1]∧l0.length≤c0∧Kd.C Kd.string w A0 l0.length l0∧l1.length≤c1∧Kd.C k135 w A1 l1.length l1:=by
 obtain ⟨y0,_,rfl,⟨A0,c0,rfl,m0,r0⟩,⟨A1,c1,rfl,m1,r1⟩⟩:=h
 exact ⟨A0,c0,A1,c1,rfl,m0,r0,m1,r1⟩
theorem kDisk_openM {w:World} {base:Nat} {ok:Nat→Prop} {l0:List ByteArray} {l1:List S135} {cs:List Value} (h:kDisk.M w base ok (l0,l1) cs):∃v0 v1,∃P0 P1:Nat→Prop,cs=[v0,v1]∧Kd.R Kd.string 9 w base P0 v0 l0∧Kd.R k135 135 w base P1 v1 l1∧(∀k,P0 k→ok k)∧(∀k,P1 k→ok k)∧(∀k,P0 k→¬P1 k):=by
 obtain ⟨c0,d0,P0,B0,rfl,h0,h,a0,b0,x0⟩:=Own.apair_open h
 have h1:=h
 obtain ⟨v0,e0,h0⟩:=h0
 subst e0
 obtain ⟨v1,e1,h1⟩:=h1
 subst e1
 exact ⟨v0,v1,P0,B0,rfl,Kd.S_R h0,Kd.S_R h1,fun k h2=>a0 k h2,fun k h2=>b0 k (h2),fun k h1 h2=>x0 k h1 (h2)⟩
theorem kDisk_mkM {w:World} {base:Nat} {ok:Nat→Prop} {l0:List ByteArray} {l1:List S135} {v0:Value} {P0:Nat→Prop} {v1:Value} {P1:Nat→Prop} (r0:Kd.R Kd.string 9 w base P0 v0 l0) (r1:Kd.R k135 135 w base P1 v1 l1) (o0:∀k,P0 k→ok k) (o1:∀k,P1 k→ok k) (x0_1:∀k,P0 k→¬P1 k):kDisk.M w base ok (l0,l1) [v0,v1]:=by
 have t1:=(show (Own.srow 135 k135).M w base P1 l1 [v1] from ((Own.srow 135 k135).M_mono (fun k hk=>(r1.1 k hk.symm)) (Own.srow_of_R rfl r1)))
 have t0:=Own.apair_mk (ok:=ok) (okA:=fun k=>P0 k) (okB:=fun k=>P1 k) (show (Own.srow 9 Kd.string).M w base P0 l0 [v0] from ((Own.srow 9 Kd.string).M_mono (fun k hk=>(r0.1 k hk.symm)) (Own.srow_of_R rfl r0))) t1 (fun k h=>o0 k h) (fun k h=>o1 k h) (fun k h1 h2=>x0_1 k h1 h2)
 exact t0
def kDiskL:Kd ((List ByteArray)×(List S140)):=Own.apair (Own.srow 9 Kd.string) (Own.srow 140 k140)
theorem kDiskL_open {w:World} {l0:List ByteArray} {l1:List S140} {cs:List Value} (h:kDiskL.K w (l0,l1) cs):∃A0 c0 A1 c1,cs=[.slice A0 l0.length c0,.slice A1 l1.length c1]∧l0.length≤c0∧Kd.C Kd.string w A0 l0.length l0∧l1.length≤c1∧Kd.C k140 w A1 l1.length l1:=by
 obtain ⟨y0,_,rfl,⟨A0,c0,rfl,m0,r0⟩,⟨A1,c1,rfl,m1,r1⟩⟩:=h
 exact ⟨A0,c0,A1,c1,rfl,m0,r0,m1,r1⟩
def kWork:Kd ((List ByteArray)×(List S135)×Int×(List Int)×(List Int)×(List Int)):=Own.apair (Own.srow 9 Kd.string) (Own.apair (Own.srow 135 k135) (Own.apair (Kd.int .i64) (Own.apair (Own.arow 3 (Kd.int .i64)) (Own.apair (Own.arow 3 (Kd.int .i64)) (Own.arow 3 (Kd.int .i64))))))
theorem zUa {w:World} {l0:List ByteArray} {l1:List S135} {l2:Int} {l3:List Int} {l4:List Int} {l5:List Int} {cs:List Value} (h:kWork.K w (l0,l1,l2,l3,l4,l5) cs):∃A0 c0 A1 c1 A3 c3 A4 c4 A5 c5,cs=[.slice A0 l0.length c0,.slice A1 l1.length c1,.int .i64 l2,.slice A3 l3.length c3,.slice A4 l4.length c4,.slice A5 l5.length c5]∧l0.length≤c0∧Kd.C Kd.string w A0 l0.length l0∧l1.length≤c1∧Kd.C k135 w A1 l1.length l1∧l3.length≤c3∧Kd.C (Kd.int .i64) w A3 l3.length l3∧l4.length≤c4∧Kd.C (Kd.int .i64) w A4 l4.length l4∧l5.length≤c5∧Kd.C (Kd.int .i64) w A5 l5.length l5:=by
 obtain ⟨y0,_,rfl,⟨A0,c0,rfl,m0,r0⟩,⟨y1,_,rfl,⟨A1,c1,rfl,m1,r1⟩,⟨y2,_,rfl,e2,⟨y3,_,rfl,⟨A3,c3,rfl,m3,r3⟩,⟨y4,_,rfl,⟨A4,c4,rfl,m4,r4⟩,⟨A5,c5,rfl,m5,r5⟩⟩⟩⟩⟩⟩:=h
 obtain rfl:y2=[.int .i64 l2]:=e2
 exact ⟨A0,c0,A1,c1,A3,c3,A4,c4,A5,c5,rfl,m0,r0,m1,r1,m3,r3,m4,r4,m5,r5⟩
theorem kWork_openM {w:World} {base:Nat} {ok:Nat→Prop} {l0:List ByteArray} {l1:List S135} {l2:Int} {l3:List Int} {l4:List Int} {l5:List Int} {cs:List Value} (h:kWork.M w base ok (l0,l1,l2,l3,l4,l5) cs):∃v0 v1 v3 v4 v5,∃P0 P1 P3 P4 P5:Nat→Prop,cs=[v0,v1,.int .i64 l2,v3,v4,v5]∧Kd.R Kd.string 9 w base P0 v0 l0∧Kd.R k135 135 w base P1 v1 l1∧Kd.Q (Kd.int .i64) 3 w base P3 v3 l3∧Kd.Q (Kd.int .i64) 3 w base P4 v4 l4∧Kd.Q (Kd.int .i64) 3 w base P5 v5 l5∧(∀k,P0 k→ok k)∧(∀k,P1 k→ok k)∧(∀k,P3 k→ok k)∧(∀k,P4 k→ok k)∧(∀k,P5 k→ok k)∧(∀k,P0 k→¬P1 k)∧(∀k,P0 k→¬P3 k)∧(∀k,P0 k→¬P4 k)∧(∀k,P0 k→¬P5 k)∧(∀k,P1 k→¬P3 k)∧(∀k,P1 k→¬P4 k)∧(∀k,P1 k→¬P5 k)∧(∀k,P3 k→¬P4 k)∧(∀k,P3 k→¬P5 k)∧(∀k,P4 k→¬P5 k):=by
 obtain ⟨c0,d0,P0,B0,rfl,h0,h,a0,b0,x0⟩:=Own.apair_open h
 obtain ⟨c1,d1,P1,B1,rfl,h1,h,a1,b1,x1⟩:=Own.apair_open h
 obtain ⟨c2,d2,P2,B2,rfl,h2,h,a2,b2,x2⟩:=Own.apair_open h
 obtain ⟨c3,d3,P3,B3,rfl,h3,h,a3,b3,x3⟩:=Own.apair_open h
 obtain ⟨c4,d4,P4,B4,rfl,h4,h,a4,b4,x4⟩:=Own.apair_open h
 have h5:=h
 obtain ⟨v0,e0,h0⟩:=h0
 subst e0
 obtain ⟨v1,e1,h1⟩:=h1
 subst e1
 obtain rfl:c2=[.int .i64 l2]:=h2
 obtain ⟨v3,f3,e3,h3⟩:=h3
 subst e3
 obtain ⟨v4,f4,e4,h4⟩:=h4
 subst e4
 obtain ⟨v5,f5,e5,h5⟩:=h5
 subst e5
 exact ⟨v0,v1,v3,v4,v5,P0,P1,P3,P4,B4,rfl,Kd.S_R h0,Kd.S_R h1,Own.tagQ h3,Own.tagQ h4,Own.tagQ h5,fun k h2=>a0 k h2,fun k h2=>b0 k (a1 k h2),fun k h2=>b0 k (b1 k (b2 k (a3 k h2))),fun k h2=>b0 k (b1 k (b2 k (b3 k (a4 k h2)))),fun k h2=>b0 k (b1 k (b2 k (b3 k (b4 k (h2))))),fun k h1 h2=>x0 k h1 (a1 k h2),fun k h1 h2=>x0 k h1 (b1 k (b2 k (a3 k h2))),fun k h1 h2=>x0 k h1 (b1 k (b2 k (b3 k (a4 k h2)))),fun k h1 h2=>x0 k h1 (b1 k (b2 k (b3 k (b4 k (h2))))),fun k h1 h2=>x1 k h1 (b2 k (a3 k h2)),fun k h1 h2=>x1 k h1 (b2 k (b3 k (a4 k h2))),fun k h1 h2=>x1 k h1 (b2 k (b3 k (b4 k (h2)))),fun k h1 h2=>x3 k h1 (a4 k h2),fun k h1 h2=>x3 k h1 (b4 k (h2)),fun k h1 h2=>x4 k h1 (h2)⟩
theorem kWork_mkM {w:World} {base:Nat} {ok:Nat→Prop} {l0:List ByteArray} {l1:List S135} {l2:Int} {l3:List Int} {l4:List Int} {l5:List Int} {v0:Value} {P0:Nat→Prop} {v1:Value} {P1:Nat→Prop} {v3:Value} {P3:Nat→Prop} {v4:Value} {P4:Nat→Prop} {v5:Value} {P5:Nat→Prop} (r0:Kd.R Kd.string 9 w base P0 v0 l0) (r1:Kd.R k135 135 w base P1 v1 l1) (r3:Kd.Q (Kd.int .i64) 3 w base P3 v3 l3) (r4:Kd.Q (Kd.int .i64) 3 w base P4 v4 l4) (r5:Kd.Q (Kd.int .i64) 3 w base P5 v5 l5) (o0:∀k,P0 k→ok k) (o1:∀k,P1 k→ok k) (o3:∀k,P3 k→ok k) (o4:∀k,P4 k→ok k) (o5:∀k,P5 k→ok k) (x0_1:∀k,P0 k→¬P1 k) (x0_3:∀k,P0 k→¬P3 k) (x0_4:∀k,P0 k→¬P4 k) (x0_5:∀k,P0 k→¬P5 k) (x1_3:∀k,P1 k→¬P3 k) (x1_4:∀k,P1 k→¬P4 k) (x1_5:∀k,P1 k→¬P5 k) (x3_4:∀k,P3 k→¬P4 k) (x3_5:∀k,P3 k→¬P5 k) (x4_5:∀k,P4 k→¬P5 k):kWork.M w base ok (l0,l1,l2,l3,l4,l5) [v0,v1,.int .i64 l2,v3,v4,v5]:=by
 have t5:=(show (Own.arow 3 (Kd.int .i64)).M w base P5 l5 [v5] from Own.arow_of_Q rfl r5)
 have t4:=Own.apair_mk (ok:=fun k=>P4 k∨P5 k) (okA:=fun k=>P4 k) (okB:=fun k=>P5 k) (show (Own.arow 3 (Kd.int .i64)).M w base P4 l4 [v4] from Own.arow_of_Q rfl r4) t5 (fun k h=> .inl h) (fun k h=> .inr h) (fun k h1 h2=>x4_5 k h1 h2)
 have t3:=Own.apair_mk (ok:=fun k=>P3 k∨P4 k∨P5 k) (okA:=fun k=>P3 k) (okB:=fun k=>P4 k∨P5 k) (show (Own.arow 3 (Kd.int .i64)).M w base P3 l3 [v3] from Own.arow_of_Q rfl r3) t4 (fun k h=> .inl h) (fun k h=> .inr h) (fun k h1 h=>by
  rcases h with h|h
  ·exact x3_4 k h1 h
  ·exact x3_5 k h1 h)
 have t2:=Own.apair_mk (ok:=fun k=>P3 k∨P4 k∨P5 k) (okA:=fun _=>False) (okB:=fun k=>P3 k∨P4 k∨P5 k) (show (Kd.int .i64).M w base (fun _=>False) l2 [.int .i64 l2] from rfl) t3 (fun k h=>h.elim) (fun k h=>h) (fun k h1 _=>h1.elim)
 have t1:=Own.apair_mk (ok:=fun k=>P1 k∨P3 k∨P4 k∨P5 k) (okA:=fun k=>P1 k) (okB:=fun k=>P3 k∨P4 k∨P5 k) (show (Own.srow 135 k135).M w base P1 l1 [v1] from ((Own.srow 135 k135).M_mono (fun k hk=>(r1.1 k hk.symm)) (Own.srow_of_R rfl r1))) t2 (fun k h=> .inl h) (fun k h=> .inr h) (fun k h1 h=>by
  rcases h with h|h|h
  ·exact x1_3 k h1 h
  ·exact x1_4 k h1 h
  ·exact x1_5 k h1 h)
 have t0:=Own.apair_mk (ok:=ok) (okA:=fun k=>P0 k) (okB:=fun k=>P1 k∨P3 k∨P4 k∨P5 k) (show (Own.srow 9 Kd.string).M w base P0 l0 [v0] from ((Own.srow 9 Kd.string).M_mono (fun k hk=>(r0.1 k hk.symm)) (Own.srow_of_R rfl r0))) t1 (fun k h=>o0 k h) (fun k h=>by
  rcases h with h|h|h|h
  ·exact o1 k h
  ·exact o3 k h
  ·exact o4 k h
  ·exact o5 k h) (fun k h1 h=>by
  rcases h with h|h|h|h
  ·exact x0_1 k h1 h
  ·exact x0_3 k h1 h
  ·exact x0_4 k h1 h
  ·exact x0_5 k h1 h)
 exact t0
def kWorkL:Kd ((List ByteArray)×(List S140)×Int×(List Int)×(List Int)×(List Int)):=Own.apair (Own.srow 9 Kd.string) (Own.apair (Own.srow 140 k140) (Own.apair (Kd.int .i64) (Own.apair (Own.arow 3 (Kd.int .i64)) (Own.apair (Own.arow 3 (Kd.int .i64)) (Own.arow 3 (Kd.int .i64))))))
theorem kWorkL_open {w:World} {l0:List ByteArray} {l1:List S140} {l2:Int} {l3:List Int} {l4:List Int} {l5:List Int} {cs:List Value} (h:kWorkL.K w (l0,l1,l2,l3,l4,l5) cs):∃A0 c0 A1 c1 A3 c3 A4 c4 A5 c5,cs=[.slice A0 l0.length c0,.slice A1 l1.length c1,.int .i64 l2,.slice A3 l3.length c3,.slice A4 l4.length c4,.slice A5 l5.length c5]∧l0.length≤c0∧Kd.C Kd.string w A0 l0.length l0∧l1.length≤c1∧Kd.C k140 w A1 l1.length l1∧l3.length≤c3∧Kd.C (Kd.int .i64) w A3 l3.length l3∧l4.length≤c4∧Kd.C (Kd.int .i64) w A4 l4.length l4∧l5.length≤c5∧Kd.C (Kd.int .i64) w A5 l5.length l5:=by
 obtain ⟨y0,_,rfl,⟨A0,c0,rfl,m0,r0⟩,⟨y1,_,rfl,⟨A1,c1,rfl,m1,r1⟩,⟨y2,_,rfl,e2,⟨y3,_,rfl,⟨A3,c3,rfl,m3,r3⟩,⟨y4,_,rfl,⟨A4,c4,rfl,m4,r4⟩,⟨A5,c5,rfl,m5,r5⟩⟩⟩⟩⟩⟩:=h
 obtain rfl:y2=[.int .i64 l2]:=e2
 exact ⟨A0,c0,A1,c1,A3,c3,A4,c4,A5,c5,rfl,m0,r0,m1,r1,m3,r3,m4,r4,m5,r5⟩
theorem kWorkL_mk {w:World} {l0:List ByteArray} {l1:List S140} {l2:Int} {l3:List Int} {l4:List Int} {l5:List Int} {A0:Option Addr} {c0:Nat} {A1:Option Addr} {c1:Nat} {A3:Option Addr} {c3:Nat} {A4:Option Addr} {c4:Nat} {A5:Option Addr} {c5:Nat} (m0:l0.length≤c0) (r0:Kd.C Kd.string w A0 l0.length l0) (m1:l1.length≤c1) (r1:Kd.C k140 w A1 l1.length l1) (m3:l3.length≤c3) (r3:Kd.C (Kd.int .i64) w A3 l3.length l3) (m4:l4.length≤c4) (r4:Kd.C (Kd.int .i64) w A4 l4.length l4) (m5:l5.length≤c5) (r5:Kd.C (Kd.int .i64) w A5 l5.length l5):kWorkL.K w (l0,l1,l2,l3,l4,l5) [.slice A0 l0.length c0,.slice A1 l1.length c1,.int .i64 l2,.slice A3 l3.length c3,.slice A4 l4.length c4,.slice A5 l5.length c5]:=⟨[_],[_,_,_,_,_],rfl,⟨A0,c0,rfl,m0,r0⟩,⟨[_],[_,_,_,_],rfl,⟨A1,c1,rfl,m1,r1⟩,⟨[_],[_,_,_],rfl,rfl,⟨[_],[_,_],rfl,⟨A3,c3,rfl,m3,r3⟩,⟨[_],[_],rfl,⟨A4,c4,rfl,m4,r4⟩,⟨A5,c5,rfl,m5,r5⟩⟩⟩⟩⟩⟩
theorem markWork_o (k:Nat) (l0:List ByteArray) (l1:List S135) (l2:Int) (l3:List Int) (l4:List Int) (l5:List Int) (q0:List ByteArray) (q1:List S135) (q3:List Int) (q4:List Int) (q5:List Int) (a t1 t2 t3 r:Int) (ok:Nat→Prop) {cs:List Value} (w0 w:World) (hB:Below w0.heap.size w0 w) (hk:∀k,ok k→k<w.heap.size) (h:kWork.M w w0.heap.size ok (l0,l1,l2,l3,l4,l5) cs)
  (f1:laws_markDisk.f k l0 l1 a=some (t1,q0,q1)) (f2:laws_markIntS.f k l3 t1=some (t2,q3)) (f3:laws_markIntS.f k l4 t2=some (t3,q4)) (f4:laws_markIntS.f k l5 t3=some (r,q5)):
  Calls Try.prog 14 #[.agg cs.toArray,.int .i64 a] w fun e w'=>e= .returned (.int .i64 r)∧kWork.M w' w0.heap.size ok (q0,q1,l2,q3,q4,q5) cs∧Below w0.heap.size w0 w'∧Kept w w' ok:=by
 obtain ⟨v0,v1,v3,v4,v5,P0,P1,P3,P4,P5,rfl,R0,R1,R3,R4,R5,o0,o1,o3,o4,o5,x01,x03,x04,x05,x13,x14,x15,x34,x35,x45⟩:=kWork_openM h
 have bd0:∀k,P0 k→k<w.heap.size:=fun k h=>hk k (o0 k h)
 have bd1:∀k,P1 k→k<w.heap.size:=fun k h=>hk k (o1 k h)
 have bd3:∀k,P3 k→k<w.heap.size:=fun k h=>hk k (o3 k h)
 have bd4:∀k,P4 k→k<w.heap.size:=fun k h=>hk k (o4 k h)
 have bd5:∀k,P5 k→k<w.heap.size:=fun k h=>hk k (o5 k h)
 clear h
 obtain ⟨A0,c0,rfl⟩:=Kd.R_slice R0
 obtain ⟨A1,c1,rfl⟩:=Kd.R_slice R1
 obtain ⟨A3,c3,rfl,_⟩:=Kd.Q_slice R3
 obtain ⟨A4,c4,rfl,_⟩:=Kd.Q_slice R4
 obtain ⟨A5,c5,rfl,_⟩:=Kd.Q_slice R5
 have e0:=R0.1
 have e1:=R1.1
 have e3:=R3.1
 have e4:=R4.1
 have e5:=R5.1
 have K1:=zz f1
 have K2:=zz f2
 have K3:=zz f3
 have K4:=zz f4
 clear f1 f2 f3 f4
 replace R0:=zz (Kd.R_alloc R0 (.cells #[.slice A0 l0.length c0,.slice A1 l1.length c1,.int .i64 l2,.slice A3 l3.length c3,.slice A4 l4.length c4,.slice A5 l5.length c5] 34))
 replace R1:=zz (Kd.R_alloc R1 (.cells #[.slice A0 l0.length c0,.slice A1 l1.length c1,.int .i64 l2,.slice A3 l3.length c3,.slice A4 l4.length c4,.slice A5 l5.length c5] 34))
 replace R3:=zz (Kd.Q_alloc R3 (.cells #[.slice A0 l0.length c0,.slice A1 l1.length c1,.int .i64 l2,.slice A3 l3.length c3,.slice A4 l4.length c4,.slice A5 l5.length c5] 34))
 replace R4:=zz (Kd.Q_alloc R4 (.cells #[.slice A0 l0.length c0,.slice A1 l1.length c1,.int .i64 l2,.slice A3 l3.length c3,.slice A4 l4.length c4,.slice A5 l5.length c5] 34))
 replace R5:=zz (Kd.Q_alloc R5 (.cells #[.slice A0 l0.length c0,.slice A1 l1.length c1,.int .i64 l2,.slice A3 l3.length c3,.slice A4 l4.length c4,.slice A5 l5.length c5] 34))
 have HB:=zz (Own.below_more hB (.cells #[.slice A0 l0.length c0,.slice A1 l1.length c1,.int .i64 l2,.slice A3 l3.length c3,.slice A4 l4.length c4,.slice A5 l5.length c5] 34))
 have BX:=zz (zta w (.cells #[.slice A0 l0.length c0,.slice A1 l1.length c1,.int .i64 l2,.slice A3 l3.length c3,.slice A4 l4.length c4,.slice A5 l5.length c5] 34))
 have HK:=zz (Kept.alloc (Kept.refl w ok) (.cells #[.slice A0 l0.length c0,.slice A1 l1.length c1,.int .i64 l2,.slice A3 l3.length c3,.slice A4 l4.length c4,.slice A5 l5.length c5] 34))
 have L0:=zz hB.size
 clear hB
 have O0:=zz o0
 have O1:=zz o1
 have O3:=zz o3
 have O4:=zz o4
 have O5:=zz o5
 have X01:=zz x01
 have X03:=zz x03
 have X04:=zz x04
 have X05:=zz x05
 have X13:=zz x13
 have X14:=zz x14
 have X15:=zz x15
 have X34:=zz x34
 have X35:=zz x35
 have X45:=zz x45
 clear o0 o1 o3 o4 o5 x01 x03 x04 x05 x13 x14 x15 x34 x35 x45
 have bx:∀k,P0 k∨P1 k∨P3 k∨P4 k∨P5 k→k<(w.alloc (.cells #[.slice A0 l0.length c0,.slice A1 l1.length c1,.int .i64 l2,.slice A3 l3.length c3,.slice A4 l4.length c4,.slice A5 l5.length c5] 34)).heap.size→True:=fun _ _ _=>trivial
 clear bx
 have nb0:¬P0 w.heap.size:=fun h=>Nat.lt_irrefl _ (bd0 _ h)
 have nb1:¬P1 w.heap.size:=fun h=>Nat.lt_irrefl _ (bd1 _ h)
 have nb3:¬P3 w.heap.size:=fun h=>Nat.lt_irrefl _ (bd3 _ h)
 have nb4:¬P4 w.heap.size:=fun h=>Nat.lt_irrefl _ (bd4 _ h)
 have nb5:¬P5 w.heap.size:=fun h=>Nat.lt_irrefl _ (bd5 _ h)
 go_enter Try.func14,Try.ntmps14
 have hx0:(w.alloc (.cells #[.slice A0 l0.length c0,.slice A1 l1.length c1,.int .i64 l2,.slice A3 l3.length c3,.slice A4 l4.length c4,.slice A5 l5.length c5] 34)).cell? ⟨w.heap.size,0,none⟩=some (.slice A0 l0.length c0):=(zb BX.out 0).trans rfl
 have hx1:(w.alloc (.cells #[.slice A0 l0.length c0,.slice A1 l1.length c1,.int .i64 l2,.slice A3 l3.length c3,.slice A4 l4.length c4,.slice A5 l5.length c5] 34)).cell? ⟨w.heap.size,1,none⟩=some (.slice A1 l1.length c1):=(zb BX.out 1).trans rfl
 go_wp2_with fail
 clear hx0 hx1
 ((with_reducible refine (laws_markDisk.calls k P0 _ l0 P1 _ l1 a t1 q0 q1 w0 _ HB.out R0.out R1.out K1.out).mono ?_);rintro e w1 ⟨rfl,G0,G1,hB1,hK1⟩)
 clear HB R0 R1
 have HB:=zz hB1
 have hK2:=zz hK1
 have R0:=zz G0
 have R1:=zz G1
 replace R3:=zz (Kd.Q_kept R3.out hK1 (fun k hk h=>h.elim (fun h=>X03.out k h hk) (fun h=>X13.out k h hk)))
 replace R4:=zz (Kd.Q_kept R4.out hK1 (fun k hk h=>h.elim (fun h=>X04.out k h hk) (fun h=>X14.out k h hk)))
 replace R5:=zz (Kd.Q_kept R5.out hK1 (fun k hk h=>h.elim (fun h=>X05.out k h hk) (fun h=>X15.out k h hk)))
 replace BX:=zz (zBa BX.out hK1 (fun h=>h.elim (fun h=>nb0 h) (fun h=>nb1 h)))
 replace HK:=zz (HK.out.then_ hK1 (fun k h=> .inl (h.elim (O0.out k) (O1.out k))))
 clear G0 G1 hB1 hK1 hK2
 have hx:w1.cell? ⟨w.heap.size,3,none⟩=some (.slice A3 l3.length c3):=(zb BX.out 3).trans rfl
 go_wp2_with fail
 clear hx
 ((with_reducible refine (markIntS_Q k P3 _ l3 t1 t2 q3 w0 _ HB.out R3.out K2.out).mono ?_);rintro e w2 ⟨rfl,G3,hB1,hK1⟩)
 clear HB R3
 have HB:=zz hB1
 have R3:=zz G3
 replace R0:=zz (Kd.R_kept (Kd.R_mono (Own.R_tight2 rfl R0.out e0) (fun k hk=>hk)) hK1 (fun k hk=>fun h=>X03.out k hk h))
 replace R1:=zz (Kd.R_kept (Kd.R_mono (Own.R_tight2 rfl R1.out e1) (fun k hk=>hk)) hK1 (fun k hk=>fun h=>X13.out k hk h))
 replace R4:=zz (Kd.Q_kept R4.out hK1 (fun k hk=>fun h=>X34.out k h hk))
 replace R5:=zz (Kd.Q_kept R5.out hK1 (fun k hk=>fun h=>X35.out k h hk))
 replace BX:=zz (zBa BX.out hK1 nb3)
 replace HK:=zz (HK.out.then_ hK1 (fun k h=> .inl (O3.out k h)))
 clear G3 hB1 hK1
 have hx:w2.cell? ⟨w.heap.size,4,none⟩=some (.slice A4 l4.length c4):=(zb BX.out 4).trans rfl
 go_wp2_with fail
 clear hx
 ((with_reducible refine (markIntS_Q k P4 _ l4 t2 t3 q4 w0 _ HB.out R4.out K3.out).mono ?_);rintro e w3 ⟨rfl,G4,hB1,hK1⟩)
 clear HB R4
 have HB:=zz hB1
 have R4:=zz G4
 replace R0:=zz (Kd.R_kept (Kd.R_mono (Own.R_tight2 rfl R0.out e0) (fun k hk=>hk)) hK1 (fun k hk=>fun h=>X04.out k hk h))
 replace R1:=zz (Kd.R_kept (Kd.R_mono (Own.R_tight2 rfl R1.out e1) (fun k hk=>hk)) hK1 (fun k hk=>fun h=>X14.out k hk h))
 replace R3:=zz (Kd.Q_kept (Own.Q_tight2 rfl R3.out e3) hK1 (fun k hk=>fun h=>X34.out k hk h))
 replace R5:=zz (Kd.Q_kept R5.out hK1 (fun k hk=>fun h=>X45.out k h hk))
 replace BX:=zz (zBa BX.out hK1 nb4)
 replace HK:=zz (HK.out.then_ hK1 (fun k h=> .inl (O4.out k h)))
 clear G4 hB1 hK1
 have hx:w3.cell? ⟨w.heap.size,5,none⟩=some (.slice A5 l5.length c5):=(zb BX.out 5).trans rfl
 go_wp2_with fail
 clear hx
 ((with_reducible refine (markIntS_Q k P5 _ l5 t3 r q5 w0 _ HB.out R5.out K4.out).mono ?_);rintro e w4 ⟨rfl,G5,hB1,hK1⟩)
 clear HB R5
 have HB:=zz hB1
 have R5:=zz G5
 replace R0:=zz (Kd.R_kept (Kd.R_mono (Own.R_tight2 rfl R0.out e0) (fun k hk=>hk)) hK1 (fun k hk=>fun h=>X05.out k hk h))
 replace R1:=zz (Kd.R_kept (Kd.R_mono (Own.R_tight2 rfl R1.out e1) (fun k hk=>hk)) hK1 (fun k hk=>fun h=>X15.out k hk h))
 replace R3:=zz (Kd.Q_kept (Own.Q_tight2 rfl R3.out e3) hK1 (fun k hk=>fun h=>X35.out k hk h))
 replace R4:=zz (Kd.Q_kept (Own.Q_tight2 rfl R4.out e4) hK1 (fun k hk=>fun h=>X45.out k hk h))
 replace BX:=zz (zBa BX.out hK1 nb5)
 replace HK:=zz (HK.out.then_ hK1 (fun k h=> .inl (O5.out k h)))
 clear G5 hB1 hK1
 go_wp2
 go_ret
 refine ⟨rfl,?_,HB.out,HK.out⟩
 exact kWork_mkM (Own.R_tight2 rfl R0.out e0) (Own.R_tight2 rfl R1.out e1) (Own.Q_tight2 rfl R3.out e3) (Own.Q_tight2 rfl R4.out e4) (Own.Q_tight2 rfl R5.out e5) O0.out O1.out O3.out O4.out O5.out X01.out X03.out X04.out X05.out X13.out X14.out X15.out X34.out X35.out X45.out
section
variable {W:World} {g t o:Nat} {cs pre mid post new:List Value}
theorem part_at (h:W.heap[g]?=some (.cells cs.toArray t (0,0))) (e:cs=pre++(mid++post)) (ho:pre.length=o):W.rangeAt g o mid:=by
 subst e;subst ho
 intro j v hv
 have hj:=(List.getElem?_eq_some_iff.1 hv).1
 have:(pre++(mid++post))[pre.length+j]?=some v:=by
  rw [List.getElem?_append_right (Nat.le_add_right _ _),Nat.add_sub_cancel_left,List.getElem?_append_left hj]
  exact hv
 simp [World.cell?,h,this]
theorem part_cell {v:Value} (h:W.heap[g]?=some (.cells cs.toArray t (0,0))) (e:cs=pre++([v]++post)) (ho:pre.length=o):W.cell? ⟨g,o,none⟩=some v:=by
 have:=part_at h e ho 0 v rfl
 simpa using this
theorem part_there (h:W.heap[g]?=some (.cells cs.toArray t (0,0))) (e:cs=pre++(mid++post)) (ho:pre.length=o):W.there g o mid.length:=by
 intro j hj
 refine ⟨?_,za h _⟩
 rw [part_at h e ho j _ (List.getElem?_eq_getElem hj)]
 rfl
theorem part_set:∀(new mid pre post:List Value) (W:World),new.length=mid.length→W.heap[g]?=some (.cells (pre++(mid++post)).toArray t (0,0))→(W.setCells g pre.length new).heap[g]?=some (.cells (pre++(new++post)).toArray t (0,0))
 |[],[],pre,post,W,_,h=>h
 |[],m::ms,pre,post,W,hl,h=>by simp at hl
 |n::ns,[],pre,post,W,hl,h=>by simp at hl
 |n::ns,m::ms,pre,post,W,hl,h=>by
  have h1:(W.setCell ⟨g,pre.length,none⟩ n).heap[g]?=some (.cells ((pre++[n])++(ms++post)).toArray t (0,0)):=
   zr (cs':=((pre++[n])++(ms++post)).toArray) h pre.length n zq52
  have ih:=part_set ns ms (pre++[n]) post _ (by simpa using hl) h1
  show ((W.setCell ⟨g,pre.length,none⟩ n).setCells g (pre.length+1) ns).heap[g]?=_
  rw [List.length_append,List.length_singleton] at ih
  rw [ih]
  simp
theorem setCells_below {w:World} (hg:w.heap.size≤g):∀(vs:List Value) (W:World) (i:Nat),Below w.heap.size w W→Below w.heap.size w (W.setCells g i vs)
 |[],W,i,h=>h
 |u::vs,W,i,h=>setCells_below hg vs _ _ (zn h hg)
theorem setCells_kept:∀(vs:List Value) (W:World) (i:Nat),Kept W (W.setCells g i vs) (fun k=>k=g)
 |[],W,i=>Kept.refl W _
 |u::vs,W,i=>(Kept.setCell (Kept.refl W (fun k=>k=g)) (p:=⟨g,i,none⟩) (.inl rfl) u).then_ (setCells_kept vs _ _) (fun k h=> .inl h)
end
structure Put1 (W W':World) (g:Nat):Prop where
 kept:Kept W W' (fun k=>k=g)
 below:∀w:World,w.heap.size≤g→Below w.heap.size w W→Below w.heap.size w W'
 size:W'.heap.size=W.heap.size
theorem setCells_size {g:Nat}:∀(vs:List Value) (W:World) (i:Nat),(W.setCells g i vs).heap.size=W.heap.size
 |[],W,i=>rfl
 |u::vs,W,i=>(setCells_size vs _ _).trans (by simp [World.setCell])
theorem Put1.cells {W:World} {g:Nat} (i:Nat) (vs:List Value):Put1 W (W.setCells g i vs) g:=⟨setCells_kept vs W i,fun w hg h=>setCells_below hg vs W i h,setCells_size vs W i⟩
section
variable {P:Program} {ops:Array Oper} {rest:List Oper} {o:Oper} {a:Act} {Q:Exit→Act→World→Prop} {W:World}
theorem run_loadpart (ty:TypeId) (x:Operand) (ho:o.op= .load ty x) (g off:Nat) (pre mid post:List Value) {cs:List Value} {t:TypeId} (d:TypeDesc) (hx:a.eval x= .pointer (some ⟨g,off,none⟩)) (hg:W.heap[g]?=some (.cells cs.toArray t (0,0))) (e:cs=pre++(mid++post)) (hp:pre.length=off)
  (hu:P.underlying ty=some d) (hd:d.isRow=true) (hi:(P.info? ty).map (·.size)=some mid.length):(execOp a.eval o).run P W= .ok (.value (.agg mid.toArray)) W:=by
 unfold execOp
 simp only [ho,hx,Instr.loadAt,Instr.sureAddr,Sem.run_bind,Sem.run_pure,Result.andThen_ok,run_loadVar_mid W g off ty mid d (part_at hg e hp) hu hd hi]
theorem zt (hgd:o.guard=none) (ty:TypeId) (x:Operand) (ho:o.op= .load ty x) (g off:Nat) (pre mid post:List Value) {cs:List Value} {t:TypeId} (d:TypeDesc) (hx:a.eval x= .pointer (some ⟨g,off,none⟩)) (hg:W.heap[g]?=some (.cells cs.toArray t (0,0))) (e:cs=pre++(mid++post)) (hp:pre.length=off)
  (hu:P.underlying ty=some d) (hd:d.isRow=true) (hi:(P.info? ty).map (·.size)=some mid.length) (h:wpList P ops Q rest (a.put o.dst (.agg mid.toArray)) W):wpList P ops Q (o::rest) a W:=
 wpList_load_mid hgd ty x ho g off hx mid d (part_at hg e hp) hu hd hi h
theorem zB (hgd:o.guard=none) (ty:TypeId) (x y:Operand) (ho:o.op= .store ty x y) (hN:o.dst=none) (g off:Nat) (new pre mid post:List Value) {cs:List Value} {t:TypeId} (hx:a.eval x= .pointer (some ⟨g,off,none⟩)) (hy:a.eval y= .agg new.toArray) (hg:W.heap[g]?=some (.cells cs.toArray t (0,0))) (e:cs=pre++(mid++post)) (hp:pre.length=off)
  (hl:new.length=mid.length) (hi:(P.info? ty).map (·.size)=some new.length) (h1:∀v∈new,v.oneCell'=true)
  (h:∀W',Put1 W W' g→W'.heap[g]?=some (.cells (pre++(new++post)).toArray t (0,0))→wpList P ops Q rest a W'):wpList P ops Q (o::rest) a W:=by
 refine wpList_store_mid hgd ty x y ho g off new.toArray hx hy (by have:=part_there hg e hp;rw [List.size_toArray,hl];exact this) (by rw [List.size_toArray];exact hi) (Array.all_eq_true_iff_forall_mem.2 (fun v hv=>h1 v (by simpa using hv))) ?_
 have hput:a.put o.dst undef=a:=by rw [hN];rfl
 rw [hput]
 refine h _ (Put1.cells off _) ?_
 subst e;subst hp
 exact part_set new mid pre post W hl hg
theorem zda (hgd:o.guard=none) (ty:TypeId) (x y:Operand) (ho:o.op= .store ty x y) (hN:o.dst=none) (g off:Nat) (v u:Value) (pre post:List Value) {cs:List Value} {t:TypeId} (hx:a.eval x= .pointer (some ⟨g,off,none⟩)) (hy:a.eval y=v) (hg:W.heap[g]?=some (.cells cs.toArray t (0,0))) (e:cs=pre++([u]++post)) (hp:pre.length=off)
  (hi:(P.info? ty).map (·.size)=some 1) (h1:v.oneCell'=true) (hc:v.cells= #[v])
  (h:∀W',Put1 W W' g→W'.heap[g]?=some (.cells (pre++([v]++post)).toArray t (0,0))→wpList P ops Q rest a W'):wpList P ops Q (o::rest) a W:=by
 refine wpList_plain hgd fun K hK=> ?_
 have hth:=part_there hg e hp
 have hrun:=run_storeCells_cells (P:=P) g off [v] 0 W (fun j hj=>(hth j hj).1) (fun j hj=>(hth j hj).2) (fun q hq=>by rw [List.mem_singleton.1 hq];exact h1)
 have hs:(storeVar ty ⟨g,off,none⟩ v).run P W= .ok () (W.setCells g off [v]):=by
  cases hq:P.info? ty with
  |none=>simp [hq] at hi
  |some i=>
   have hs:1=i.size:=by simp [hq] at hi;omega
   simp only [Nat.add_zero] at hrun
   simp [storeVar,sizeOf,typeInfo,hq,hc,←hs,hrun]
 unfold Oper.wp execOp
 simp only [ho,hx,hy,Instr.storeAt,Instr.sureAddr,Sem.run_bind,Sem.run_pure,Result.andThen_ok,hs]
 show K (a.put o.dst undef) _
 rw [hN]
 refine hK _ _ (h _ (Put1.cells off _) ?_)
 subst e;subst hp
 exact part_set [v] [u] pre post W rfl hg
end
end Go.Proofs.Ytonhdiemjgdcnaa.PFnExactGivePage
