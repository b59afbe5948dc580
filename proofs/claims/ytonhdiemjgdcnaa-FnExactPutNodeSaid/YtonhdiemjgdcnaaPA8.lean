import Derived.Test.YtonhdiemjgdcnaaPA7
import Derived.ProofKit
import Derived.OpenShut
import Derived.Deep.Slices
import Derived.ShutString
import Derived.ChangeOld
import Derived.ChangeSlices
import Derived.SizedLaws
import Derived.WalkLawsBesides
set_option maxHeartbeats 64000000
set_option maxRecDepth 100000
set_option linter.unusedVariables false
set_option linter.unusedSimpArgs false
namespace Go.Proofs.Ytonhdiemjgdcnaa.PFnExactGivePage
open Go.RowKit Go.Proofs.YtonhdiemjgdcnaaW.PrintWords Go.Proofs.YtonhdiemjgdcnaaW.PrintLast Go.Proofs.YtonhdiemjgdcnaaW.PrintMore
attribute [local go_sem] zO zP zY zX zK zJ zQ zR
def impl_WritePage.f (l0_0:List ByteArray) (l0_1:List (S135)) (a1:Int) (a2:ByteArray):Option (List ByteArray×(List (S135))×Bool):=(impl_cloneDisk.f l0_0 l0_1).bind fun bt447=>((impl_DiskOk.f l0_0 l0_1).bind fun t454=>(if t454=true then ((impl_isPage.f l0_0 l0_1 a1).bind fun t455=>(if t455=true then (if (a2.size:Int)>240 then (some (bt447.1,bt447.2,false)) else (if (l0_1.length:Int)≥200 then (some (bt447.1,bt447.2,false)) else (if bt447.2.length<5864062014805 then (some (bt447.1,(bt447.2++[(⟨a1,a2⟩:S135)]),true)) else (none)))) else (some (bt447.1,bt447.2,false)))) else (some (bt447.1,bt447.2,false))))
theorem impl_WritePage.calls (A0_0:Option Addr) (c0_0:Nat) (l0_0:List ByteArray) (A0_1:Option Addr) (c0_1:Nat) (l0_1:List (S135)) (a1:Int) (a2:ByteArray) (r1:List ByteArray) (r2:List (S135)) (r3:Bool) (w:World) (hr0_0:Kd.C Kd.string w A0_0 l0_0.length l0_0) (hc0_0:l0_0.length≤c0_0) (hr0_1:Kd.C k135 w A0_1 l0_1.length l0_1) (hc0_1:l0_1.length≤c0_1) (h:impl_WritePage.f l0_0 l0_1 a1 a2=some (r1,r2,r3)):
  Calls Try.prog 59 #[.agg #[.slice A0_0 l0_0.length c0_0,.slice A0_1 l0_1.length c0_1],.int .i64 a1,.string a2] w fun e w'=>∃v0_ v1_:Value,e= .returned (.tuple #[.agg #[v0_,v1_],.bool r3])∧Kd.R Kd.string 9 w' w.heap.size (fun _=>True) v0_ r1∧Kd.R k135 135 w' w.heap.size (fun _=>True) v1_ r2∧Below w.heap.size w w':=by
 have hu32:=Try.underlying32
 have hu135:=Try.underlying135
 have HR0_0:=zz hr0_0
 have HC0_0:=zz hc0_0
 clear hr0_0 hc0_0
 have HR0_1:=zz hr0_1
 have HC0_1:=zz hc0_1
 clear hr0_1 hc0_1
 have HB:=zz (Below.refl w.heap.size w)
 have H:((impl_cloneDisk.f l0_0 l0_1).bind fun bt447=>((impl_DiskOk.f l0_0 l0_1).bind fun t454=>(if t454=true then ((impl_isPage.f l0_0 l0_1 a1).bind fun t455=>(if t455=true then (if (a2.size:Int)>240 then (some (bt447.1,bt447.2,false)) else (if (l0_1.length:Int)≥200 then (some (bt447.1,bt447.2,false)) else (if bt447.2.length<5864062014805 then (some (bt447.1,(bt447.2++[(⟨a1,a2⟩:S135)]),true)) else (none)))) else (some (bt447.1,bt447.2,false)))) else (some (bt447.1,bt447.2,false)))))=some (r1,r2,r3):=h
 clear h
 replace H:=Option.bind_eq_some_iff.mp H
 obtain ⟨⟨t447,t450⟩,A40,H⟩:=H
 replace H:((impl_DiskOk.f l0_0 l0_1).bind fun t454=>(if t454=true then ((impl_isPage.f l0_0 l0_1 a1).bind fun t455=>(if t455=true then (if (a2.size:Int)>240 then (some (t447,t450,false)) else (if (l0_1.length:Int)≥200 then (some (t447,t450,false)) else (if t450.length<5864062014805 then (some (t447,(t450++[(⟨a1,a2⟩:S135)]),true)) else (none)))) else (some (t447,t450,false)))) else (some (t447,t450,false))))=some (r1,r2,r3):=H
 have A4:=zz A40
 clear A40
 replace H:=Option.bind_eq_some_iff.mp H
 obtain ⟨t454,A50,H⟩:=H
 replace H:(if t454=true then ((impl_isPage.f l0_0 l0_1 a1).bind fun t455=>(if t455=true then (if (a2.size:Int)>240 then (some (t447,t450,false)) else (if (l0_1.length:Int)≥200 then (some (t447,t450,false)) else (if t450.length<5864062014805 then (some (t447,(t450++[(⟨a1,a2⟩:S135)]),true)) else (none)))) else (some (t447,t450,false)))) else (some (t447,t450,false)))=some (r1,r2,r3):=H
 have A5:=zz A50
 clear A50
 by_cases c6:t454=true
 ·subst c6
  rw [if_pos rfl] at H
  replace H:=Option.bind_eq_some_iff.mp H
  obtain ⟨t455,A70,H⟩:=H
  replace H:(if t455=true then (if (a2.size:Int)>240 then (some (t447,t450,false)) else (if (l0_1.length:Int)≥200 then (some (t447,t450,false)) else (if t450.length<5864062014805 then (some (t447,(t450++[(⟨a1,a2⟩:S135)]),true)) else (none)))) else (some (t447,t450,false)))=some (r1,r2,r3):=H
  have A7:=zz A70
  clear A70
  by_cases c8:t455=true
  ·subst c8
   rw [if_pos rfl] at H
   by_cases c9:(a2.size:Int)>240
   ·rw [if_pos c9] at H
    have c9b0:decide (240<(a2.size:Int))=true:=decide_eq_true c9
    have c9b1:decide (240<a2.size)=true:=decide_eq_true zq11
    clear c9
    simp only [Option.some.injEq,Prod.mk.injEq] at H
    obtain ⟨rfl,rfl,rfl⟩:=H
    go_enter Try.func59,Try.ntmps59
    go_wp2_with (first|((with_reducible refine zm (N:=3) rfl ?_);(try (refine zA zq44 ?_;dsimp only));refine zq ?hg (N:=3) ?hd (cs:= #[.slice A0_0 l0_0.length c0_0,.slice A0_1 l0_1.length c0_1]) (t:=32) ?hr ?_;(case hd=>rfl);(case hg=>rfl);(case hr=>first|(go_simp;done)|(go_simp;rfl));intro gb445 hg w10 hbox hb;have n0_:=zz (ze zq2 hb);have n1_:=zz (hbox);have n2_:=zz ((by rw [hg];exact (zc zq2):w.heap.size≤gb445));have n3_:=zz ((by rw [hg];exact (zc zq2):w.heap.size≤gb445));clear HB;have HB:=n0_;have BK445:=n1_;have GW445:=n2_;have GE445:=n3_;clear n0_ n1_ n2_ n3_;clear hb hbox hg)|((with_reducible refine zm (N:=6) rfl ?_);(try (refine zA zq44 ?_;dsimp only));refine zq ?hg (N:=6) ?hd (cs:= #[.slice none 0 0,.slice none 0 0]) (t:=32) ?hr ?_;(case hd=>rfl);(case hg=>rfl);(case hr=>first|(go_simp;done)|(go_simp;rfl));intro gb446 hg w11 hbox hb;have n0_:=zz (zi (g:=gb445) (o:= .cells #[.slice A0_0 l0_0.length c0_0,.slice A0_1 l0_1.length c0_1] 32 (0,0)) (zq0 BK445.out) hb);have n1_:=zz (ze (zq3 GE445.out) hb);have n2_:=zz (hbox);have n3_:=zz ((by rw [hg];exact (zc (zq3 GE445.out)):w.heap.size≤gb446));have n4_:=zz ((by rw [hg];exact (zc (zq3 GE445.out)):w.heap.size≤gb446));have n5_:=zz ((by rw [hg];exact Nat.ne_of_lt (zu (g:=gb445) (o:= .cells #[.slice A0_0 l0_0.length c0_0,.slice A0_1 l0_1.length c0_1] 32 (0,0)) (zq0 BK445.out)):gb445≠gb446));have n6_:=zz ((by rw [hg];exact Nat.ne_of_gt (zu (g:=gb445) (o:= .cells #[.slice A0_0 l0_0.length c0_0,.slice A0_1 l0_1.length c0_1] 32 (0,0)) (zq0 BK445.out)):gb446≠gb445));clear BK445;clear HB;have BK445:=n0_;have HB:=n1_;have BK446:=n2_;have GW446:=n3_;have GE446:=n4_;have NB445_446:=n5_;have NB446_445:=n6_;clear n0_ n1_ n2_ n3_ n4_ n5_ n6_;clear hb hbox hg;have hnb12:=NB445_446.out;have hnc12:=NB446_445.out;have hcz13_0:w11.cell? ⟨gb445,0,none⟩=some (.slice A0_0 l0_0.length c0_0):=(zb BK445.out 0).trans rfl;have hcz13_1:w11.cell? ⟨gb445,1,none⟩=some (.slice A0_1 l0_1.length c0_1):=(zb BK445.out 1).trans rfl;have hfz13_0:=za BK445.out 0;have hfz13_1:=za BK445.out 1)|((with_reducible refine zo (f:=69) rfl ?_);refine zw (some 10) rfl rfl Try.func69 zq15 rfl #[.agg #[.slice A0_0 l0_0.length c0_0,.slice A0_1 l0_1.length c0_1]] rfl zq4 ?_;(with_reducible refine (impl_cloneDisk.calls _ _ l0_0 _ _ l0_1 t447 t450 _ ?side1 ?side2 ?side3 ?side4 A4.out).mono ?_);(case side1=>repeat (first|exact (Kd.C_below HR0_0.out HB.out)|(with_reducible refine Kd.C_alloc ?_ _)|(with_reducible refine Kd.C_drewN ?_ _)|(with_reducible refine Kd.C_drew ?_)));(case side2=>exact HC0_0.out);(case side3=>repeat (first|exact (Kd.C_below HR0_1.out HB.out)|(with_reducible refine Kd.C_alloc ?_ _)|(with_reducible refine Kd.C_drewN ?_ _)|(with_reducible refine Kd.C_drew ?_)));(case side4=>exact HC0_1.out);rintro e w14 ⟨v448,v451,rfl,ho0,ho1,hb⟩;refine ⟨_,rfl,?_⟩;(first|have rs_v448:=zp (P:=Try.prog) ho0|have rs_v448:=zp (P:=Try.prog) (Kd.S_R ho0)|skip);(first|have rs_v451:=zp (P:=Try.prog) ho1|have rs_v451:=zp (P:=Try.prog) (Kd.S_R ho1)|skip);have n0_:=zz (Kd.R_lower ho0 (zc (zq1 GE445.out GE446.out)));have n1_:=zz (Kd.R_lower ho1 (zc (zq1 GE445.out GE446.out)));have n2_:=zz (zi (g:=gb445) (o:= .cells #[.slice A0_0 l0_0.length c0_0,.slice A0_1 l0_1.length c0_1] 32 (0,0)) (zq0 BK445.out) hb);have n3_:=zz (zi (g:=gb446) (o:= .cells #[.slice none 0 0,.slice none 0 0] 32 (0,0)) (zq0 BK446.out) hb);have n4_:=zz (ze (zq1 GE445.out GE446.out) hb);clear BK445;clear BK446;clear HB;have HO449:=n0_;have HO452:=n1_;have BK445:=n2_;have BK446:=n3_;have HB:=n4_;clear n0_ n1_ n2_ n3_ n4_;(try clear hb);(try clear hb2);(try clear hk);(try clear hi);(try clear ho0);(try clear ho1))|((with_reducible refine zm (N:=8) rfl ?_);(try (refine zA zq44 ?_;dsimp only));refine zq ?hg (N:=8) ?hd (cs:= #[.slice none 0 0,.slice none 0 0]) (t:=32) ?hr ?_;(case hd=>rfl);(case hg=>rfl);(case hr=>first|(go_simp;done)|(go_simp;rfl));intro gb453 hg w15 hbox hb;have n0_:=zz (Kd.R_below (zq5 HO449.out) hb);have n1_:=zz (Kd.R_below (zq5 HO452.out) hb);have n2_:=zz (zi (g:=gb445) (o:= .cells #[.slice A0_0 l0_0.length c0_0,.slice A0_1 l0_1.length c0_1] 32 (0,0)) (zq0 BK445.out) hb);have n3_:=zz (zi (g:=gb446) (o:= .cells #[.slice none 0 0,.slice none 0 0] 32 (0,0)) (zq0 BK446.out) hb);have n4_:=zz (ze (zq1 GE445.out GE446.out) hb);have n5_:=zz (hbox);have n6_:=zz ((by rw [hg];exact (zc (zq1 GE445.out GE446.out)):w.heap.size≤gb453));have n7_:=zz ((by rw [hg];exact (zc (zq1 GE445.out GE446.out)):w.heap.size≤gb453));have n8_:=zz ((by rw [hg];exact Nat.ne_of_lt (zu (g:=gb445) (o:= .cells #[.slice A0_0 l0_0.length c0_0,.slice A0_1 l0_1.length c0_1] 32 (0,0)) (zq0 BK445.out)):gb445≠gb453));have n9_:=zz ((by rw [hg];exact Nat.ne_of_gt (zu (g:=gb445) (o:= .cells #[.slice A0_0 l0_0.length c0_0,.slice A0_1 l0_1.length c0_1] 32 (0,0)) (zq0 BK445.out)):gb453≠gb445));have n10_:=zz ((by rw [hg];exact Nat.ne_of_lt (zu (g:=gb446) (o:= .cells #[.slice none 0 0,.slice none 0 0] 32 (0,0)) (zq0 BK446.out)):gb446≠gb453));have n11_:=zz ((by rw [hg];exact Nat.ne_of_gt (zu (g:=gb446) (o:= .cells #[.slice none 0 0,.slice none 0 0] 32 (0,0)) (zq0 BK446.out)):gb453≠gb446));clear HO449;clear HO452;clear BK445;clear BK446;clear HB;have HO449:=n0_;have HO452:=n1_;have BK445:=n2_;have BK446:=n3_;have HB:=n4_;have BK453:=n5_;have GW453:=n6_;have GE453:=n7_;have NB445_453:=n8_;have NB453_445:=n9_;have NB446_453:=n10_;have NB453_446:=n11_;clear n0_ n1_ n2_ n3_ n4_ n5_ n6_ n7_ n8_ n9_ n10_ n11_;clear hb hbox hg;obtain ⟨Ao16,co16,eo16⟩:=Kd.R_slice HO449.out;subst eo16;have hnb17:=NB453_445.out;have hnc17:=NB445_453.out;have hnb18:=NB453_446.out;have hnc18:=NB446_453.out;have hcz19_0:w15.cell? ⟨gb453,0,none⟩=some (.slice none 0 0):=(zb BK453.out 0).trans rfl;have hcz19_1:w15.cell? ⟨gb453,1,none⟩=some (.slice none 0 0):=(zb BK453.out 1).trans rfl;have hfz19_0:=za BK453.out 0;have hfz19_1:=za BK453.out 1;obtain ⟨Ao20,co20,eo20⟩:=Kd.R_slice HO452.out;subst eo20;have hcz21_0:w15.cell? ⟨gb445,0,none⟩=some (.slice A0_0 l0_0.length c0_0):=(zb BK445.out 0).trans rfl;have hcz21_1:w15.cell? ⟨gb445,1,none⟩=some (.slice A0_1 l0_1.length c0_1):=(zb BK445.out 1).trans rfl;have hfz21_0:=za BK445.out 0;have hfz21_1:=za BK445.out 1)|((with_reducible refine zo (f:=68) rfl ?_);refine zw (some 12) rfl rfl Try.func68 zq15 rfl #[.agg #[.slice A0_0 l0_0.length c0_0,.slice A0_1 l0_1.length c0_1]] rfl zq4 ?_;(with_reducible refine (impl_DiskOk.calls _ _ l0_0 _ _ l0_1 true _ ?side1 ?side2 ?side3 ?side4 A5.out).mono ?_);(case side1=>exact Kd.C_below HR0_0.out (zq6 GE445.out GE446.out GE453.out));(case side2=>exact HC0_0.out);(case side3=>exact Kd.C_below HR0_1.out (zq6 GE445.out GE446.out GE453.out));(case side4=>exact HC0_1.out);rintro e w22 ⟨rfl,hb⟩;refine ⟨_,rfl,?_⟩;have n0_:=zz (Kd.R_below (zq88 HO449.out BK453.out) hb);have n1_:=zz (Kd.R_below (zq88 HO452.out BK453.out) hb);have n2_:=zz (zi (g:=gb445) (o:= .cells #[.slice A0_0 l0_0.length c0_0,.slice A0_1 l0_1.length c0_1] 32 (0,0)) (zq9 NB445_453.out BK445.out) hb);have n3_:=zz (zi (g:=gb446) (o:= .cells #[.slice none 0 0,.slice none 0 0] 32 (0,0)) (zq9 NB446_453.out BK446.out) hb);have n4_:=zz (zi (g:=gb453) (o:= .cells #[.slice Ao16 t447.length co16,.slice Ao20 t450.length co20] 32 (0,0)) (zq62 BK453.out) hb);have n5_:=zz (ze (zq6 GE445.out GE446.out GE453.out) hb);clear HO449;clear HO452;clear BK445;clear BK446;clear BK453;clear HB;have HO449:=n0_;have HO452:=n1_;have BK445:=n2_;have BK446:=n3_;have BK453:=n4_;have HB:=n5_;clear n0_ n1_ n2_ n3_ n4_ n5_;(try clear hb);(try clear hb2);(try clear hk);(try clear hi);have hcz23_0:w22.cell? ⟨gb445,0,none⟩=some (.slice A0_0 l0_0.length c0_0):=(zb BK445.out 0).trans rfl;have hcz23_1:w22.cell? ⟨gb445,1,none⟩=some (.slice A0_1 l0_1.length c0_1):=(zb BK445.out 1).trans rfl;have hfz23_0:=za BK445.out 0;have hfz23_1:=za BK445.out 1)|(go_at_call 113;(with_reducible refine (impl_isPage.calls _ _ l0_0 _ _ l0_1 a1 true _ ?side1 ?side2 ?side3 ?side4 A7.out).mono ?_);(case side1=>repeat (first|exact (Kd.C_below HR0_0.out HB.out)|(with_reducible refine Kd.C_alloc ?_ _)|(with_reducible refine Kd.C_drewN ?_ _)|(with_reducible refine Kd.C_drew ?_)));(case side2=>exact HC0_0.out);(case side3=>repeat (first|exact (Kd.C_below HR0_1.out HB.out)|(with_reducible refine Kd.C_alloc ?_ _)|(with_reducible refine Kd.C_drewN ?_ _)|(with_reducible refine Kd.C_drew ?_)));(case side4=>exact HC0_1.out);rintro e w24 ⟨rfl,hb⟩;have n0_:=zz (Kd.R_below (zq5 HO449.out) hb);have n1_:=zz (Kd.R_below (zq5 HO452.out) hb);have n2_:=zz (zi (g:=gb445) (o:= .cells #[.slice A0_0 l0_0.length c0_0,.slice A0_1 l0_1.length c0_1] 32 (0,0)) (zq0 BK445.out) hb);have n3_:=zz (zi (g:=gb446) (o:= .cells #[.slice none 0 0,.slice none 0 0] 32 (0,0)) (zq0 BK446.out) hb);have n4_:=zz (zi (g:=gb453) (o:= .cells #[.slice Ao16 t447.length co16,.slice Ao20 t450.length co20] 32 (0,0)) (zq0 BK453.out) hb);have n5_:=zz (ze (zq6 GE445.out GE446.out GE453.out) hb);clear HO449;clear HO452;clear BK445;clear BK446;clear BK453;clear HB;have HO449:=n0_;have HO452:=n1_;have BK445:=n2_;have BK446:=n3_;have BK453:=n4_;have HB:=n5_;clear n0_ n1_ n2_ n3_ n4_ n5_;(try clear hb);(try clear hb2);(try clear hk);(try clear hi);have hcz25_0:w24.cell? ⟨gb453,0,none⟩=some (.slice Ao16 t447.length co16):=(zb BK453.out 0).trans rfl;have hcz25_1:w24.cell? ⟨gb453,1,none⟩=some (.slice Ao20 t450.length co20):=(zb BK453.out 1).trans rfl;have hfz25_0:=za BK453.out 0;have hfz25_1:=za BK453.out 1;have hcz26_0:w24.cell? ⟨gb446,0,none⟩=some (.slice none 0 0):=(zb BK446.out 0).trans rfl;have hcz26_1:w24.cell? ⟨gb446,1,none⟩=some (.slice none 0 0):=(zb BK446.out 1).trans rfl;have hfz26_0:=za BK446.out 0;have hfz26_1:=za BK446.out 1))
    refine bodyPost_ret (zN rfl _ _ gb446 32 #[.slice Ao16 t447.length co16,.slice Ao20 t450.length co20] (0,0) _ rfl (zq62 BK446.out) Try.underlying32 rfl zq15) rfl ?_
    exact ⟨_,_,zq10,zq79 HO449.out BK446.out,zq79 HO452.out BK446.out,by repeat (first|(with_reducible first|exact HB.out|apply zg|apply zd|apply zk|refine zn ?_ GE445.out|refine zn ?_ GE446.out|refine zn ?_ GE453.out)|exact HB.out)⟩
   ·rw [if_neg c9] at H
    have c9b0:decide (240<(a2.size:Int))=false:=decide_eq_false c9
    have c9b1:decide (240<a2.size)=false:=decide_eq_false zq11
    clear c9
    by_cases c27:(l0_1.length:Int)≥200
    ·rw [if_pos c27] at H
     have c27b0:decide (200≤(l0_1.length:Int))=true:=decide_eq_true c27
     have c27b1:decide (200≤l0_1.length)=true:=decide_eq_true zq11
     clear c27
     simp only [Option.some.injEq,Prod.mk.injEq] at H
     obtain ⟨rfl,rfl,rfl⟩:=H
     go_enter Try.func59,Try.ntmps59
     go_wp2_with (first|((with_reducible refine zm (N:=3) rfl ?_);(try (refine zA zq44 ?_;dsimp only));refine zq ?hg (N:=3) ?hd (cs:= #[.slice A0_0 l0_0.length c0_0,.slice A0_1 l0_1.length c0_1]) (t:=32) ?hr ?_;(case hd=>rfl);(case hg=>rfl);(case hr=>first|(go_simp;done)|(go_simp;rfl));intro gb445 hg w28 hbox hb;have n0_:=zz (ze zq2 hb);have n1_:=zz (hbox);have n2_:=zz ((by rw [hg];exact (zc zq2):w.heap.size≤gb445));have n3_:=zz ((by rw [hg];exact (zc zq2):w.heap.size≤gb445));clear HB;have HB:=n0_;have BK445:=n1_;have GW445:=n2_;have GE445:=n3_;clear n0_ n1_ n2_ n3_;clear hb hbox hg)|((with_reducible refine zm (N:=6) rfl ?_);(try (refine zA zq44 ?_;dsimp only));refine zq ?hg (N:=6) ?hd (cs:= #[.slice none 0 0,.slice none 0 0]) (t:=32) ?hr ?_;(case hd=>rfl);(case hg=>rfl);(case hr=>first|(go_simp;done)|(go_simp;rfl));intro gb446 hg w29 hbox hb;have n0_:=zz (zi (g:=gb445) (o:= .cells #[.slice A0_0 l0_0.length c0_0,.slice A0_1 l0_1.length c0_1] 32 (0,0)) (zq0 BK445.out) hb);have n1_:=zz (ze (zq3 GE445.out) hb);have n2_:=zz (hbox);have n3_:=zz ((by rw [hg];exact (zc (zq3 GE445.out)):w.heap.size≤gb446));have n4_:=zz ((by rw [hg];exact (zc (zq3 GE445.out)):w.heap.size≤gb446));have n5_:=zz ((by rw [hg];exact Nat.ne_of_lt (zu (g:=gb445) (o:= .cells #[.slice A0_0 l0_0.length c0_0,.slice A0_1 l0_1.length c0_1] 32 (0,0)) (zq0 BK445.out)):gb445≠gb446));have n6_:=zz ((by rw [hg];exact Nat.ne_of_gt (zu (g:=gb445) (o:= .cells #[.slice A0_0 l0_0.length c0_0,.slice A0_1 l0_1.length c0_1] 32 (0,0)) (zq0 BK445.out)):gb446≠gb445));clear BK445;clear HB;have BK445:=n0_;have HB:=n1_;have BK446:=n2_;have GW446:=n3_;have GE446:=n4_;have NB445_446:=n5_;have NB446_445:=n6_;clear n0_ n1_ n2_ n3_ n4_ n5_ n6_;clear hb hbox hg;have hnb30:=NB445_446.out;have hnc30:=NB446_445.out;have hcz31_0:w29.cell? ⟨gb445,0,none⟩=some (.slice A0_0 l0_0.length c0_0):=(zb BK445.out 0).trans rfl;have hcz31_1:w29.cell? ⟨gb445,1,none⟩=some (.slice A0_1 l0_1.length c0_1):=(zb BK445.out 1).trans rfl;have hfz31_0:=za BK445.out 0;have hfz31_1:=za BK445.out 1)|((with_reducible refine zo (f:=69) rfl ?_);refine zw (some 10) rfl rfl Try.func69 zq15 rfl #[.agg #[.slice A0_0 l0_0.length c0_0,.slice A0_1 l0_1.length c0_1]] rfl zq4 ?_;(with_reducible refine (impl_cloneDisk.calls _ _ l0_0 _ _ l0_1 t447 t450 _ ?side1 ?side2 ?side3 ?side4 A4.out).mono ?_);(case side1=>repeat (first|exact (Kd.C_below HR0_0.out HB.out)|(with_reducible refine Kd.C_alloc ?_ _)|(with_reducible refine Kd.C_drewN ?_ _)|(with_reducible refine Kd.C_drew ?_)));(case side2=>exact HC0_0.out);(case side3=>repeat (first|exact (Kd.C_below HR0_1.out HB.out)|(with_reducible refine Kd.C_alloc ?_ _)|(with_reducible refine Kd.C_drewN ?_ _)|(with_reducible refine Kd.C_drew ?_)));(case side4=>exact HC0_1.out);rintro e w32 ⟨v448,v451,rfl,ho0,ho1,hb⟩;refine ⟨_,rfl,?_⟩;(first|have rs_v448:=zp (P:=Try.prog) ho0|have rs_v448:=zp (P:=Try.prog) (Kd.S_R ho0)|skip);(first|have rs_v451:=zp (P:=Try.prog) ho1|have rs_v451:=zp (P:=Try.prog) (Kd.S_R ho1)|skip);have n0_:=zz (Kd.R_lower ho0 (zc (zq1 GE445.out GE446.out)));have n1_:=zz (Kd.R_lower ho1 (zc (zq1 GE445.out GE446.out)));have n2_:=zz (zi (g:=gb445) (o:= .cells #[.slice A0_0 l0_0.length c0_0,.slice A0_1 l0_1.length c0_1] 32 (0,0)) (zq0 BK445.out) hb);have n3_:=zz (zi (g:=gb446) (o:= .cells #[.slice none 0 0,.slice none 0 0] 32 (0,0)) (zq0 BK446.out) hb);have n4_:=zz (ze (zq1 GE445.out GE446.out) hb);clear BK445;clear BK446;clear HB;have HO449:=n0_;have HO452:=n1_;have BK445:=n2_;have BK446:=n3_;have HB:=n4_;clear n0_ n1_ n2_ n3_ n4_;(try clear hb);(try clear hb2);(try clear hk);(try clear hi);(try clear ho0);(try clear ho1))|((with_reducible refine zm (N:=8) rfl ?_);(try (refine zA zq44 ?_;dsimp only));refine zq ?hg (N:=8) ?hd (cs:= #[.slice none 0 0,.slice none 0 0]) (t:=32) ?hr ?_;(case hd=>rfl);(case hg=>rfl);(case hr=>first|(go_simp;done)|(go_simp;rfl));intro gb453 hg w33 hbox hb;have n0_:=zz (Kd.R_below (zq5 HO449.out) hb);have n1_:=zz (Kd.R_below (zq5 HO452.out) hb);have n2_:=zz (zi (g:=gb445) (o:= .cells #[.slice A0_0 l0_0.length c0_0,.slice A0_1 l0_1.length c0_1] 32 (0,0)) (zq0 BK445.out) hb);have n3_:=zz (zi (g:=gb446) (o:= .cells #[.slice none 0 0,.slice none 0 0] 32 (0,0)) (zq0 BK446.out) hb);have n4_:=zz (ze (zq1 GE445.out GE446.out) hb);have n5_:=zz (hbox);have n6_:=zz ((by rw [hg];exact (zc (zq1 GE445.out GE446.out)):w.heap.size≤gb453));have n7_:=zz ((by rw [hg];exact (zc (zq1 GE445.out GE446.out)):w.heap.size≤gb453));have n8_:=zz ((by rw [hg];exact Nat.ne_of_lt (zu (g:=gb445) (o:= .cells #[.slice A0_0 l0_0.length c0_0,.slice A0_1 l0_1.length c0_1] 32 (0,0)) (zq0 BK445.out)):gb445≠gb453));have n9_:=zz ((by rw [hg];exact Nat.ne_of_gt (zu (g:=gb445) (o:= .cells #[.slice A0_0 l0_0.length c0_0,.slice A0_1 l0_1.length c0_1] 32 (0,0)) (zq0 BK445.out)):gb453≠gb445));have n10_:=zz ((by rw [hg];exact Nat.ne_of_lt (zu (g:=gb446) (o:= .cells #[.slice none 0 0,.slice none 0 0] 32 (0,0)) (zq0 BK446.out)):gb446≠gb453));have n11_:=zz ((by rw [hg];exact Nat.ne_of_gt (zu (g:=gb446) (o:= .cells #[.slice none 0 0,.slice none 0 0] 32 (0,0)) (zq0 BK446.out)):gb453≠gb446));clear HO449;clear HO452;clear BK445;clear BK446;clear HB;have HO449:=n0_;have HO452:=n1_;have BK445:=n2_;have BK446:=n3_;have HB:=n4_;have BK453:=n5_;have GW453:=n6_;have GE453:=n7_;have NB445_453:=n8_;have NB453_445:=n9_;have NB446_453:=n10_;have NB453_446:=n11_;clear n0_ n1_ n2_ n3_ n4_ n5_ n6_ n7_ n8_ n9_ n10_ n11_;clear hb hbox hg;obtain ⟨Ao34,co34,eo34⟩:=Kd.R_slice HO449.out;subst eo34;have hnb35:=NB453_445.out;have hnc35:=NB445_453.out;have hnb36:=NB453_446.out;have hnc36:=NB446_453.out;have hcz37_0:w33.cell? ⟨gb453,0,none⟩=some (.slice none 0 0):=(zb BK453.out 0).trans rfl;have hcz37_1:w33.cell? ⟨gb453,1,none⟩=some (.slice none 0 0):=(zb BK453.out 1).trans rfl;have hfz37_0:=za BK453.out 0;have hfz37_1:=za BK453.out 1;obtain ⟨Ao38,co38,eo38⟩:=Kd.R_slice HO452.out;subst eo38;have hcz39_0:w33.cell? ⟨gb445,0,none⟩=some (.slice A0_0 l0_0.length c0_0):=(zb BK445.out 0).trans rfl;have hcz39_1:w33.cell? ⟨gb445,1,none⟩=some (.slice A0_1 l0_1.length c0_1):=(zb BK445.out 1).trans rfl;have hfz39_0:=za BK445.out 0;have hfz39_1:=za BK445.out 1)|((with_reducible refine zo (f:=68) rfl ?_);refine zw (some 12) rfl rfl Try.func68 zq15 rfl #[.agg #[.slice A0_0 l0_0.length c0_0,.slice A0_1 l0_1.length c0_1]] rfl zq4 ?_;(with_reducible refine (impl_DiskOk.calls _ _ l0_0 _ _ l0_1 true _ ?side1 ?side2 ?side3 ?side4 A5.out).mono ?_);(case side1=>exact Kd.C_below HR0_0.out (zq6 GE445.out GE446.out GE453.out));(case side2=>exact HC0_0.out);(case side3=>exact Kd.C_below HR0_1.out (zq6 GE445.out GE446.out GE453.out));(case side4=>exact HC0_1.out);rintro e w40 ⟨rfl,hb⟩;refine ⟨_,rfl,?_⟩;have n0_:=zz (Kd.R_below (zq89 HO449.out BK453.out) hb);have n1_:=zz (Kd.R_below (zq89 HO452.out BK453.out) hb);have n2_:=zz (zi (g:=gb445) (o:= .cells #[.slice A0_0 l0_0.length c0_0,.slice A0_1 l0_1.length c0_1] 32 (0,0)) (zq9 NB445_453.out BK445.out) hb);have n3_:=zz (zi (g:=gb446) (o:= .cells #[.slice none 0 0,.slice none 0 0] 32 (0,0)) (zq9 NB446_453.out BK446.out) hb);have n4_:=zz (zi (g:=gb453) (o:= .cells #[.slice Ao34 t447.length co34,.slice Ao38 t450.length co38] 32 (0,0)) (zq63 BK453.out) hb);have n5_:=zz (ze (zq6 GE445.out GE446.out GE453.out) hb);clear HO449;clear HO452;clear BK445;clear BK446;clear BK453;clear HB;have HO449:=n0_;have HO452:=n1_;have BK445:=n2_;have BK446:=n3_;have BK453:=n4_;have HB:=n5_;clear n0_ n1_ n2_ n3_ n4_ n5_;(try clear hb);(try clear hb2);(try clear hk);(try clear hi);have hcz41_0:w40.cell? ⟨gb445,0,none⟩=some (.slice A0_0 l0_0.length c0_0):=(zb BK445.out 0).trans rfl;have hcz41_1:w40.cell? ⟨gb445,1,none⟩=some (.slice A0_1 l0_1.length c0_1):=(zb BK445.out 1).trans rfl;have hfz41_0:=za BK445.out 0;have hfz41_1:=za BK445.out 1)|(go_at_call 113;(with_reducible refine (impl_isPage.calls _ _ l0_0 _ _ l0_1 a1 true _ ?side1 ?side2 ?side3 ?side4 A7.out).mono ?_);(case side1=>repeat (first|exact (Kd.C_below HR0_0.out HB.out)|(with_reducible refine Kd.C_alloc ?_ _)|(with_reducible refine Kd.C_drewN ?_ _)|(with_reducible refine Kd.C_drew ?_)));(case side2=>exact HC0_0.out);(case side3=>repeat (first|exact (Kd.C_below HR0_1.out HB.out)|(with_reducible refine Kd.C_alloc ?_ _)|(with_reducible refine Kd.C_drewN ?_ _)|(with_reducible refine Kd.C_drew ?_)));(case side4=>exact HC0_1.out);rintro e w42 ⟨rfl,hb⟩;have n0_:=zz (Kd.R_below (zq5 HO449.out) hb);have n1_:=zz (Kd.R_below (zq5 HO452.out) hb);have n2_:=zz (zi (g:=gb445) (o:= .cells #[.slice A0_0 l0_0.length c0_0,.slice A0_1 l0_1.length c0_1] 32 (0,0)) (zq0 BK445.out) hb);have n3_:=zz (zi (g:=gb446) (o:= .cells #[.slice none 0 0,.slice none 0 0] 32 (0,0)) (zq0 BK446.out) hb);have n4_:=zz (zi (g:=gb453) (o:= .cells #[.slice Ao34 t447.length co34,.slice Ao38 t450.length co38] 32 (0,0)) (zq0 BK453.out) hb);have n5_:=zz (ze (zq6 GE445.out GE446.out GE453.out) hb);clear HO449;clear HO452;clear BK445;clear BK446;clear BK453;clear HB;have HO449:=n0_;have HO452:=n1_;have BK445:=n2_;have BK446:=n3_;have BK453:=n4_;have HB:=n5_;clear n0_ n1_ n2_ n3_ n4_ n5_;(try clear hb);(try clear hb2);(try clear hk);(try clear hi);have hcz43_0:w42.cell? ⟨gb445,0,none⟩=some (.slice A0_0 l0_0.length c0_0):=(zb BK445.out 0).trans rfl;have hcz43_1:w42.cell? ⟨gb445,1,none⟩=some (.slice A0_1 l0_1.length c0_1):=(zb BK445.out 1).trans rfl;have hfz43_0:=za BK445.out 0;have hfz43_1:=za BK445.out 1;have hcz44_0:w42.cell? ⟨gb453,0,none⟩=some (.slice Ao34 t447.length co34):=(zb BK453.out 0).trans rfl;have hcz44_1:w42.cell? ⟨gb453,1,none⟩=some (.slice Ao38 t450.length co38):=(zb BK453.out 1).trans rfl;have hfz44_0:=za BK453.out 0;have hfz44_1:=za BK453.out 1;have hcz45_0:w42.cell? ⟨gb446,0,none⟩=some (.slice none 0 0):=(zb BK446.out 0).trans rfl;have hcz45_1:w42.cell? ⟨gb446,1,none⟩=some (.slice none 0 0):=(zb BK446.out 1).trans rfl;have hfz45_0:=za BK446.out 0;have hfz45_1:=za BK446.out 1))
     refine bodyPost_ret (zN rfl _ _ gb446 32 #[.slice Ao34 t447.length co34,.slice Ao38 t450.length co38] (0,0) _ rfl (zq63 BK446.out) Try.underlying32 rfl zq15) rfl ?_
     exact ⟨_,_,zq10,zq80 HO449.out BK446.out,zq80 HO452.out BK446.out,by repeat (first|(with_reducible first|exact HB.out|apply zg|apply zd|apply zk|refine zn ?_ GE445.out|refine zn ?_ GE446.out|refine zn ?_ GE453.out)|exact HB.out)⟩
    ·rw [if_neg c27] at H
     have c27b0:decide (200≤(l0_1.length:Int))=false:=decide_eq_false c27
     have c27b1:decide (200≤l0_1.length)=false:=decide_eq_false zq11
     clear c27
     by_cases c46:t450.length<5864062014805
     ·rw [if_pos c46] at H
      have LMc46:=zz c46
      clear c46
      obtain ⟨y456,hy456⟩:∃y_:List (S135),y_=(t450++[(⟨a1,a2⟩:S135)]):=⟨_,rfl⟩
      replace H:(some (t447,y456,true))=some (r1,r2,r3):=zq8 hy456
      have Ny456:=zz hy456
      clear hy456
      simp only [Option.some.injEq,Prod.mk.injEq] at H
      obtain ⟨rfl,rfl,rfl⟩:=H
      go_enter Try.func59,Try.ntmps59
      go_wp2_with (first|((with_reducible refine zm (N:=3) rfl ?_);(try (refine zA zq44 ?_;dsimp only));refine zq ?hg (N:=3) ?hd (cs:= #[.slice A0_0 l0_0.length c0_0,.slice A0_1 l0_1.length c0_1]) (t:=32) ?hr ?_;(case hd=>rfl);(case hg=>rfl);(case hr=>first|(go_simp;done)|(go_simp;rfl));intro gb445 hg w47 hbox hb;have n0_:=zz (ze zq2 hb);have n1_:=zz (hbox);have n2_:=zz ((by rw [hg];exact (zc zq2):w.heap.size≤gb445));have n3_:=zz ((by rw [hg];exact (zc zq2):w.heap.size≤gb445));clear HB;have HB:=n0_;have BK445:=n1_;have GW445:=n2_;have GE445:=n3_;clear n0_ n1_ n2_ n3_;clear hb hbox hg)|((with_reducible refine zm (N:=6) rfl ?_);(try (refine zA zq44 ?_;dsimp only));refine zq ?hg (N:=6) ?hd (cs:= #[.slice none 0 0,.slice none 0 0]) (t:=32) ?hr ?_;(case hd=>rfl);(case hg=>rfl);(case hr=>first|(go_simp;done)|(go_simp;rfl));intro gb446 hg w48 hbox hb;have n0_:=zz (zi (g:=gb445) (o:= .cells #[.slice A0_0 l0_0.length c0_0,.slice A0_1 l0_1.length c0_1] 32 (0,0)) (zq0 BK445.out) hb);have n1_:=zz (ze (zq3 GE445.out) hb);have n2_:=zz (hbox);have n3_:=zz ((by rw [hg];exact (zc (zq3 GE445.out)):w.heap.size≤gb446));have n4_:=zz ((by rw [hg];exact (zc (zq3 GE445.out)):w.heap.size≤gb446));have n5_:=zz ((by rw [hg];exact Nat.ne_of_lt (zu (g:=gb445) (o:= .cells #[.slice A0_0 l0_0.length c0_0,.slice A0_1 l0_1.length c0_1] 32 (0,0)) (zq0 BK445.out)):gb445≠gb446));have n6_:=zz ((by rw [hg];exact Nat.ne_of_gt (zu (g:=gb445) (o:= .cells #[.slice A0_0 l0_0.length c0_0,.slice A0_1 l0_1.length c0_1] 32 (0,0)) (zq0 BK445.out)):gb446≠gb445));clear BK445;clear HB;have BK445:=n0_;have HB:=n1_;have BK446:=n2_;have GW446:=n3_;have GE446:=n4_;have NB445_446:=n5_;have NB446_445:=n6_;clear n0_ n1_ n2_ n3_ n4_ n5_ n6_;clear hb hbox hg;have hnb49:=NB445_446.out;have hnc49:=NB446_445.out;have hcz50_0:w48.cell? ⟨gb445,0,none⟩=some (.slice A0_0 l0_0.length c0_0):=(zb BK445.out 0).trans rfl;have hcz50_1:w48.cell? ⟨gb445,1,none⟩=some (.slice A0_1 l0_1.length c0_1):=(zb BK445.out 1).trans rfl;have hfz50_0:=za BK445.out 0;have hfz50_1:=za BK445.out 1)|((with_reducible refine zo (f:=69) rfl ?_);refine zw (some 10) rfl rfl Try.func69 zq15 rfl #[.agg #[.slice A0_0 l0_0.length c0_0,.slice A0_1 l0_1.length c0_1]] rfl zq4 ?_;(with_reducible refine (impl_cloneDisk.calls _ _ l0_0 _ _ l0_1 t447 t450 _ ?side1 ?side2 ?side3 ?side4 A4.out).mono ?_);(case side1=>repeat (first|exact (Kd.C_below HR0_0.out HB.out)|(with_reducible refine Kd.C_alloc ?_ _)|(with_reducible refine Kd.C_drewN ?_ _)|(with_reducible refine Kd.C_drew ?_)));(case side2=>exact HC0_0.out);(case side3=>repeat (first|exact (Kd.C_below HR0_1.out HB.out)|(with_reducible refine Kd.C_alloc ?_ _)|(with_reducible refine Kd.C_drewN ?_ _)|(with_reducible refine Kd.C_drew ?_)));(case side4=>exact HC0_1.out);rintro e w51 ⟨v448,v451,rfl,ho0,ho1,hb⟩;refine ⟨_,rfl,?_⟩;(first|have rs_v448:=zp (P:=Try.prog) ho0|have rs_v448:=zp (P:=Try.prog) (Kd.S_R ho0)|skip);(first|have rs_v451:=zp (P:=Try.prog) ho1|have rs_v451:=zp (P:=Try.prog) (Kd.S_R ho1)|skip);have n0_:=zz (Kd.R_lower ho0 (zc (zq1 GE445.out GE446.out)));have n1_:=zz (Kd.R_lower ho1 (zc (zq1 GE445.out GE446.out)));have n2_:=zz (zi (g:=gb445) (o:= .cells #[.slice A0_0 l0_0.length c0_0,.slice A0_1 l0_1.length c0_1] 32 (0,0)) (zq0 BK445.out) hb);have n3_:=zz (zi (g:=gb446) (o:= .cells #[.slice none 0 0,.slice none 0 0] 32 (0,0)) (zq0 BK446.out) hb);have n4_:=zz (ze (zq1 GE445.out GE446.out) hb);clear BK445;clear BK446;clear HB;have HO449:=n0_;have HO452:=n1_;have BK445:=n2_;have BK446:=n3_;have HB:=n4_;clear n0_ n1_ n2_ n3_ n4_;(try clear hb);(try clear hb2);(try clear hk);(try clear hi);(try clear ho0);(try clear ho1))|((with_reducible refine zm (N:=8) rfl ?_);(try (refine zA zq44 ?_;dsimp only));refine zq ?hg (N:=8) ?hd (cs:= #[.slice none 0 0,.slice none 0 0]) (t:=32) ?hr ?_;(case hd=>rfl);(case hg=>rfl);(case hr=>first|(go_simp;done)|(go_simp;rfl));intro gb453 hg w52 hbox hb;have n0_:=zz (Kd.R_below (zq5 HO449.out) hb);have n1_:=zz (Kd.R_below (zq5 HO452.out) hb);have n2_:=zz (zi (g:=gb445) (o:= .cells #[.slice A0_0 l0_0.length c0_0,.slice A0_1 l0_1.length c0_1] 32 (0,0)) (zq0 BK445.out) hb);have n3_:=zz (zi (g:=gb446) (o:= .cells #[.slice none 0 0,.slice none 0 0] 32 (0,0)) (zq0 BK446.out) hb);have n4_:=zz (ze (zq1 GE445.out GE446.out) hb);have n5_:=zz (hbox);have n6_:=zz ((by rw [hg];exact (zc (zq1 GE445.out GE446.out)):w.heap.size≤gb453));have n7_:=zz ((by rw [hg];exact (zc (zq1 GE445.out GE446.out)):w.heap.size≤gb453));have n8_:=zz ((by rw [hg];exact Nat.ne_of_lt (zu (g:=gb445) (o:= .cells #[.slice A0_0 l0_0.length c0_0,.slice A0_1 l0_1.length c0_1] 32 (0,0)) (zq0 BK445.out)):gb445≠gb453));have n9_:=zz ((by rw [hg];exact Nat.ne_of_gt (zu (g:=gb445) (o:= .cells #[.slice A0_0 l0_0.length c0_0,.slice A0_1 l0_1.length c0_1] 32 (0,0)) (zq0 BK445.out)):gb453≠gb445));have n10_:=zz ((by rw [hg];exact Nat.ne_of_lt (zu (g:=gb446) (o:= .cells #[.slice none 0 0,.slice none 0 0] 32 (0,0)) (zq0 BK446.out)):gb446≠gb453));have n11_:=zz ((by rw [hg];exact Nat.ne_of_gt (zu (g:=gb446) (o:= .cells #[.slice none 0 0,.slice none 0 0] 32 (0,0)) (zq0 BK446.out)):gb453≠gb446));clear HO449;clear HO452;clear BK445;clear BK446;clear HB;have HO449:=n0_;have HO452:=n1_;have BK445:=n2_;have BK446:=n3_;have HB:=n4_;have BK453:=n5_;have GW453:=n6_;have GE453:=n7_;have NB445_453:=n8_;have NB453_445:=n9_;have NB446_453:=n10_;have NB453_446:=n11_;clear n0_ n1_ n2_ n3_ n4_ n5_ n6_ n7_ n8_ n9_ n10_ n11_;clear hb hbox hg;obtain ⟨Ao53,co53,eo53⟩:=Kd.R_slice HO449.out;subst eo53;have hnb54:=NB453_445.out;have hnc54:=NB445_453.out;have hnb55:=NB453_446.out;have hnc55:=NB446_453.out;have hcz56_0:w52.cell? ⟨gb453,0,none⟩=some (.slice none 0 0):=(zb BK453.out 0).trans rfl;have hcz56_1:w52.cell? ⟨gb453,1,none⟩=some (.slice none 0 0):=(zb BK453.out 1).trans rfl;have hfz56_0:=za BK453.out 0;have hfz56_1:=za BK453.out 1;obtain ⟨Ao57,co57,eo57⟩:=Kd.R_slice HO452.out;subst eo57;have hcz58_0:w52.cell? ⟨gb445,0,none⟩=some (.slice A0_0 l0_0.length c0_0):=(zb BK445.out 0).trans rfl;have hcz58_1:w52.cell? ⟨gb445,1,none⟩=some (.slice A0_1 l0_1.length c0_1):=(zb BK445.out 1).trans rfl;have hfz58_0:=za BK445.out 0;have hfz58_1:=za BK445.out 1)|((with_reducible refine zo (f:=68) rfl ?_);refine zw (some 12) rfl rfl Try.func68 zq15 rfl #[.agg #[.slice A0_0 l0_0.length c0_0,.slice A0_1 l0_1.length c0_1]] rfl zq4 ?_;(with_reducible refine (impl_DiskOk.calls _ _ l0_0 _ _ l0_1 true _ ?side1 ?side2 ?side3 ?side4 A5.out).mono ?_);(case side1=>exact Kd.C_below HR0_0.out (zq6 GE445.out GE446.out GE453.out));(case side2=>exact HC0_0.out);(case side3=>exact Kd.C_below HR0_1.out (zq6 GE445.out GE446.out GE453.out));(case side4=>exact HC0_1.out);rintro e w59 ⟨rfl,hb⟩;refine ⟨_,rfl,?_⟩;have n0_:=zz (Kd.R_below (zq90 HO449.out BK453.out) hb);have n1_:=zz (Kd.R_below (zq90 HO452.out BK453.out) hb);have n2_:=zz (zi (g:=gb445) (o:= .cells #[.slice A0_0 l0_0.length c0_0,.slice A0_1 l0_1.length c0_1] 32 (0,0)) (zq9 NB445_453.out BK445.out) hb);have n3_:=zz (zi (g:=gb446) (o:= .cells #[.slice none 0 0,.slice none 0 0] 32 (0,0)) (zq9 NB446_453.out BK446.out) hb);have n4_:=zz (zi (g:=gb453) (o:= .cells #[.slice Ao53 t447.length co53,.slice Ao57 t450.length co57] 32 (0,0)) (by (with_reducible repeat (first|refine zf ?_ _|refine zj ?_|refine zh ?_ _));refine zr (cs:= #[.slice Ao53 t447.length co53,.slice none 0 0]) ?_ 1 _ rfl;(with_reducible repeat (first|refine zf ?_ _|refine zj ?_|refine zh ?_ _));refine zr (cs:= #[.slice none 0 0,.slice none 0 0]) ?_ 0 _ rfl;(with_reducible repeat (first|refine zf ?_ _|refine zj ?_|refine zh ?_ _));exact BK453.out) hb);have n5_:=zz (ze (zq6 GE445.out GE446.out GE453.out) hb);clear HO449;clear HO452;clear BK445;clear BK446;clear BK453;clear HB;have HO449:=n0_;have HO452:=n1_;have BK445:=n2_;have BK446:=n3_;have BK453:=n4_;have HB:=n5_;clear n0_ n1_ n2_ n3_ n4_ n5_;(try clear hb);(try clear hb2);(try clear hk);(try clear hi);have hcz60_0:w59.cell? ⟨gb445,0,none⟩=some (.slice A0_0 l0_0.length c0_0):=(zb BK445.out 0).trans rfl;have hcz60_1:w59.cell? ⟨gb445,1,none⟩=some (.slice A0_1 l0_1.length c0_1):=(zb BK445.out 1).trans rfl;have hfz60_0:=za BK445.out 0;have hfz60_1:=za BK445.out 1)|(go_at_call 113;(with_reducible refine (impl_isPage.calls _ _ l0_0 _ _ l0_1 a1 true _ ?side1 ?side2 ?side3 ?side4 A7.out).mono ?_);(case side1=>repeat (first|exact (Kd.C_below HR0_0.out HB.out)|(with_reducible refine Kd.C_alloc ?_ _)|(with_reducible refine Kd.C_drewN ?_ _)|(with_reducible refine Kd.C_drew ?_)));(case side2=>exact HC0_0.out);(case side3=>repeat (first|exact (Kd.C_below HR0_1.out HB.out)|(with_reducible refine Kd.C_alloc ?_ _)|(with_reducible refine Kd.C_drewN ?_ _)|(with_reducible refine Kd.C_drew ?_)));(case side4=>exact HC0_1.out);rintro e w61 ⟨rfl,hb⟩;have n0_:=zz (Kd.R_below (zq5 HO449.out) hb);have n1_:=zz (Kd.R_below (zq5 HO452.out) hb);have n2_:=zz (zi (g:=gb445) (o:= .cells #[.slice A0_0 l0_0.length c0_0,.slice A0_1 l0_1.length c0_1] 32 (0,0)) (zq0 BK445.out) hb);have n3_:=zz (zi (g:=gb446) (o:= .cells #[.slice none 0 0,.slice none 0 0] 32 (0,0)) (zq0 BK446.out) hb);have n4_:=zz (zi (g:=gb453) (o:= .cells #[.slice Ao53 t447.length co53,.slice Ao57 t450.length co57] 32 (0,0)) (zq0 BK453.out) hb);have n5_:=zz (ze (zq6 GE445.out GE446.out GE453.out) hb);clear HO449;clear HO452;clear BK445;clear BK446;clear BK453;clear HB;have HO449:=n0_;have HO452:=n1_;have BK445:=n2_;have BK446:=n3_;have BK453:=n4_;have HB:=n5_;clear n0_ n1_ n2_ n3_ n4_ n5_;(try clear hb);(try clear hb2);(try clear hk);(try clear hi);have hcz62_0:w61.cell? ⟨gb445,0,none⟩=some (.slice A0_0 l0_0.length c0_0):=(zb BK445.out 0).trans rfl;have hcz62_1:w61.cell? ⟨gb445,1,none⟩=some (.slice A0_1 l0_1.length c0_1):=(zb BK445.out 1).trans rfl;have hfz62_0:=za BK445.out 0;have hfz62_1:=za BK445.out 1;have hcz63_0:w61.cell? ⟨gb453,0,none⟩=some (.slice Ao53 t447.length co53):=(zb BK453.out 0).trans rfl;have hcz63_1:w61.cell? ⟨gb453,1,none⟩=some (.slice Ao57 t450.length co57):=(zb BK453.out 1).trans rfl;have hfz63_0:=za BK453.out 0;have hfz63_1:=za BK453.out 1)|((with_reducible refine zT (b:= .append) (xs:= #[.tmp 33,.tmp 37]) rfl ?_);(try (refine zA zq44 ?_;dsimp only));at_builtin;refine Kd.R_append k135 (w0:=w) w.heap.size rfl (.tmp 33) (.tmp 37) 30 135 (.agg #[(.int .i64 0),(.string ⟨#[]⟩)]) 24 rfl Try.underlying30 info135 rfl zq26 zq11 (.slice Ao57 t450.length co57) t450 (⟨a1,a2⟩:S135) [.int .i64 a1,.string a2] (fun _=>True) (fun _=>False) rfl rfl ?aP (fun _ hk=>hk.elim) ?aF ?aO ?aB ?aS ?aL ?_;(case aP=>exact k135_mkM _ _ _ (⟨a1,a2⟩:S135));(case aB=>exact (zq6 GE445.out GE446.out GE453.out));(case aF=>exact (fun _ _=>trivial));(case aO=>exact (zq5 HO452.out));(case aS=>exact (zc (zq6 GE445.out GE446.out GE453.out)));(case aL=>have:=LMc46.out;omega);intro v457 w64 ho hb hg hat;rw [←Ny456.out] at ho;have n0_:=zz (zE (g:=gb445) (o:= .cells #[.slice A0_0 l0_0.length c0_0,.slice A0_1 l0_1.length c0_1] 32 (0,0)) (zq0 BK445.out) hg (Kd.R_ne HO452.out BK445.out zq26));have n1_:=zz (zE (g:=gb446) (o:= .cells #[.slice none 0 0,.slice none 0 0] 32 (0,0)) (zq0 BK446.out) hg (Kd.R_ne HO452.out BK446.out zq26));have n2_:=zz (Kd.R_over' (zq5 HO449.out) (Kd.R_typed (zq5 HO452.out)) zq26 hg);have n3_:=zz (zE (g:=gb453) (o:= .cells #[.slice Ao53 t447.length co53,.slice Ao57 t450.length co57] 32 (0,0)) (zq0 BK453.out) hg (Kd.R_ne HO452.out BK453.out zq26));have n4_:=zz (hb);have n5_:=zz (ho);clear BK445;clear BK446;clear HO449;clear BK453;clear HB;clear HO452;have BK445:=n0_;have BK446:=n1_;have HO449:=n2_;have BK453:=n3_;have HB:=n4_;have HO458:=n5_;clear n0_ n1_ n2_ n3_ n4_ n5_;clear ho hb hg hat;obtain ⟨Ao65,co65,eo65⟩:=Kd.R_slice HO458.out;subst eo65;have hcz66_0:w64.cell? ⟨gb453,0,none⟩=some (.slice Ao53 t447.length co53):=(zb BK453.out 0).trans rfl;have hcz66_1:w64.cell? ⟨gb453,1,none⟩=some (.slice Ao57 t450.length co57):=(zb BK453.out 1).trans rfl;have hfz66_0:=za BK453.out 0;have hfz66_1:=za BK453.out 1;have hcz67_0:w64.cell? ⟨gb446,0,none⟩=some (.slice none 0 0):=(zb BK446.out 0).trans rfl;have hcz67_1:w64.cell? ⟨gb446,1,none⟩=some (.slice none 0 0):=(zb BK446.out 1).trans rfl;have hfz67_0:=za BK446.out 0;have hfz67_1:=za BK446.out 1))
      refine bodyPost_ret (zN rfl _ _ gb446 32 #[.slice Ao53 t447.length co53,.slice Ao65 y456.length co65] (0,0) _ rfl (by (with_reducible repeat (first|refine zf ?_ _|refine zj ?_|refine zh ?_ _));refine zr (cs:= #[.slice Ao53 t447.length co53,.slice none 0 0]) ?_ 1 _ rfl;(with_reducible repeat (first|refine zf ?_ _|refine zj ?_|refine zh ?_ _));refine zr (cs:= #[.slice none 0 0,.slice none 0 0]) ?_ 0 _ rfl;(with_reducible repeat (first|refine zf ?_ _|refine zj ?_|refine zh ?_ _));refine zD ?_ NB446_453.out _;(with_reducible repeat (first|refine zf ?_ _|refine zj ?_|refine zh ?_ _));exact BK446.out) Try.underlying32 rfl zq15) rfl ?_
      exact ⟨_,_,zq10,zq68 HO449.out BK453.out BK446.out,zq68 HO458.out BK453.out BK446.out,by repeat (first|(with_reducible first|exact HB.out|apply zg|apply zd|apply zk|refine zn ?_ GE445.out|refine zn ?_ GE446.out|refine zn ?_ GE453.out)|exact HB.out)⟩
     ·rw [if_neg c46] at H
      exact absurd H zq52
  ·replace c8:=Bool.eq_false_iff.mpr c8
   subst c8
   rw [if_neg (show ¬(false=true) by decide)] at H
   simp only [Option.some.injEq,Prod.mk.injEq] at H
   obtain ⟨rfl,rfl,rfl⟩:=H
   go_enter Try.func59,Try.ntmps59
   go_wp2_with (first|((with_reducible refine zm (N:=3) rfl ?_);(try (refine zA zq44 ?_;dsimp only));refine zq ?hg (N:=3) ?hd (cs:= #[.slice A0_0 l0_0.length c0_0,.slice A0_1 l0_1.length c0_1]) (t:=32) ?hr ?_;(case hd=>rfl);(case hg=>rfl);(case hr=>first|(go_simp;done)|(go_simp;rfl));intro gb445 hg w68 hbox hb;have n0_:=zz (ze zq2 hb);have n1_:=zz (hbox);have n2_:=zz ((by rw [hg];exact (zc zq2):w.heap.size≤gb445));have n3_:=zz ((by rw [hg];exact (zc zq2):w.heap.size≤gb445));clear HB;have HB:=n0_;have BK445:=n1_;have GW445:=n2_;have GE445:=n3_;clear n0_ n1_ n2_ n3_;clear hb hbox hg)|((with_reducible refine zm (N:=6) rfl ?_);(try (refine zA zq44 ?_;dsimp only));refine zq ?hg (N:=6) ?hd (cs:= #[.slice none 0 0,.slice none 0 0]) (t:=32) ?hr ?_;(case hd=>rfl);(case hg=>rfl);(case hr=>first|(go_simp;done)|(go_simp;rfl));intro gb446 hg w69 hbox hb;have n0_:=zz (zi (g:=gb445) (o:= .cells #[.slice A0_0 l0_0.length c0_0,.slice A0_1 l0_1.length c0_1] 32 (0,0)) (zq0 BK445.out) hb);have n1_:=zz (ze (zq3 GE445.out) hb);have n2_:=zz (hbox);have n3_:=zz ((by rw [hg];exact (zc (zq3 GE445.out)):w.heap.size≤gb446));have n4_:=zz ((by rw [hg];exact (zc (zq3 GE445.out)):w.heap.size≤gb446));have n5_:=zz ((by rw [hg];exact Nat.ne_of_lt (zu (g:=gb445) (o:= .cells #[.slice A0_0 l0_0.length c0_0,.slice A0_1 l0_1.length c0_1] 32 (0,0)) (zq0 BK445.out)):gb445≠gb446));have n6_:=zz ((by rw [hg];exact Nat.ne_of_gt (zu (g:=gb445) (o:= .cells #[.slice A0_0 l0_0.length c0_0,.slice A0_1 l0_1.length c0_1] 32 (0,0)) (zq0 BK445.out)):gb446≠gb445));clear BK445;clear HB;have BK445:=n0_;have HB:=n1_;have BK446:=n2_;have GW446:=n3_;have GE446:=n4_;have NB445_446:=n5_;have NB446_445:=n6_;clear n0_ n1_ n2_ n3_ n4_ n5_ n6_;clear hb hbox hg;have hnb70:=NB445_446.out;have hnc70:=NB446_445.out;have hcz71_0:w69.cell? ⟨gb445,0,none⟩=some (.slice A0_0 l0_0.length c0_0):=(zb BK445.out 0).trans rfl;have hcz71_1:w69.cell? ⟨gb445,1,none⟩=some (.slice A0_1 l0_1.length c0_1):=(zb BK445.out 1).trans rfl;have hfz71_0:=za BK445.out 0;have hfz71_1:=za BK445.out 1)|((with_reducible refine zo (f:=69) rfl ?_);refine zw (some 10) rfl rfl Try.func69 zq15 rfl #[.agg #[.slice A0_0 l0_0.length c0_0,.slice A0_1 l0_1.length c0_1]] rfl zq4 ?_;(with_reducible refine (impl_cloneDisk.calls _ _ l0_0 _ _ l0_1 t447 t450 _ ?side1 ?side2 ?side3 ?side4 A4.out).mono ?_);(case side1=>repeat (first|exact (Kd.C_below HR0_0.out HB.out)|(with_reducible refine Kd.C_alloc ?_ _)|(with_reducible refine Kd.C_drewN ?_ _)|(with_reducible refine Kd.C_drew ?_)));(case side2=>exact HC0_0.out);(case side3=>repeat (first|exact (Kd.C_below HR0_1.out HB.out)|(with_reducible refine Kd.C_alloc ?_ _)|(with_reducible refine Kd.C_drewN ?_ _)|(with_reducible refine Kd.C_drew ?_)));(case side4=>exact HC0_1.out);rintro e w72 ⟨v448,v451,rfl,ho0,ho1,hb⟩;refine ⟨_,rfl,?_⟩;(first|have rs_v448:=zp (P:=Try.prog) ho0|have rs_v448:=zp (P:=Try.prog) (Kd.S_R ho0)|skip);(first|have rs_v451:=zp (P:=Try.prog) ho1|have rs_v451:=zp (P:=Try.prog) (Kd.S_R ho1)|skip);have n0_:=zz (Kd.R_lower ho0 (zc (zq1 GE445.out GE446.out)));have n1_:=zz (Kd.R_lower ho1 (zc (zq1 GE445.out GE446.out)));have n2_:=zz (zi (g:=gb445) (o:= .cells #[.slice A0_0 l0_0.length c0_0,.slice A0_1 l0_1.length c0_1] 32 (0,0)) (zq0 BK445.out) hb);have n3_:=zz (zi (g:=gb446) (o:= .cells #[.slice none 0 0,.slice none 0 0] 32 (0,0)) (zq0 BK446.out) hb);have n4_:=zz (ze (zq1 GE445.out GE446.out) hb);clear BK445;clear BK446;clear HB;have HO449:=n0_;have HO452:=n1_;have BK445:=n2_;have BK446:=n3_;have HB:=n4_;clear n0_ n1_ n2_ n3_ n4_;(try clear hb);(try clear hb2);(try clear hk);(try clear hi);(try clear ho0);(try clear ho1))|((with_reducible refine zm (N:=8) rfl ?_);(try (refine zA zq44 ?_;dsimp only));refine zq ?hg (N:=8) ?hd (cs:= #[.slice none 0 0,.slice none 0 0]) (t:=32) ?hr ?_;(case hd=>rfl);(case hg=>rfl);(case hr=>first|(go_simp;done)|(go_simp;rfl));intro gb453 hg w73 hbox hb;have n0_:=zz (Kd.R_below (zq5 HO449.out) hb);have n1_:=zz (Kd.R_below (zq5 HO452.out) hb);have n2_:=zz (zi (g:=gb445) (o:= .cells #[.slice A0_0 l0_0.length c0_0,.slice A0_1 l0_1.length c0_1] 32 (0,0)) (zq0 BK445.out) hb);have n3_:=zz (zi (g:=gb446) (o:= .cells #[.slice none 0 0,.slice none 0 0] 32 (0,0)) (zq0 BK446.out) hb);have n4_:=zz (ze (zq1 GE445.out GE446.out) hb);have n5_:=zz (hbox);have n6_:=zz ((by rw [hg];exact (zc (zq1 GE445.out GE446.out)):w.heap.size≤gb453));have n7_:=zz ((by rw [hg];exact (zc (zq1 GE445.out GE446.out)):w.heap.size≤gb453));have n8_:=zz ((by rw [hg];exact Nat.ne_of_lt (zu (g:=gb445) (o:= .cells #[.slice A0_0 l0_0.length c0_0,.slice A0_1 l0_1.length c0_1] 32 (0,0)) (zq0 BK445.out)):gb445≠gb453));have n9_:=zz ((by rw [hg];exact Nat.ne_of_gt (zu (g:=gb445) (o:= .cells #[.slice A0_0 l0_0.length c0_0,.slice A0_1 l0_1.length c0_1] 32 (0,0)) (zq0 BK445.out)):gb453≠gb445));have n10_:=zz ((by rw [hg];exact Nat.ne_of_lt (zu (g:=gb446) (o:= .cells #[.slice none 0 0,.slice none 0 0] 32 (0,0)) (zq0 BK446.out)):gb446≠gb453));have n11_:=zz ((by rw [hg];exact Nat.ne_of_gt (zu (g:=gb446) (o:= .cells #[.slice none 0 0,.slice none 0 0] 32 (0,0)) (zq0 BK446.out)):gb453≠gb446));clear HO449;clear HO452;clear BK445;clear BK446;clear HB;have HO449:=n0_;have HO452:=n1_;have BK445:=n2_;have BK446:=n3_;have HB:=n4_;have BK453:=n5_;have GW453:=n6_;have GE453:=n7_;have NB445_453:=n8_;have NB453_445:=n9_;have NB446_453:=n10_;have NB453_446:=n11_;clear n0_ n1_ n2_ n3_ n4_ n5_ n6_ n7_ n8_ n9_ n10_ n11_;clear hb hbox hg;obtain ⟨Ao74,co74,eo74⟩:=Kd.R_slice HO449.out;subst eo74;have hnb75:=NB453_445.out;have hnc75:=NB445_453.out;have hnb76:=NB453_446.out;have hnc76:=NB446_453.out;have hcz77_0:w73.cell? ⟨gb453,0,none⟩=some (.slice none 0 0):=(zb BK453.out 0).trans rfl;have hcz77_1:w73.cell? ⟨gb453,1,none⟩=some (.slice none 0 0):=(zb BK453.out 1).trans rfl;have hfz77_0:=za BK453.out 0;have hfz77_1:=za BK453.out 1;obtain ⟨Ao78,co78,eo78⟩:=Kd.R_slice HO452.out;subst eo78;have hcz79_0:w73.cell? ⟨gb445,0,none⟩=some (.slice A0_0 l0_0.length c0_0):=(zb BK445.out 0).trans rfl;have hcz79_1:w73.cell? ⟨gb445,1,none⟩=some (.slice A0_1 l0_1.length c0_1):=(zb BK445.out 1).trans rfl;have hfz79_0:=za BK445.out 0;have hfz79_1:=za BK445.out 1)|((with_reducible refine zo (f:=68) rfl ?_);refine zw (some 12) rfl rfl Try.func68 zq15 rfl #[.agg #[.slice A0_0 l0_0.length c0_0,.slice A0_1 l0_1.length c0_1]] rfl zq4 ?_;(with_reducible refine (impl_DiskOk.calls _ _ l0_0 _ _ l0_1 true _ ?side1 ?side2 ?side3 ?side4 A5.out).mono ?_);(case side1=>exact Kd.C_below HR0_0.out (zq6 GE445.out GE446.out GE453.out));(case side2=>exact HC0_0.out);(case side3=>exact Kd.C_below HR0_1.out (zq6 GE445.out GE446.out GE453.out));(case side4=>exact HC0_1.out);rintro e w80 ⟨rfl,hb⟩;refine ⟨_,rfl,?_⟩;have n0_:=zz (Kd.R_below (zq91 HO449.out BK453.out) hb);have n1_:=zz (Kd.R_below (zq91 HO452.out BK453.out) hb);have n2_:=zz (zi (g:=gb445) (o:= .cells #[.slice A0_0 l0_0.length c0_0,.slice A0_1 l0_1.length c0_1] 32 (0,0)) (zq9 NB445_453.out BK445.out) hb);have n3_:=zz (zi (g:=gb446) (o:= .cells #[.slice none 0 0,.slice none 0 0] 32 (0,0)) (zq9 NB446_453.out BK446.out) hb);have n4_:=zz (zi (g:=gb453) (o:= .cells #[.slice Ao74 t447.length co74,.slice Ao78 t450.length co78] 32 (0,0)) (zq64 BK453.out) hb);have n5_:=zz (ze (zq6 GE445.out GE446.out GE453.out) hb);clear HO449;clear HO452;clear BK445;clear BK446;clear BK453;clear HB;have HO449:=n0_;have HO452:=n1_;have BK445:=n2_;have BK446:=n3_;have BK453:=n4_;have HB:=n5_;clear n0_ n1_ n2_ n3_ n4_ n5_;(try clear hb);(try clear hb2);(try clear hk);(try clear hi);have hcz81_0:w80.cell? ⟨gb445,0,none⟩=some (.slice A0_0 l0_0.length c0_0):=(zb BK445.out 0).trans rfl;have hcz81_1:w80.cell? ⟨gb445,1,none⟩=some (.slice A0_1 l0_1.length c0_1):=(zb BK445.out 1).trans rfl;have hfz81_0:=za BK445.out 0;have hfz81_1:=za BK445.out 1)|(go_at_call 113;(with_reducible refine (impl_isPage.calls _ _ l0_0 _ _ l0_1 a1 false _ ?side1 ?side2 ?side3 ?side4 A7.out).mono ?_);(case side1=>repeat (first|exact (Kd.C_below HR0_0.out HB.out)|(with_reducible refine Kd.C_alloc ?_ _)|(with_reducible refine Kd.C_drewN ?_ _)|(with_reducible refine Kd.C_drew ?_)));(case side2=>exact HC0_0.out);(case side3=>repeat (first|exact (Kd.C_below HR0_1.out HB.out)|(with_reducible refine Kd.C_alloc ?_ _)|(with_reducible refine Kd.C_drewN ?_ _)|(with_reducible refine Kd.C_drew ?_)));(case side4=>exact HC0_1.out);rintro e w82 ⟨rfl,hb⟩;have n0_:=zz (Kd.R_below (zq5 HO449.out) hb);have n1_:=zz (Kd.R_below (zq5 HO452.out) hb);have n2_:=zz (zi (g:=gb445) (o:= .cells #[.slice A0_0 l0_0.length c0_0,.slice A0_1 l0_1.length c0_1] 32 (0,0)) (zq0 BK445.out) hb);have n3_:=zz (zi (g:=gb446) (o:= .cells #[.slice none 0 0,.slice none 0 0] 32 (0,0)) (zq0 BK446.out) hb);have n4_:=zz (zi (g:=gb453) (o:= .cells #[.slice Ao74 t447.length co74,.slice Ao78 t450.length co78] 32 (0,0)) (zq0 BK453.out) hb);have n5_:=zz (ze (zq6 GE445.out GE446.out GE453.out) hb);clear HO449;clear HO452;clear BK445;clear BK446;clear BK453;clear HB;have HO449:=n0_;have HO452:=n1_;have BK445:=n2_;have BK446:=n3_;have BK453:=n4_;have HB:=n5_;clear n0_ n1_ n2_ n3_ n4_ n5_;(try clear hb);(try clear hb2);(try clear hk);(try clear hi);have hcz83_0:w82.cell? ⟨gb453,0,none⟩=some (.slice Ao74 t447.length co74):=(zb BK453.out 0).trans rfl;have hcz83_1:w82.cell? ⟨gb453,1,none⟩=some (.slice Ao78 t450.length co78):=(zb BK453.out 1).trans rfl;have hfz83_0:=za BK453.out 0;have hfz83_1:=za BK453.out 1;have hcz84_0:w82.cell? ⟨gb446,0,none⟩=some (.slice none 0 0):=(zb BK446.out 0).trans rfl;have hcz84_1:w82.cell? ⟨gb446,1,none⟩=some (.slice none 0 0):=(zb BK446.out 1).trans rfl;have hfz84_0:=za BK446.out 0;have hfz84_1:=za BK446.out 1))
   refine bodyPost_ret (zN rfl _ _ gb446 32 #[.slice Ao74 t447.length co74,.slice Ao78 t450.length co78] (0,0) _ rfl (zq64 BK446.out) Try.underlying32 rfl zq15) rfl ?_
   exact ⟨_,_,zq10,zq81 HO449.out BK446.out,zq81 HO452.out BK446.out,by repeat (first|(with_reducible first|exact HB.out|apply zg|apply zd|apply zk|refine zn ?_ GE445.out|refine zn ?_ GE446.out|refine zn ?_ GE453.out)|exact HB.out)⟩
 ·replace c6:=Bool.eq_false_iff.mpr c6
  subst c6
  rw [if_neg (show ¬(false=true) by decide)] at H
  simp only [Option.some.injEq,Prod.mk.injEq] at H
  obtain ⟨rfl,rfl,rfl⟩:=H
  go_enter Try.func59,Try.ntmps59
  go_wp2_with (first|((with_reducible refine zm (N:=3) rfl ?_);(try (refine zA zq44 ?_;dsimp only));refine zq ?hg (N:=3) ?hd (cs:= #[.slice A0_0 l0_0.length c0_0,.slice A0_1 l0_1.length c0_1]) (t:=32) ?hr ?_;(case hd=>rfl);(case hg=>rfl);(case hr=>first|(go_simp;done)|(go_simp;rfl));intro gb445 hg w85 hbox hb;have n0_:=zz (ze zq2 hb);have n1_:=zz (hbox);have n2_:=zz ((by rw [hg];exact (zc zq2):w.heap.size≤gb445));have n3_:=zz ((by rw [hg];exact (zc zq2):w.heap.size≤gb445));clear HB;have HB:=n0_;have BK445:=n1_;have GW445:=n2_;have GE445:=n3_;clear n0_ n1_ n2_ n3_;clear hb hbox hg)|((with_reducible refine zm (N:=6) rfl ?_);(try (refine zA zq44 ?_;dsimp only));refine zq ?hg (N:=6) ?hd (cs:= #[.slice none 0 0,.slice none 0 0]) (t:=32) ?hr ?_;(case hd=>rfl);(case hg=>rfl);(case hr=>first|(go_simp;done)|(go_simp;rfl));intro gb446 hg w86 hbox hb;have n0_:=zz (zi (g:=gb445) (o:= .cells #[.slice A0_0 l0_0.length c0_0,.slice A0_1 l0_1.length c0_1] 32 (0,0)) (zq0 BK445.out) hb);have n1_:=zz (ze (zq3 GE445.out) hb);have n2_:=zz (hbox);have n3_:=zz ((by rw [hg];exact (zc (zq3 GE445.out)):w.heap.size≤gb446));have n4_:=zz ((by rw [hg];exact (zc (zq3 GE445.out)):w.heap.size≤gb446));have n5_:=zz ((by rw [hg];exact Nat.ne_of_lt (zu (g:=gb445) (o:= .cells #[.slice A0_0 l0_0.length c0_0,.slice A0_1 l0_1.length c0_1] 32 (0,0)) (zq0 BK445.out)):gb445≠gb446));have n6_:=zz ((by rw [hg];exact Nat.ne_of_gt (zu (g:=gb445) (o:= .cells #[.slice A0_0 l0_0.length c0_0,.slice A0_1 l0_1.length c0_1] 32 (0,0)) (zq0 BK445.out)):gb446≠gb445));clear BK445;clear HB;have BK445:=n0_;have HB:=n1_;have BK446:=n2_;have GW446:=n3_;have GE446:=n4_;have NB445_446:=n5_;have NB446_445:=n6_;clear n0_ n1_ n2_ n3_ n4_ n5_ n6_;clear hb hbox hg;have hnb87:=NB445_446.out;have hnc87:=NB446_445.out;have hcz88_0:w86.cell? ⟨gb445,0,none⟩=some (.slice A0_0 l0_0.length c0_0):=(zb BK445.out 0).trans rfl;have hcz88_1:w86.cell? ⟨gb445,1,none⟩=some (.slice A0_1 l0_1.length c0_1):=(zb BK445.out 1).trans rfl;have hfz88_0:=za BK445.out 0;have hfz88_1:=za BK445.out 1)|((with_reducible refine zo (f:=69) rfl ?_);refine zw (some 10) rfl rfl Try.func69 zq15 rfl #[.agg #[.slice A0_0 l0_0.length c0_0,.slice A0_1 l0_1.length c0_1]] rfl zq4 ?_;(with_reducible refine (impl_cloneDisk.calls _ _ l0_0 _ _ l0_1 t447 t450 _ ?side1 ?side2 ?side3 ?side4 A4.out).mono ?_);(case side1=>repeat (first|exact (Kd.C_below HR0_0.out HB.out)|(with_reducible refine Kd.C_alloc ?_ _)|(with_reducible refine Kd.C_drewN ?_ _)|(with_reducible refine Kd.C_drew ?_)));(case side2=>exact HC0_0.out);(case side3=>repeat (first|exact (Kd.C_below HR0_1.out HB.out)|(with_reducible refine Kd.C_alloc ?_ _)|(with_reducible refine Kd.C_drewN ?_ _)|(with_reducible refine Kd.C_drew ?_)));(case side4=>exact HC0_1.out);rintro e w89 ⟨v448,v451,rfl,ho0,ho1,hb⟩;refine ⟨_,rfl,?_⟩;(first|have rs_v448:=zp (P:=Try.prog) ho0|have rs_v448:=zp (P:=Try.prog) (Kd.S_R ho0)|skip);(first|have rs_v451:=zp (P:=Try.prog) ho1|have rs_v451:=zp (P:=Try.prog) (Kd.S_R ho1)|skip);have n0_:=zz (Kd.R_lower ho0 (zc (zq1 GE445.out GE446.out)));have n1_:=zz (Kd.R_lower ho1 (zc (zq1 GE445.out GE446.out)));have n2_:=zz (zi (g:=gb445) (o:= .cells #[.slice A0_0 l0_0.length c0_0,.slice A0_1 l0_1.length c0_1] 32 (0,0)) (zq0 BK445.out) hb);have n3_:=zz (zi (g:=gb446) (o:= .cells #[.slice none 0 0,.slice none 0 0] 32 (0,0)) (zq0 BK446.out) hb);have n4_:=zz (ze (zq1 GE445.out GE446.out) hb);clear BK445;clear BK446;clear HB;have HO449:=n0_;have HO452:=n1_;have BK445:=n2_;have BK446:=n3_;have HB:=n4_;clear n0_ n1_ n2_ n3_ n4_;(try clear hb);(try clear hb2);(try clear hk);(try clear hi);(try clear ho0);(try clear ho1))|((with_reducible refine zm (N:=8) rfl ?_);(try (refine zA zq44 ?_;dsimp only));refine zq ?hg (N:=8) ?hd (cs:= #[.slice none 0 0,.slice none 0 0]) (t:=32) ?hr ?_;(case hd=>rfl);(case hg=>rfl);(case hr=>first|(go_simp;done)|(go_simp;rfl));intro gb453 hg w90 hbox hb;have n0_:=zz (Kd.R_below (zq5 HO449.out) hb);have n1_:=zz (Kd.R_below (zq5 HO452.out) hb);have n2_:=zz (zi (g:=gb445) (o:= .cells #[.slice A0_0 l0_0.length c0_0,.slice A0_1 l0_1.length c0_1] 32 (0,0)) (zq0 BK445.out) hb);have n3_:=zz (zi (g:=gb446) (o:= .cells #[.slice none 0 0,.slice none 0 0] 32 (0,0)) (zq0 BK446.out) hb);have n4_:=zz (ze (zq1 GE445.out GE446.out) hb);have n5_:=zz (hbox);have n6_:=zz ((by rw [hg];exact (zc (zq1 GE445.out GE446.out)):w.heap.size≤gb453));have n7_:=zz ((by rw [hg];exact (zc (zq1 GE445.out GE446.out)):w.heap.size≤gb453));have n8_:=zz ((by rw [hg];exact Nat.ne_of_lt (zu (g:=gb445) (o:= .cells #[.slice A0_0 l0_0.length c0_0,.slice A0_1 l0_1.length c0_1] 32 (0,0)) (zq0 BK445.out)):gb445≠gb453));have n9_:=zz ((by rw [hg];exact Nat.ne_of_gt (zu (g:=gb445) (o:= .cells #[.slice A0_0 l0_0.length c0_0,.slice A0_1 l0_1.length c0_1] 32 (0,0)) (zq0 BK445.out)):gb453≠gb445));have n10_:=zz ((by rw [hg];exact Nat.ne_of_lt (zu (g:=gb446) (o:= .cells #[.slice none 0 0,.slice none 0 0] 32 (0,0)) (zq0 BK446.out)):gb446≠gb453));have n11_:=zz ((by rw [hg];exact Nat.ne_of_gt (zu (g:=gb446) (o:= .cells #[.slice none 0 0,.slice none 0 0] 32 (0,0)) (zq0 BK446.out)):gb453≠gb446));clear HO449;clear HO452;clear BK445;clear BK446;clear HB;have HO449:=n0_;have HO452:=n1_;have BK445:=n2_;have BK446:=n3_;have HB:=n4_;have BK453:=n5_;have GW453:=n6_;have GE453:=n7_;have NB445_453:=n8_;have NB453_445:=n9_;have NB446_453:=n10_;have NB453_446:=n11_;clear n0_ n1_ n2_ n3_ n4_ n5_ n6_ n7_ n8_ n9_ n10_ n11_;clear hb hbox hg;obtain ⟨Ao91,co91,eo91⟩:=Kd.R_slice HO449.out;subst eo91;have hnb92:=NB453_445.out;have hnc92:=NB445_453.out;have hnb93:=NB453_446.out;have hnc93:=NB446_453.out;have hcz94_0:w90.cell? ⟨gb453,0,none⟩=some (.slice none 0 0):=(zb BK453.out 0).trans rfl;have hcz94_1:w90.cell? ⟨gb453,1,none⟩=some (.slice none 0 0):=(zb BK453.out 1).trans rfl;have hfz94_0:=za BK453.out 0;have hfz94_1:=za BK453.out 1;obtain ⟨Ao95,co95,eo95⟩:=Kd.R_slice HO452.out;subst eo95;have hcz96_0:w90.cell? ⟨gb445,0,none⟩=some (.slice A0_0 l0_0.length c0_0):=(zb BK445.out 0).trans rfl;have hcz96_1:w90.cell? ⟨gb445,1,none⟩=some (.slice A0_1 l0_1.length c0_1):=(zb BK445.out 1).trans rfl;have hfz96_0:=za BK445.out 0;have hfz96_1:=za BK445.out 1)|((with_reducible refine zo (f:=68) rfl ?_);refine zw (some 12) rfl rfl Try.func68 zq15 rfl #[.agg #[.slice A0_0 l0_0.length c0_0,.slice A0_1 l0_1.length c0_1]] rfl zq4 ?_;(with_reducible refine (impl_DiskOk.calls _ _ l0_0 _ _ l0_1 false _ ?side1 ?side2 ?side3 ?side4 A5.out).mono ?_);(case side1=>exact Kd.C_below HR0_0.out (zq6 GE445.out GE446.out GE453.out));(case side2=>exact HC0_0.out);(case side3=>exact Kd.C_below HR0_1.out (zq6 GE445.out GE446.out GE453.out));(case side4=>exact HC0_1.out);rintro e w97 ⟨rfl,hb⟩;refine ⟨_,rfl,?_⟩;have n0_:=zz (Kd.R_below (zq92 HO449.out BK453.out) hb);have n1_:=zz (Kd.R_below (zq92 HO452.out BK453.out) hb);have n2_:=zz (zi (g:=gb445) (o:= .cells #[.slice A0_0 l0_0.length c0_0,.slice A0_1 l0_1.length c0_1] 32 (0,0)) (zq9 NB445_453.out BK445.out) hb);have n3_:=zz (zi (g:=gb446) (o:= .cells #[.slice none 0 0,.slice none 0 0] 32 (0,0)) (zq9 NB446_453.out BK446.out) hb);have n4_:=zz (zi (g:=gb453) (o:= .cells #[.slice Ao91 t447.length co91,.slice Ao95 t450.length co95] 32 (0,0)) (zq65 BK453.out) hb);have n5_:=zz (ze (zq6 GE445.out GE446.out GE453.out) hb);clear HO449;clear HO452;clear BK445;clear BK446;clear BK453;clear HB;have HO449:=n0_;have HO452:=n1_;have BK445:=n2_;have BK446:=n3_;have BK453:=n4_;have HB:=n5_;clear n0_ n1_ n2_ n3_ n4_ n5_;(try clear hb);(try clear hb2);(try clear hk);(try clear hi);have hcz98_0:w97.cell? ⟨gb453,0,none⟩=some (.slice Ao91 t447.length co91):=(zb BK453.out 0).trans rfl;have hcz98_1:w97.cell? ⟨gb453,1,none⟩=some (.slice Ao95 t450.length co95):=(zb BK453.out 1).trans rfl;have hfz98_0:=za BK453.out 0;have hfz98_1:=za BK453.out 1;have hcz99_0:w97.cell? ⟨gb446,0,none⟩=some (.slice none 0 0):=(zb BK446.out 0).trans rfl;have hcz99_1:w97.cell? ⟨gb446,1,none⟩=some (.slice none 0 0):=(zb BK446.out 1).trans rfl;have hfz99_0:=za BK446.out 0;have hfz99_1:=za BK446.out 1))
  refine bodyPost_ret (zN rfl _ _ gb446 32 #[.slice Ao91 t447.length co91,.slice Ao95 t450.length co95] (0,0) _ rfl (zq65 BK446.out) Try.underlying32 rfl zq15) rfl ?_
  exact ⟨_,_,zq10,zq82 HO449.out BK446.out,zq82 HO452.out BK446.out,by repeat (first|(with_reducible first|exact HB.out|apply zg|apply zd|apply zk|refine zn ?_ GE445.out|refine zn ?_ GE446.out|refine zn ?_ GE453.out)|exact HB.out)⟩
theorem writeI_c (z z':(List ByteArray×List S135)) (a:Int) (t:ByteArray) (b:Bool) {cs:List Value} (w:World) (h:kDisk.K w z cs) (hf:impl_WritePage.f z.1 z.2 a t=some (z'.1,z'.2,b)):
  Calls Try.prog 59 #[.agg cs.toArray,.int .i64 a,.string t] w fun e w'=>∃ds:List Value,e= .returned (.tuple #[.agg ds.toArray,.bool b])∧kDisk.M w' w.heap.size (Fr w w') z' ds∧Below w.heap.size w w':=by
 obtain ⟨l0,l1⟩:=z
 obtain ⟨q0,q1⟩:=z'
 obtain ⟨A0,c0,A1,c1,rfl,m0,r0,m1,r1⟩:=zna h
 refine (impl_WritePage.calls A0 c0 l0 A1 c1 l1 a t q0 q1 b w r0 m0 r1 m1 hf).mono ?_
 rintro e w' ⟨v0,v1,rfl,R0,R1,hb⟩
 have T0:=Own.R_tightB rfl R0
 have T1:=Own.R_tightB rfl R1
 exact ⟨[v0,v1],rfl,kDisk_mkM T0.1 T1.1 T0.2.1 T1.2.1 (Own.types_ne T0.2.2 T1.2.2 zq26),hb⟩
theorem writeS_c (k:Nat) (z z':(List ByteArray×List S135)) (a:Int) (t:ByteArray) (b:Bool) {cs:List Value} (w:World) (h:kDisk.K w z cs) (hf:spec_WritePage.f k z.1 z.2 a t=some (z'.1,z'.2,b)):
  Calls Try.prog 56 #[.agg cs.toArray,.int .i64 a,.string t] w fun e w'=>∃ds:List Value,e= .returned (.tuple #[.agg ds.toArray,.bool b])∧kDisk.M w' w.heap.size (Fr w w') z' ds∧Below w.heap.size w w':=by
 obtain ⟨l0,l1⟩:=z
 obtain ⟨q0,q1⟩:=z'
 obtain ⟨A0,c0,A1,c1,rfl,m0,r0,m1,r1⟩:=zna h
 refine (spec_WritePage.calls k A0 c0 l0 A1 c1 l1 a t q0 q1 b w r0 m0 r1 m1 hf).mono ?_
 rintro e w' ⟨v0,v1,rfl,R0,R1,hb⟩
 have T0:=Own.R_tightB rfl R0
 have T1:=Own.R_tightB rfl R1
 exact ⟨[v0,v1],rfl,kDisk_mkM T0.1 T1.1 T0.2.1 T1.2.1 (Own.types_ne T0.2.2 T1.2.2 zq26),hb⟩
end Go.Proofs.Ytonhdiemjgdcnaa.PFnExactGivePage
namespace Go.Proofs.Ytonhdiemjgdcnaa.PFnExactGivePage
open Go.RowKit Go.Proofs.YtonhdiemjgdcnaaW.PrintWords Go.Proofs.YtonhdiemjgdcnaaW.PrintLast Go.Proofs.YtonhdiemjgdcnaaW.PrintMore
attribute [local go_sem] zO zP zY zX zK zJ zQ zR
theorem inS_f (a lo hi:Int):spec_l01In.f a lo hi=some (inB a lo hi):=by
 unfold spec_l01In.f inB
 by_cases h:a≥lo
 ·rw [if_pos h,decide_eq_true (show lo≤a from h)];rfl
 ·rw [if_neg h,decide_eq_false (show ¬lo≤a from h)];rfl
theorem le200 (n:Nat):decide ((n:Int)≤200)= !decide ((n:Int)>200):=by
 by_cases h:(n:Int)>200
 ·rw [decide_eq_true h,decide_eq_false zq11];rfl
 ·rw [decide_eq_false h,decide_eq_true zq11];rfl
theorem ds1 (p:List ByteArray) (q:List S135) (hp:p.length≤2000000) (hq:q.length≤2000000):∀n i:Nat,i+n=q.length→Ev (fun k=>spec_DiskOk.l1 k (i:Int) p q) (!(q.drop i).any (badP p.length)&&(inB (p.length:Int) 4 40&& !decide ((q.length:Int)>200))):=by
 have w1:wrap64 ((p.length:Int)-1)=(p.length:Int)-1:=zG zq11 zq11
 intro n
 induction n with
 |zero=>
  intro i hi
  rw [List.drop_eq_nil_of_le (show q.length≤i by omega)]
  refine Ev.step (f:=fun _=>some (!([]:List S135).any (badP p.length)&&(inB (p.length:Int) 4 40&& !decide ((q.length:Int)>200)))) (fun k=> ?_) (Ev.now _)
  rw [spec_DiskOk.l1,if_neg zq11,inS_f,Option.bind_some,le200]
  cases inB (p.length:Int) 4 40<;>rfl
 |succ n ih=>
  intro i hi
  have hlt:i<q.length:=zq11
  have w2:wrap64 ((i:Int)+1)=((i+1:Nat):Int):=by rw [zG zq11 zq11];omega
  rw [List.drop_eq_getElem_cons hlt,List.any_cons]
  by_cases hb:inB q[i].f0 0 ((p.length:Int)-1)=true
  ·by_cases hs:(q[i].f1.size:Int)>240
   ·have e:badP p.length q[i]=true:=by unfold badP bigT;rw [decide_eq_true hs,Bool.or_true]
    rw [e]
    refine Ev.step (f:=fun _=>some false) (fun k=> ?_) (Ev.now _)
    rw [spec_DiskOk.l1,if_pos zq11,if_pos zq11,rd135 _ _ hlt,w1,inS_f,Option.bind_some,if_pos hb,if_pos hs]
   ·have e:badP p.length q[i]=false:=by unfold badP bigT;rw [decide_eq_false hs,hb];rfl
    rw [e,Bool.false_or]
    refine Ev.step (f:=fun k=>spec_DiskOk.l1 k ((i+1:Nat):Int) p q) (fun k=> ?_) (ih (i+1) zq11)
    rw [spec_DiskOk.l1,if_pos zq11,if_pos zq11,rd135 _ _ hlt,w1,inS_f,Option.bind_some,if_pos hb,if_neg hs,w2]
  ·have hb2:inB q[i].f0 0 ((p.length:Int)-1)=false:=by cases h:inB q[i].f0 0 ((p.length:Int)-1)<;>simp_all
   have e:badP p.length q[i]=true:=by unfold badP;rw [hb2];rfl
   rw [e]
   refine Ev.step (f:=fun _=>some false) (fun k=> ?_) (Ev.now _)
   rw [spec_DiskOk.l1,if_pos zq11,if_pos zq11,rd135 _ _ hlt,w1,inS_f,Option.bind_some,if_neg hb]
theorem ds0 (p:List ByteArray) (q:List S135) (hp:p.length≤2000000) (hq:q.length≤2000000):∀n i:Nat,i+n=p.length→Ev (fun k=>spec_DiskOk.l0 k (i:Int) p q) (!(p.drop i).any bigT&&(!q.any (badP p.length)&&(inB (p.length:Int) 4 40&& !decide ((q.length:Int)>200)))):=by
 intro n
 induction n with
 |zero=>
  intro i hi
  rw [List.drop_eq_nil_of_le (show p.length≤i by omega)]
  refine Ev.step (f:=fun k=>spec_DiskOk.l1 k ((0:Nat):Int) p q) (fun k=> ?_) ?_
  ·rw [spec_DiskOk.l0,if_neg zq11]
   rfl
  ·exact ds1 p q hp hq q.length 0 zq11
 |succ n ih=>
  intro i hi
  have hlt:i<p.length:=zq11
  have w2:wrap64 ((i:Int)+1)=((i+1:Nat):Int):=by rw [zG zq11 zq11];omega
  rw [List.drop_eq_getElem_cons hlt,List.any_cons]
  by_cases hs:(p[i].size:Int)>240
  ·have e:bigT p[i]=true:=by unfold bigT;rw [decide_eq_true hs]
   rw [e]
   refine Ev.step (f:=fun _=>some false) (fun k=> ?_) (Ev.now _)
   rw [spec_DiskOk.l0,if_pos zq11,if_pos zq11,zla _ _ _ hlt,if_pos hs]
  ·have e:bigT p[i]=false:=by unfold bigT;rw [decide_eq_false hs]
   rw [e,Bool.false_or]
   refine Ev.step (f:=fun k=>spec_DiskOk.l0 k ((i+1:Nat):Int) p q) (fun k=> ?_) (ih (i+1) zq11)
   rw [spec_DiskOk.l0,if_pos zq11,if_pos zq11,zla _ _ _ hlt,if_neg hs,w2]
theorem diskOkS_ev (p:List ByteArray) (q:List S135) (hp:p.length≤2000000) (hq:q.length≤2000000):Ev (fun k=>spec_DiskOk.f k p q) (DOk p q):=by
 have h:=ds0 p q hp hq p.length 0 zq11
 have e:(!(p.drop 0).any bigT&&(!q.any (badP p.length)&&(inB (p.length:Int) 4 40&& !decide ((q.length:Int)>200))))=DOk p q:=by
  rw [List.drop_zero]
  unfold DOk
  generalize p.any bigT=a1
  generalize q.any (badP p.length)=a2
  generalize inB (p.length:Int) 4 40=a3
  generalize decide ((q.length:Int)>200)=a4
  cases a1<;>cases a2<;>cases a3<;>cases a4<;>rfl
 rw [e] at h
 exact h
def wrOk (p:List ByteArray) (q:List S135) (a:Int) (t:ByteArray):Bool:=DOk p q&&inB a 0 ((p.length:Int)-1)&& !bigT t&& !decide ((q.length:Int)≥200)
def wrD (z:(List ByteArray×List S135)) (a:Int) (t:ByteArray):(List ByteArray×List S135):=if wrOk z.1 z.2 a t=true then (z.1,z.2++[(⟨a,t⟩:S135)]) else z
theorem cloneD_id2 (p:List ByteArray) (q:List S135) (hp:p.length≤2000000) (hq:q.length≤2000000):impl_cloneDisk.f p q=some (p,q):=by
 unfold impl_cloneDisk.f slices_Clone_string_string.f impl_Put.f
 rw [if_pos zq11,if_pos zq11]
 rfl
theorem writeI_f (z:(List ByteArray×List S135)) (a:Int) (t:ByteArray) (hp:z.1.length≤2000000) (hq:z.2.length≤2000000):impl_WritePage.f z.1 z.2 a t=some ((wrD z a t).1,(wrD z a t).2,wrOk z.1 z.2 a t):=by
 obtain ⟨p,q⟩:=z
 have w1:wrap64 ((p.length:Int)-1)=(p.length:Int)-1:=zG (by have:p.length≤2000000:=hp;omega) (by have:p.length≤2000000:=hp;omega)
 have hq':q.length≤2000000:=hq
 unfold impl_WritePage.f impl_DiskOk.f impl_isPage.f impl_in.f wrD wrOk
 rw [cloneD_id2 p q hp hq,Option.bind_some,Option.bind_some,w1]
 have e:∀b:Bool,(if a≥0 then some (decide (a≤(p.length:Int)-1)) else some false)=some (inB a 0 ((p.length:Int)-1)):=fun _=>inS_f a 0 _
 show (if DOk p q=true then _ else _)=_
 cases h1:DOk p q with
 |false=>rfl
 |true=>
  rw [if_pos rfl]
  have e2:(if a≥0 then some (decide (a≤(p.length:Int)-1)) else some false)=some (inB a 0 ((p.length:Int)-1)):=e true
  cases h2:inB a 0 ((p.length:Int)-1) with
  |false=>
   rw [h2] at e2
   simp only [e2,Option.bind_some]
   rfl
  |true=>
   rw [h2] at e2
   simp only [e2,Option.bind_some,if_true]
   by_cases h3:(t.size:Int)>240
   ·have e3:bigT t=true:=decide_eq_true h3
    rw [if_pos h3,e3]
    rfl
   ·have e3:bigT t=false:=decide_eq_false h3
    rw [if_neg h3,e3]
    by_cases h4:(q.length:Int)≥200
    ·rw [if_pos h4,decide_eq_true h4]
     rfl
    ·rw [if_neg h4,decide_eq_false h4,if_pos zq11]
     rfl
theorem writeS_ev (z:(List ByteArray×List S135)) (a:Int) (t:ByteArray) (hp:z.1.length≤2000000) (hq:z.2.length≤2000000):Ev (fun k=>spec_WritePage.f k z.1 z.2 a t) ((wrD z a t).1,(wrD z a t).2,wrOk z.1 z.2 a t):=by
 obtain ⟨p,q⟩:=z
 have w1:wrap64 ((p.length:Int)-1)=(p.length:Int)-1:=zG (by have:p.length≤2000000:=hp;omega) (by have:p.length≤2000000:=hp;omega)
 have hq':q.length≤2000000:=hq
 have hp':p.length≤2000000:=hp
 have eC:spec_l03Copy.f p q=some (p,q):=by
  unfold spec_l03Copy.f
  rw [Option.bind_some,if_pos (by rw [List.length_nil];omega),Option.bind_some,if_pos (by rw [List.length_nil];omega)]
  rfl
 have hD:=diskOkS_ev p q hp hq
 unfold wrD wrOk
 cases h1:DOk p q with
 |false=>
  rw [h1] at hD
  refine hD.imp ?_
  intro K hK k hk
  have hk:spec_DiskOk.f k p q=some _:=hK k hk
  show spec_WritePage.f k p q a t=_
  unfold spec_WritePage.f
  rw [eC,Option.bind_some,hk]
  rfl
 |true=>
  rw [h1] at hD
  have hle:(q.length:Int)≤200:=by
   have h2:=h1
   unfold DOk at h2
   simp only [Bool.and_eq_true,Bool.not_eq_true',decide_eq_false_iff_not] at h2
   have:=h2.1.1.2
   omega
  refine hD.imp ?_
  intro K hK k hk
  have hk:spec_DiskOk.f k p q=some _:=hK k hk
  show spec_WritePage.f k p q a t=_
  unfold spec_WritePage.f
  rw [eC,Option.bind_some,hk,Option.bind_some,if_pos rfl,w1,inS_f,Option.bind_some]
  show (if inB a 0 ((p.length:Int)-1)=true then (if (t.size:Int)>240 then some (p,q,false) else (if (q.length:Int)=200 then some (p,q,false) else (if q.length<5864062014805 then some (p,q++[(⟨a,t⟩:S135)],true) else none))) else some (p,q,false))=some ((if (true&&inB a 0 ((p.length:Int)-1)&& !bigT t&& !decide ((q.length:Int)≥200))=true then (p,q++[(⟨a,t⟩:S135)]) else (p,q)).1,(if (true&&inB a 0 ((p.length:Int)-1)&& !bigT t&& !decide ((q.length:Int)≥200))=true then (p,q++[(⟨a,t⟩:S135)]) else (p,q)).2,(true&&inB a 0 ((p.length:Int)-1)&& !bigT t&& !decide ((q.length:Int)≥200)))
  cases h2:inB a 0 ((p.length:Int)-1) with
  |false=>rfl
  |true=>
   rw [if_pos rfl]
   by_cases h3:(t.size:Int)>240
   ·have e3:bigT t=true:=decide_eq_true h3
    rw [if_pos h3,e3]
    rfl
   ·have e3:bigT t=false:=decide_eq_false h3
    rw [if_neg h3,e3]
    by_cases h4:(q.length:Int)≥200
    ·rw [if_pos (show (q.length:Int)=200 by omega),decide_eq_true h4]
     rfl
    ·rw [if_neg (show ¬(q.length:Int)=200 by omega),decide_eq_false h4,if_pos zq11]
     rfl
end Go.Proofs.Ytonhdiemjgdcnaa.PFnExactGivePage
namespace Go.Proofs.Ytonhdiemjgdcnaa.Opened
open Go.RowKit Go.Deep Go.WideShapes Go.Proofs.YtonhdiemjgdcnaaW.PrintWords
def Opens {α:Type} (P:Program) (t:TypeId) (d:Kd α) (ok:α→Prop):Prop:=
 ∀(H:Type) (enc:TypeId×Value→H) (w:World) (base:Nat) (spare:Nat→Bool) (held:Bool) (fuel:Nat) (cs:List Value) (x:DataW H×List MemPlace),
  DataW.trod enc P w base spare held fuel t cs=some x→∃y:α,d.K w y cs∧ok y
variable {P:Program}
theorem opens_int {t:TypeId} {k:IntKind} (hu:P.underlying t=some (.int k)):Opens P t (Kd.int k) (fun _=>True):=by
 intro H enc w base spare held fuel cs x h
 obtain ⟨n,rfl,_,_⟩:=DataW.trod_int hu h
 exact ⟨n,rfl,trivial⟩
theorem zJa {t:TypeId} (hu:P.underlying t=some .string):Opens P t Kd.string (fun s=>s.size≤9223372036854775807):=by
 intro H enc w base spare held fuel cs x h
 obtain ⟨n,rfl,_,hs⟩:=DataW.trod_string hu h
 exact ⟨n,rfl,by unfold maxLen at hs;omega⟩
theorem list_of {α:Type} (n:Nat) (Q:Nat→α→Prop) (h:∀i,i<n→∃y,Q i y):∃ys:List α,ys.length=n∧∀j p,ys[j]?=some p→Q j p:=by
 induction n with
 |zero=>exact ⟨[],rfl,fun j p h=>by simp at h⟩
 |succ n ih=>
  obtain ⟨ys,hl,hy⟩:=ih (fun i hi=>h i zq11)
  obtain ⟨y,hq⟩:=h n zq11
  refine ⟨ys++[y],by simp [hl],fun j p hj=> ?_⟩
  rcases Nat.lt_or_ge j n with hlt|hge
  ·rw [List.getElem?_append_left zq11] at hj
   exact hy j p hj
  ·have hj':j=n:=by
    have:=(List.getElem?_eq_some_iff.1 hj).1
    rw [List.length_append,List.length_singleton] at this
    omega
   subst hj'
   have:y=p:=by rw [List.getElem?_append_right zq11,hl,Nat.sub_self] at hj;simpa using hj
   subst this
   exact hq
theorem zFa {t e:TypeId} {α:Type} {d:Kd α} {ok:α→Prop} (hu:P.underlying t=some (.slice e)) (he:Opens P e d ok) (hc:P.cellsOf e=d.sz) (n:Nat):Opens P t (Kd.slice n d) (fun ys=>∀y∈ys,ok y):=by
 intro H enc w base spare held fuel cs x h
 rcases open_slice hu h with ⟨rfl,_⟩|⟨a,len,cap,m,n',D,Pl,rfl,_,hl,hm,hmm,_,hel⟩
 ·exact ⟨[],⟨none,0,rfl,Nat.le_refl _,rfl,by simp,fun h=>by simp at h⟩,fun y hy=>by cases hy⟩
 ·have hlm:len≤m:=by
   rw [hmm]
   split<;>omega
  obtain ⟨ys,hy,hq⟩:=list_of len (fun i y=>ok y∧∃cs',w.cells? base (a.add (i*P.cellsOf e)) (P.cellsOf e)=some cs'∧d.K w y cs') (fun i hi=>by
   obtain ⟨cs',h1,h2⟩:=hel i zq11
   obtain ⟨y,hy,hok⟩:=he _ enc w base spare held n' cs' _ h2
   exact ⟨y,hok,cs',h1,hy⟩)
  subst hy
  refine ⟨ys,⟨some a,cap,rfl,hl,rfl,by unfold maxLen at hm;omega,fun _=>⟨a,rfl,fun j p hj=> ?_⟩⟩,fun y hy=> ?_⟩
  ·obtain ⟨_,cs',h1,h2⟩:=hq j p hj
   obtain ⟨_,h3,h4⟩:=World.cells?_some h1
   refine ⟨cs',h3.trans hc,h2,fun i u hi=> ?_⟩
   have hi':i<P.cellsOf e:=by
    have:=(List.getElem?_eq_some_iff.1 hi).1
    omega
   have:=h4 i hi'
   rw [Addr.add_add,hc] at this
   rw [this]
   exact hi
  ·obtain ⟨j,hj,rfl⟩:=List.getElem_of_mem hy
   exact (hq j _ (List.getElem?_eq_getElem hj)).1
def Parts {α:Type} (P:Program) (fs:List Field) (o:Nat) (d:Kd α) (ok:α→Prop):Prop:=
 ∀(H:Type) (enc:TypeId×Value→H) (w:World) (base:Nat) (spare:Nat→Bool) (held:Bool) (fuel:Nat) (cs:List Value),cs.length=o+d.sz→
  (∀f∈fs,∃x:DataW H×List MemPlace,DataW.trod enc P w base spare held fuel f.type ((cs.drop f.offset).take (P.cellsOf f.type))=some x)→∃y:α,d.K w y (cs.drop o)∧ok y
theorem parts_last {α:Type} {d:Kd α} {ok:α→Prop} {f:Field} {o:Nat} (hf:Opens P f.type d ok) (ho:f.offset=o) (hc:P.cellsOf f.type=d.sz):Parts P [f] o d ok:=by
 intro H enc w base spare held fuel cs hl h
 obtain ⟨x,hx⟩:=h f zq52
 rw [ho,hc,List.take_of_length_le (by rw [List.length_drop];omega)] at hx
 exact hf _ enc w base spare held fuel _ x hx
theorem zma {α β:Type} {d:Kd α} {ds:Kd β} {ok:α→Prop} {oks:β→Prop} {f:Field} {fs:List Field} {o o':Nat} (hf:Opens P f.type d ok) (ho:f.offset=o) (hc:P.cellsOf f.type=d.sz) (hs:Parts P fs o' ds oks) (ho':o'=o+d.sz):Parts P (f::fs) o (Kd.pair d ds) (fun p=>ok p.1∧oks p.2):=by
 intro H enc w base spare held fuel cs hl h
 subst ho'
 have hl':cs.length=o+(d.sz+ds.sz):=hl
 obtain ⟨x,hx⟩:=h f zq52
 rw [ho,hc] at hx
 obtain ⟨y,hy,oy⟩:=hf _ enc w base spare held fuel _ x hx
 obtain ⟨z,hz,oz⟩:=hs _ enc w base spare held fuel cs zq11 (fun g hg=>h g (by simp [hg]))
 refine ⟨(y,z),⟨(cs.drop o).take d.sz,cs.drop (o+d.sz),?_,hy,hz⟩,oy,oz⟩
 rw [←List.drop_drop]
 exact (List.take_append_drop _ _).symm
theorem zIa {t:TypeId} {fs:Array Field} {α β:Type} {d:Kd α} {ok:α→Prop} (hu:P.underlying t=some (.struct fs)) (hp:Parts P fs.toList 0 d ok) (hc:P.cellsOf t=d.sz) (f:β→α) (g:α→β) (hg:∀y,f (g y)=y):Opens P t (Kd.iso d f) (fun y=>ok (f y)):=by
 intro H enc w base spare held fuel cs x h
 obtain ⟨xs,n,_,_,hl,hlen,hi⟩:=DataW.trod_struct hu h
 obtain ⟨y,hy,oy⟩:=hp _ enc w base spare held n cs zq11 (fun fl hfl=>by
  obtain ⟨i,hlt,he⟩:=List.getElem_of_mem hfl
  have hlt':i<fs.size:=by simpa using hlt
  have:=hi i fl (by rw [Array.getElem?_eq_getElem hlt'];simpa using he)
  rw [List.getElem?_eq_getElem zq11] at this
  exact ⟨_,this⟩)
 refine ⟨g y,?_,?_⟩
 ·show d.K w (f (g y)) cs
  rw [hg]
  simpa using hy
 ·show ok (f (g y))
  rw [hg]
  exact oy
theorem arg_struct {t:TypeId} {fs:Array Field} {α:Type} {d:Kd α} {ok:α→Prop} (hu:P.underlying t=some (.struct fs)) (ho:Opens P t d ok) {H:Type} {enc:TypeId×Value→H} {w:World} {base b0:Nat} {spare:Nat→Bool} {held:Bool} {r:Reach} {v:Value} {x:DataW H} {p:List MemPlace}
  (hv:Value.okWide P w r b0 t v) (h:DataW.Trod enc P w base spare held t v x p):∃(y:α) (cs:List Value),v= .agg cs.toArray∧d.K w y cs∧ok y:=by
 obtain ⟨cs,rfl,_⟩:=okWide_struct hu hv
 obtain ⟨fuel,hf⟩:=h
 obtain ⟨y,hy,oy⟩:=ho _ enc w base spare held fuel _ _ hf
 exact ⟨y,cs.toList,by simp,by simpa [Value.cells] using hy,oy⟩
end Go.Proofs.Ytonhdiemjgdcnaa.Opened
namespace Go.Proofs.Ytonhdiemjgdcnaa.PFnExactGivePage
open Go.ChangeShapes Go.WideShapes Go.ChangeAt Go.RowKit
open Go.ChangeMaps (open_string shut_string)
open Go.Proofs.Ytonhdiemjgdcnaa.Opened Go.Proofs.YtonhdiemjgdcnaaW.PrintWords
def dDisk:Kd (List ByteArray×List S140):=Kd.pair (Kd.slice 9 Kd.string) (Kd.slice 140 k140)
def okDisk (p:List ByteArray×List S140):Prop:=(∀s∈p.1,s.size≤9223372036854775807)∧∀s∈p.2,s.f1.size≤9223372036854775807
theorem opens140:Opens Try.prog 140 k140 (fun s=>s.f1.size≤9223372036854775807):=by
 have h:=zIa (P:=Try.prog) Try.underlying140 (zma (opens_int Try.underlying3) rfl zq15 (parts_last (zJa Try.underlying9) rfl zq15) rfl) zq15 (fun x:S140=>(x.f0,x.f1)) (fun p=>⟨p.1,p.2⟩) (fun _=>rfl)
 intro H enc w base spare held fuel cs x hx
 obtain ⟨y,h1,h2⟩:=h _ enc w base spare held fuel cs x hx
 exact ⟨y,h1,h2.2⟩
theorem opens25:Opens Try.prog 25 (Kd.iso dDisk id) okDisk:=
 zIa (P:=Try.prog) Try.underlying25 (zma (zFa Try.underlying22 (zJa Try.underlying9) zq15 9) rfl zq15 (parts_last (zFa Try.underlying23 opens140 zq15 140) rfl zq15) rfl) zq15 id id (fun _=>rfl)
theorem opens_bool {P:Program} {t:TypeId} (hu:P.underlying t=some .bool):Opens P t Kd.bool (fun _=>True):=by
 intro H enc w base spare held fuel cs x h
 obtain ⟨n,rfl,_⟩:=DataW.trod_bool hu h
 exact ⟨n,rfl,trivial⟩
def dWork:Kd ((List ByteArray×List S140)×Int×List Int×List Int×List Int):=Kd.pair (Kd.iso dDisk id) (Kd.pair (Kd.int .i64) (Kd.pair (Kd.slice 3 (Kd.int .i64)) (Kd.pair (Kd.slice 3 (Kd.int .i64)) (Kd.slice 3 (Kd.int .i64)))))
theorem opensI:Opens Try.prog 26 (Kd.slice 3 (Kd.int .i64)) (fun ys=>∀y∈ys,True):=zFa Try.underlying26 (opens_int Try.underlying3) zq15 3
def unW (p:(List ByteArray×List S140)×Int×List Int×List Int×List Int):(List ByteArray×List S140×Int×List Int×List Int×List Int):=(p.1.1,p.1.2,p.2)
def reW (p:(List ByteArray×List S140×Int×List Int×List Int×List Int)):(List ByteArray×List S140)×Int×List Int×List Int×List Int:=((p.1,p.2.1),p.2.2)
theorem opens28:∃ok,Opens Try.prog 28 (Kd.iso dWork reW) ok∧∀x,ok x→okDisk (x.1,x.2.1):=⟨_,
 zIa (P:=Try.prog) Try.underlying28 (zma opens25 rfl zq15 (zma (opens_int Try.underlying3) rfl zq15 (zma opensI rfl zq15 (zma opensI rfl zq15 (parts_last opensI rfl zq15) rfl) rfl) rfl) rfl) zq15 reW unW (fun _=>rfl),fun x h=>h.1⟩
theorem KW_len {w:World} {x:(List ByteArray×List S140×Int×List Int×List Int×List Int)} {cs:List Value} (h:kWorkL.K w x cs) (ho:okDisk (x.1,x.2.1)):INd x.1 x.2.1∧INi x.2.2.2.1∧INi x.2.2.2.2.1∧INi x.2.2.2.2.2:=by
 obtain ⟨l0,l1,l2,l3,l4,l5⟩:=x
 obtain ⟨A0,c0,A1,c1,A3,c3,A4,c4,A5,c5,rfl,m0,r0,m1,r1,m3,r3,m4,r4,m5,r5⟩:=kWorkL_open h
 exact ⟨⟨ho.1,r0.2.1,ho.2,r1.2.1⟩,r3.2.1,r4.2.1,r5.2.1⟩
theorem Kw_of {w:World} {x:(List ByteArray×List S140×Int×List Int×List Int×List Int)} {cs:List Value} (h:(Kd.iso dWork reW).K w x cs):kWorkL.K w x cs:=by
 obtain ⟨l0,l1,l2,l3,l4,l5⟩:=x
 obtain ⟨_,_,rfl,⟨_,_,rfl,⟨A0,c0,rfl,m0,r0⟩,⟨A1,c1,rfl,m1,r1⟩⟩,⟨_,_,rfl,rfl,⟨_,_,rfl,⟨A3,c3,rfl,m3,r3⟩,⟨_,_,rfl,⟨A4,c4,rfl,m4,r4⟩,⟨A5,c5,rfl,m5,r5⟩⟩⟩⟩⟩:=h
 exact kWorkL_mk m0 r0 m1 r1 m3 r3 m4 r4 m5 r5
end Go.Proofs.Ytonhdiemjgdcnaa.PFnExactGivePage
namespace Go.Proofs.YtonhdiemjgdcnaaW.PrintWords
open Go.RowKit
theorem KeepBut.own {w w1:World} {g:Nat} {row:Option Nat} {base:Nat} {e:TypeId} {size n:Nat} {v:Value} {xs:List Value} (h:KeepBut w w1 g row) (ho:w.ownsRow base e size v n xs) (hg:v.ownBlock≠some g) (hr:v.ownBlock=none∨v.ownBlock≠row):w1.ownsRow base e size v n xs:=by
 obtain ⟨h1,h2⟩:=ho
 refine ⟨h1,?_⟩
 rcases h2 with h2|⟨b,cap,cur,rfl,hb,hh,r⟩
 ·exact .inl h2
 ·refine .inr ⟨b,cap,cur,rfl,hb,h.blk hh ?_ ?_,r⟩
  ·intro e
   exact hg (by rw [←e];rfl)
  ·rcases hr with hr|hr
   ·simp [Value.ownBlock] at hr
   ·exact hr
section
variable {α:Type} {enc:α→Value} {d:α}
theorem print_cut_of {P:Program} (enc:α→Value) (d:α) (t e:TypeId) (kl:IntKind) {i:TypeInfo} (ht:P.underlying t=some (.slice e)) (hi:P.info? e=some i) (hsz:i.size=1) (A:Option Addr) (n c m:Nat) (hm:m≤n):
  ∃A':Option Addr,(∀W:World,(Instr.slice t (.slice A n c) (some (.int kl (m:Int))) none none).run P W= .ok (.slice A' (n-m) (c-m)) W)∧
   ∀(w:World) (xs:List α),n≤c→ReadsOf enc d w A n xs→ReadsOf enc d w A' (n-m) (xs.drop m):=by
 refine ⟨if c=m then A else A.map (·.add m),fun W=> ?_,fun w xs hc h=>h.drop_ m hm hc⟩
 have hel:P.elem t=e:=by simp [Program.elem,ht]
 have hu:P.underlying t=some (.slice (P.elem t)):=by rw [hel];exact ht
 rw [run_slice_l W t A n c hu kl (m:Int) (Int.natCast_nonneg _) zq11,hel]
 simp [sizeOf,typeInfo,hi,hsz,sliced,Result.andThen]
end
section
variable {α:Type} {P:Program}
theorem print_drop_of (enc:α→Value) (d:α) (t e:TypeId) (kl:IntKind) {i:TypeInfo} (ht:P.underlying t=some (.slice e)) (hi:P.info? e=some i) (hsz:i.size=1) (A:Option Addr) (c:Nat) (xs:List α) (j:Int) (h0:0≤j) (hm:j≤xs.length) (hc:xs.length≤c):
  ∃A':Option Addr,(∀W:World,(Instr.slice t (.slice A xs.length c) (some (.int kl j)) none none).run P W= .ok (.slice A' (xs.drop j.toNat).length (c-j.toNat)) W)∧
   (∀w:World,ReadsOf enc d w A xs.length xs→ReadsOf enc d w A' (xs.drop j.toNat).length (xs.drop j.toNat))∧(xs.drop j.toNat).length≤c-j.toNat:=by
 obtain ⟨m,rfl⟩:=Int.eq_ofNat_of_zero_le h0
 simp only [Int.toNat_natCast]
 have hmn:m≤xs.length:=zq11
 obtain ⟨A',h1,h2⟩:=print_cut_of (P:=P) enc d t e kl ht hi hsz A xs.length c m hmn
 have hl:(xs.drop m).length=xs.length-m:=List.length_drop
 exact ⟨A',fun W=>by rw [hl];exact h1 W,fun w h=>by rw [hl];exact h2 w xs hc h,by rw [hl];omega⟩
end
namespace Kd
theorem C_of_reads {α:Type} {enc:α→Value} {d:α} {h1:∀x,(enc x).oneCell'=true} {w:World} {A:Option Addr} {n:Nat} {xs:List α} (h:ReadsOf enc d w A n xs):(zja enc h1).C w A n xs:=by
 refine ⟨h.1,h.2.1,fun hn=> ?_⟩
 obtain ⟨ad,e,hc⟩:=h.2.2 hn
 refine ⟨ad,e,fun j p hj=>⟨[enc p],rfl,rfl,fun i u hu=> ?_⟩⟩
 obtain ⟨hl,hp⟩:=List.getElem?_eq_some_iff.1 hj
 have h2:=hc j (by have:=h.1;omega)
 rw [List.getD_eq_getElem?_getD,hj] at h2
 cases i with
 |zero=>
  have:enc p=u:=by simpa using hu
  subst this
  simpa [zja] using h2
 |succ i=>simp at hu
end Kd
namespace Kd
end Kd
namespace Kd
theorem R_after {α:Type} {d:Kd α} {e base:Nat} {ok:Nat→Prop} {W w1:World} {u v v1:Value} {xs:List α} (h:d.R e W base (fun k=>ok k∧some k≠v.ownBlock) u xs) (hg:W.grownBy w1 v.ownBlock) (hat:v1.ownBlock=v.ownBlock∨∃b,v1.ownBlock=some b∧W.heap.size≤b):d.R e w1 base (fun k=>ok k∧some k≠v1.ownBlock) u xs:=by
 refine R_mono (R_move (zQa h) (fun k hk=>hg.block k hk.2.2.1 hk.1.2)) (fun k hk=>⟨hk.1.1,?_⟩)
 rcases hat with hat|⟨b,hb,hle⟩
 ·rw [hat];exact hk.1.2
 ·rw [hb]
  intro he
  injection he with he
  have:=hk.2.2.1
  omega
end Kd
namespace Kd
end Kd
section
variable {w w1:World} {base n size:Nat} {e:TypeId} {v:Value} {xs:List Value}
theorem q_drop {A:Option Addr} {c k:Nat} (h:QRow w base e size (.slice A n c) n xs) (hk:k≤n):QRow w base e size (.slice (if c=k then A else A.map (·.add (k*size))) (n-k) (c-k)) (n-k) (xs.drop (k*size)):=by
 obtain ⟨h1,h2⟩:=h
 refine ⟨by rw [List.length_drop,h1,Nat.sub_mul],?_⟩
 rcases h2 with ⟨h0,A',he,hA⟩|⟨g,off,cap,cur,he,hb,hh,hnc,hcm,hcs,ht⟩
 ·injection he with ha hb hc
  subst ha;subst hc
  have hk0:k=0:=zq11
  subst hk0
  exact .inl ⟨zq11,A,by rw [if_pos rfl,h0],hA⟩
 ·injection he with ha _ hc
  subst ha;subst hc
  by_cases hck:c=k
  ·rw [if_pos hck]
   refine .inl ⟨zq11,some ⟨g,off*size,none⟩,?_,fun a ha=> ?_⟩
   ·rw [show n-k=0 by omega,show c-k=0 by omega]
   ·injection ha with ha
    subst ha
    exact ⟨hb,cur,hh⟩
  ·rw [if_neg hck]
   refine .inr ⟨g,off+k,c-k,cur,?_,hb,hh,zq11,zq11,by rw [hcs];congr 1;omega,?_⟩
   ·rw [Option.map_some,add_at,Nat.add_mul]
   ·rw [←ht,List.drop_take,List.drop_drop,Nat.add_mul,Nat.sub_mul]
end
namespace Kd
theorem reps_drop {α:Type} {R:α→List Value→Prop} {size m:Nat} {ps:List α} {cs:List Value} (h:Reps R size ps cs):Reps R size (ps.drop m) (cs.drop (m*size)):=by
 refine ⟨by rw [List.length_drop,List.length_drop,h.1,Nat.sub_mul],fun j p hj=> ?_⟩
 rw [List.getElem?_drop] at hj
 have:=h.2 (m+j) p hj
 rw [List.drop_drop,←Nat.add_mul]
 exact this
section
variable {α:Type} {d:Kd α} {e:Nat} {w w1 W:World} {base:Nat} {ok ok':Nat→Prop} {v:Value} {xs:List α}
theorem Q_far (h:d.Q e w base ok v xs) {p:Addr} (hok:∀k,ok k→k≠p.block) (u:Value):d.Q e (w.setCell p u) base ok v xs:=Q_step h (fun k ho _=>Below.heap_setCell w p u k (hok k ho))
theorem Q_types (h:d.Q e w base ok v xs) {g t:Nat} {cells:Array Value} (hb:w.heap[g]?=some (.cells cells t (0,0))) (ht:∀q,q∈e::d.E→q≠t):d.Q e w base (fun k=>ok k∧k≠g) v xs:=
 Q_mono (Q_bound h) (fun k hk=>⟨hk.1,by
  obtain ⟨_,_,_,q,hq,cells',hc⟩:=hk
  rintro rfl
  rw [hc] at hb
  injection hb with hb
  injection hb with _ hb
  exact ht q hq hb⟩)
theorem Q_lt (h:d.Q e w base ok v xs):∀k,v.ownBlock=some k→k<w.heap.size:=by
 obtain ⟨_,inner,ho,_⟩:=h
 exact q_lt ho
theorem Q_drop {A:Option Addr} {k n c:Nat} (h:d.Q e w base ok (.slice A n c) xs) (hk:k≤xs.length):d.Q e w base ok (.slice (if c=k then A else A.map (·.add (k*d.sz))) (n-k) (c-k)) (xs.drop k):=by
 have hn:n=xs.length:=(Q_reads' h).1
 subst hn
 obtain ⟨h0,inner,ho,hr⟩:=h
 have hb:(Value.slice (if c=k then A else A.map (·.add (k*d.sz))) (xs.length-k) (c-k)).ownBlock=(Value.slice A xs.length c).ownBlock:=by
  split
  ·cases A<;>rfl
  ·cases A with
   |none=>rfl
   |some a=>simp [Value.ownBlock];unfold Addr.add;split<;>rfl
 refine ⟨fun j hj=>h0 j (by rw [←hb];exact hj),inner.drop (k*d.sz),?_,?_⟩
 ·rw [List.length_drop]
  exact q_drop ho hk
 ·rw [hb]
  exact reps_drop hr
theorem Q_after {u v1:Value} {ys:List α} {e':Nat} (h:d.Q e' W base (fun k=>ok k∧some k≠v.ownBlock) u ys) (hg:W.grownBy w1 v.ownBlock) (hat:v1.ownBlock=v.ownBlock∨∃b,v1.ownBlock=some b∧W.heap.size≤b):d.Q e' w1 base (fun k=>ok k∧some k≠v1.ownBlock) u ys:=by
 refine Q_mono (Q_move (Q_bound h) (fun k hk=>hg.block k hk.2.2.1 hk.1.2)) (fun k hk=>⟨hk.1.1,?_⟩)
 rcases hat with hat|⟨b,hb,hle⟩
 ·rw [hat];exact hk.1.2
 ·rw [hb]
  intro he
  injection he with he
  have:=hk.2.2.1
  omega
end
end Kd
namespace Kd
section
variable {α:Type} {d:Kd α} {e e':Nat} {w w1 W:World} {base:Nat} {ok:Nat→Prop} {u v:Value} {xs:List α}
theorem R_new' (h:d.R e w1 W.heap.size ok v xs) (hlt:∀k,u.ownBlock=some k→k<W.heap.size):d.R e w1 W.heap.size (fun k=>ok k∧some k≠u.ownBlock) v xs:=
 R_mono (zQa h) (fun k hk=>⟨hk.1,fun he=>by have:=hlt k he.symm;have:=hk.2.1;omega⟩)
theorem fresh' (hlt:∀k,u.ownBlock=some k→k<W.heap.size):∀k,W.heap.size≤k→some k≠u.ownBlock:=fun k hk he=>by have:=hlt k he.symm;omega
end
end Kd
namespace Kd
end Kd
namespace Kd
end Kd
namespace Kd
end Kd
namespace Kd
section
variable {α:Type} {k:Kd α} {w:World} {A:Option Addr} {xs:List α} {m c:Nat}
theorem C_take (h:k.C w A xs.length xs) (hm:m≤xs.length):k.C w A (xs.take m).length (xs.take m):=by
 have hl:(xs.take m).length=m:=zq124
 refine ⟨rfl,by rw [hl];have:=h.2.1;omega,fun hp=> ?_⟩
 obtain ⟨ad,e,hc⟩:=h.2.2 zq11
 refine ⟨ad,e,fun j p hj=>hc j p ?_⟩
 rw [List.getElem?_take] at hj
 split at hj
 ·exact hj
 ·cases hj
end
end Kd
theorem zTa (a:Addr) (i:Nat):(a.add i).block=a.block:=by unfold Addr.add;split<;>rfl
namespace Kd
end Kd
namespace Kd
end Kd
section
variable {P:Program} {ops:Array Oper} {o:Oper} {a:Act} {Q:Exit→Act→World→Prop} {Kc:Act→World→Prop}
namespace Kd
variable {α:Type}
end Kd
end
namespace Kd
end Kd
end Go.Proofs.YtonhdiemjgdcnaaW.PrintWords
namespace Go.Proofs.YtonhdiemjgdcnaaW.PrintLast
end Go.Proofs.YtonhdiemjgdcnaaW.PrintLast
namespace Go.Proofs.YtonhdiemjgdcnaaW.PrintLast
open Go.Proofs.YtonhdiemjgdcnaaW.PrintWords (Z0)
end Go.Proofs.YtonhdiemjgdcnaaW.PrintLast
namespace Go.Proofs.YtonhdiemjgdcnaaW.PrintLast
end Go.Proofs.YtonhdiemjgdcnaaW.PrintLast
namespace Go.Proofs.YtonhdiemjgdcnaaW.PrintWords
open Go.RowKit
namespace Kd
end Kd
end Go.Proofs.YtonhdiemjgdcnaaW.PrintWords
namespace Go.Proofs.YtonhdiemjgdcnaaW.PrintWords
open Go.RowKit
namespace Kd
end Kd
end Go.Proofs.YtonhdiemjgdcnaaW.PrintWords
namespace Go.Proofs.YtonhdiemjgdcnaaW.PrintWords
open Go.RowKit
namespace Kd
end Kd
end Go.Proofs.YtonhdiemjgdcnaaW.PrintWords
namespace Go.Proofs.YtonhdiemjgdcnaaW.PrintWords
open Go.RowKit
namespace Kd
end Kd
end Go.Proofs.YtonhdiemjgdcnaaW.PrintWords
namespace Go.Proofs.YtonhdiemjgdcnaaW.PrintWords
open Go.RowKit
namespace Kd
end Kd
end Go.Proofs.YtonhdiemjgdcnaaW.PrintWords
namespace Go.Proofs.YtonhdiemjgdcnaaW.PrintWords
open Go.RowKit
namespace Foot
variable {P Q:World→Prop} {W W1:World} {ok ok':Nat→Prop}
end Foot
namespace Kd
end Kd
end Go.Proofs.YtonhdiemjgdcnaaW.PrintWords
namespace Go.Proofs.YtonhdiemjgdcnaaW.PrintWords
open Go.RowKit
namespace Kd
end Kd
end Go.Proofs.YtonhdiemjgdcnaaW.PrintWords
namespace Go.Proofs.YtonhdiemjgdcnaaW.PrintWords
open Go.RowKit
namespace Kd
end Kd
end Go.Proofs.YtonhdiemjgdcnaaW.PrintWords
namespace Go.Proofs.YtonhdiemjgdcnaaW.PrintWords
open Go.RowKit
namespace Kd
end Kd
end Go.Proofs.YtonhdiemjgdcnaaW.PrintWords
namespace Go.Proofs.YtonhdiemjgdcnaaW.PrintWords
open Go.RowKit
end Go.Proofs.YtonhdiemjgdcnaaW.PrintWords
namespace Go.Proofs.YtonhdiemjgdcnaaW.PrintLast
end Go.Proofs.YtonhdiemjgdcnaaW.PrintLast
namespace Go.Proofs.YtonhdiemjgdcnaaW.PrintWords
open Go.RowKit
end Go.Proofs.YtonhdiemjgdcnaaW.PrintWords
namespace Go.Proofs.YtonhdiemjgdcnaaW.PrintLast
end Go.Proofs.YtonhdiemjgdcnaaW.PrintLast
namespace Go.Proofs.YtonhdiemjgdcnaaW.PrintWords
open Go.RowKit
end Go.Proofs.YtonhdiemjgdcnaaW.PrintWords
namespace Go.Proofs.YtonhdiemjgdcnaaW.PrintWords
open Go.RowKit
namespace Kd
end Kd
end Go.Proofs.YtonhdiemjgdcnaaW.PrintWords
namespace Go.Proofs.YtonhdiemjgdcnaaW.PrintMore
open Go.RowKit Go.Proofs.YtonhdiemjgdcnaaW.PrintWords
namespace Kd
open Go.Proofs.YtonhdiemjgdcnaaW.PrintWords.Kd
end Kd
namespace Kd
open Go.Proofs.YtonhdiemjgdcnaaW.PrintWords.Kd
end Kd
end Go.Proofs.YtonhdiemjgdcnaaW.PrintMore
namespace Go.Proofs.YtonhdiemjgdcnaaW.PrintWords
open Go.RowKit
namespace Kd
end Kd
end Go.Proofs.YtonhdiemjgdcnaaW.PrintWords
namespace Go.Proofs.YtonhdiemjgdcnaaW.PrintWords
open Go.RowKit
namespace Kd
end Kd
end Go.Proofs.YtonhdiemjgdcnaaW.PrintWords
namespace Go.Proofs.Ytonhdiemjgdcnaa.Own
open Go.RowKit Go.Proofs.YtonhdiemjgdcnaaW.PrintWords Go.Proofs.YtonhdiemjgdcnaaW.PrintLast Go.Proofs.YtonhdiemjgdcnaaW.PrintMore
theorem Q_tightB {α:Type} {d:Kd α} (hE:d.E=[]) {e base:Nat} {w:World} {ok:Nat→Prop} {v:Value} {xs:List α} (h:d.Q e w base ok v xs):d.Q e w base (fun k=>some k=v.ownBlock) v xs∧(∀k,some k=v.ownBlock→base≤k∧k<w.heap.size)∧(∀k,some k=v.ownBlock→∃cells,w.heap[k]?=some (.cells cells e (0,0))):=by
 obtain ⟨h0,inner,ho,hr⟩:=id h
 exact ⟨Q_tight hE h,fun k hk=>⟨(q_typed ho k hk.symm).1,q_lt ho k hk.symm⟩,fun k hk=>(q_typed ho k hk.symm).2⟩
end Go.Proofs.Ytonhdiemjgdcnaa.Own
