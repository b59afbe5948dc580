import Derived.Test.YtonhdiemjgdcnaaGreatCA6
set_option maxHeartbeats 64000000
set_option maxRecDepth 100000
set_option linter.unusedVariables false
set_option linter.unusedSimpArgs false
namespace Go.Proofs.YtonhdiemjgdcnaaGreat.PFnExactGivePage
open Go.RowKit Go.Proofs.YtonhdiemjgdcnaaGreatW.PrintWords Go.Proofs.YtonhdiemjgdcnaaGreatW.PrintLast Go.Proofs.YtonhdiemjgdcnaaGreatW.PrintMore
attribute [local go_sem] zka zma zta zsa zaa zba zja zla
def impl_in.f (a0:Int) (a1:Int) (a2:Int):Option (Bool):=if a0≥a1 then (some (decide (a0≤a2))) else (some false)
theorem impl_in.calls (a0:Int) (a1:Int) (a2:Int) (r:Bool) (w:World) (h:impl_in.f a0 a1 a2=some r):
  Calls Tryz.prog 118 #[.int .i64 a0,.int .i64 a1,.int .i64 a2] w fun e w'=>e= .returned (.bool r)∧Drawn0 w w':=by
 have H:(if a0≥a1 then (some (decide (a0≤a2))) else (some false))=some r:=h
 clear h
 by_cases c4:a0≥a1
 ·rw [if_pos c4] at H
  have c4b0:decide (a1≤a0)=true:=decide_eq_true c4
  clear c4
  obtain rfl:=Option.some.inj H
  go_enter Tryz.func118,Tryz.ntmps118
  go_wp2
  go_ret
  exact ⟨by first|rfl|(simp;done)|(simp [*];done),by repeat (first|exact Drawn0.refl _|apply Drawn0.step)⟩
 ·rw [if_neg c4] at H
  have c4b0:decide (a1≤a0)=false:=decide_eq_false c4
  clear c4
  obtain rfl:=Option.some.inj H
  go_enter Tryz.func118,Tryz.ntmps118
  go_wp2
  go_ret
  exact ⟨by first|rfl|(simp;done)|(simp [*];done),by repeat (first|exact Drawn0.refl _|apply Drawn0.step)⟩
def impl_isPage.f (l0_0:List ByteArray) (l0_1:List (S110)) (a1:Int):Option (Bool):=(impl_in.f a1 0 (wrap64 ((l0_0.length:Int)-1))).bind fun t470=>(some t470)
theorem impl_isPage.calls (A0_0:Option Addr) (c0_0:Nat) (l0_0:List ByteArray) (A0_1:Option Addr) (c0_1:Nat) (l0_1:List (S110)) (a1:Int) (r:Bool) (w:World) (hr0_0:Kd.C Kd.string w A0_0 l0_0.length l0_0) (hc0_0:l0_0.length≤c0_0) (hr0_1:Kd.C k110 w A0_1 l0_1.length l0_1) (hc0_1:l0_1.length≤c0_1) (h:impl_isPage.f l0_0 l0_1 a1=some r):
  Calls Tryz.prog 86 #[.agg #[.slice A0_0 l0_0.length c0_0,.slice A0_1 l0_1.length c0_1],.int .i64 a1] w fun e w'=>e= .returned (.bool r)∧Below w.heap.size w w':=by
 have hu32:=Tryz.underlying37
 have HR0_0:=zz hr0_0
 have HC0_0:=zz hc0_0
 clear hr0_0 hc0_0
 have HR0_1:=zz hr0_1
 have HC0_1:=zz hc0_1
 clear hr0_1 hc0_1
 have HB:=zz (Below.refl w.heap.size w)
 have H:((impl_in.f a1 0 (wrap64 ((l0_0.length:Int)-1))).bind fun t470=>(some t470))=some r:=h
 clear h
 replace H:=Option.bind_eq_some_iff.mp H
 obtain ⟨t470,A30,H⟩:=H
 replace H:(some t470)=some r:=H
 have A3:=zz A30
 clear A30
 obtain rfl:=Option.some.inj H
 go_enter Tryz.func86,Tryz.ntmps86
 go_wp2_with (first|((with_reducible refine zn (N:=2) rfl ?_);refine zF ?hg (N:=2) ?hd (cs:= #[.slice A0_0 l0_0.length c0_0,.slice A0_1 l0_1.length c0_1]) (t:=37) ?hr ?_;(case hd=>rfl);(case hg=>rfl);(case hr=>first|(go_simp;done)|(go_simp;rfl));intro gb469 hg w4 hbox hb;have n0_:=zz (zh zq1 hb);have n1_:=zz (hbox);have n2_:=zz ((by rw [hg];exact (zi zq1):w.heap.size≤gb469));have n3_:=zz ((by rw [hg];exact (zi zq1):w.heap.size≤gb469));clear HB;have HB:=n0_;have BK469:=n1_;have GW469:=n2_;have GE469:=n3_;clear n0_ n1_ n2_ n3_;clear hb hbox hg;have hcz5_0:w4.cell? ⟨gb469,0,none⟩=some (.slice A0_0 l0_0.length c0_0):=(zd BK469.out 0).trans rfl;have hcz5_1:w4.cell? ⟨gb469,1,none⟩=some (.slice A0_1 l0_1.length c0_1):=(zd BK469.out 1).trans rfl;have hfz5_0:=ze BK469.out 0;have hfz5_1:=ze BK469.out 1)|((with_reducible refine zB (f:=118) rfl ?_);refine zR (some 10) rfl rfl Tryz.func118 zq7 rfl #[.int .i64 a1,.int .i64 0,.int .i64 (wrap64 ((l0_0.length:Int)-1))] rfl zq4 ?_;(with_reducible refine (impl_in.calls a1 0 (wrap64 ((l0_0.length:Int)-1)) t470 _ A3.out).mono ?_);rintro e w' ⟨rfl,⟨nd,rfl⟩⟩;refine ⟨_,rfl,?_⟩))
 go_ret
 exact ⟨by first|rfl|(simp [zw,zv]<;>rfl)|(simp [*,zw,zv]<;>rfl),by repeat (first|(with_reducible first|exact HB.out|apply zf|apply zg|apply zj|refine zx ?_ GE469.out)|exact HB.out)⟩
def impl_SyncDisk.l0:Nat→List (S110)→Int→Int→List ByteArray→List (S110)→List ByteArray→List (S110)→Option (List ByteArray×(List (S110)))
 |0,_,_,_,_,_,_,_=>none
 |k+1,x9,x10,x11,x472000,x472001,x480000,x480001=>if x11<x10 then (if 0≤x11 then (if x11<(x9.length:Int) then ((impl_isPage.f x472000 x472001 ((zy x9 x11).f0)).bind fun t482=>(if t482=true then (if 0≤((zy x9 x11).f0) then (if ((zy x9 x11).f0)<(x480000.length:Int) then (impl_SyncDisk.l0 k x9 x10 (wrap64 (x11+1)) x472000 x472001 (x480000.set (((zy x9 x11).f0):Int).toNat ((zy x9 x11).f1)) x480001) else (none)) else (none)) else (impl_SyncDisk.l0 k x9 x10 (wrap64 (x11+1)) x472000 x472001 x480000 x480001))) else (none)) else (none)) else (some (x480000,([]:List (S110))))
def impl_SyncDisk.f (k:Nat) (l0_0:List ByteArray) (l0_1:List (S110)):Option (List ByteArray×(List (S110))):=(impl_cloneDisk.f l0_0 l0_1).bind fun bt473=>(impl_SyncDisk.l0 k l0_1 (l0_1.length:Int) 0 l0_0 l0_1 bt473.1 bt473.2)
theorem impl_SyncDisk.calls (k:Nat) (A0_0:Option Addr) (c0_0:Nat) (l0_0:List ByteArray) (A0_1:Option Addr) (c0_1:Nat) (l0_1:List (S110)) (r1:List ByteArray) (r2:List (S110)) (w:World) (hr0_0:Kd.C Kd.string w A0_0 l0_0.length l0_0) (hc0_0:l0_0.length≤c0_0) (hr0_1:Kd.C k110 w A0_1 l0_1.length l0_1) (hc0_1:l0_1.length≤c0_1) (h:impl_SyncDisk.f k l0_0 l0_1=some (r1,r2)):
  Calls Tryz.prog 43 #[.agg #[.slice A0_0 l0_0.length c0_0,.slice A0_1 l0_1.length c0_1]] w fun e w'=>∃v0_ v1_:Value,e= .returned (.agg #[v0_,v1_])∧Kd.R Kd.string 9 w' w.heap.size (fun _=>True) v0_ r1∧Kd.R k110 110 w' w.heap.size (fun _=>True) v1_ r2∧Below w.heap.size w w':=by
 have hu32:=Tryz.underlying37
 have hu135:=Tryz.underlying110
 have HR0_0:=zz hr0_0
 have HC0_0:=zz hc0_0
 clear hr0_0 hc0_0
 have HR0_1:=zz hr0_1
 have HC0_1:=zz hc0_1
 clear hr0_1 hc0_1
 have HB:=zz (Below.refl w.heap.size w)
 have H:((impl_cloneDisk.f l0_0 l0_1).bind fun bt473=>(impl_SyncDisk.l0 k l0_1 (l0_1.length:Int) 0 l0_0 l0_1 bt473.1 bt473.2))=some (r1,r2):=h
 clear h
 replace H:=Option.bind_eq_some_iff.mp H
 obtain ⟨⟨t473,t476⟩,A20,H⟩:=H
 replace H:(impl_SyncDisk.l0 k l0_1 (l0_1.length:Int) 0 l0_0 l0_1 t473 t476)=some (r1,r2):=H
 have A2:=zz A20
 clear A20
 have H':=zz H
 clear H
 go_enter Tryz.func43,Tryz.ntmps43
 go_wp2_with (first|((with_reducible refine zn (N:=1) rfl ?_);refine zF ?hg (N:=1) ?hd (cs:= #[.slice A0_0 l0_0.length c0_0,.slice A0_1 l0_1.length c0_1]) (t:=37) ?hr ?_;(case hd=>rfl);(case hg=>rfl);(case hr=>first|(go_simp;done)|(go_simp;rfl));intro gb471 hg w3 hbox hb;have n0_:=zz (zh zq1 hb);have n1_:=zz (hbox);have n2_:=zz ((by rw [hg];exact (zi zq1):w.heap.size≤gb471));have n3_:=zz ((by rw [hg];exact (zi zq1):w.heap.size≤gb471));clear HB;have HB:=n0_;have BK471:=n1_;have GW471:=n2_;have GE471:=n3_;clear n0_ n1_ n2_ n3_;clear hb hbox hg)|((with_reducible refine zn (N:=2) rfl ?_);refine zF ?hg (N:=2) ?hd (cs:= #[.slice none 0 0,.slice none 0 0]) (t:=37) ?hr ?_;(case hd=>rfl);(case hg=>rfl);(case hr=>first|(go_simp;done)|(go_simp;rfl));intro gb472 hg w4 hbox hb;have n0_:=zz (zo (g:=gb471) (o:= .cells #[.slice A0_0 l0_0.length c0_0,.slice A0_1 l0_1.length c0_1] 37 (0,0)) (zq0 BK471.out) hb);have n1_:=zz (zh (zq3 GE471.out) hb);have n2_:=zz (hbox);have n3_:=zz ((by rw [hg];exact (zi (zq3 GE471.out)):w.heap.size≤gb472));have n4_:=zz ((by rw [hg];exact (zi (zq3 GE471.out)):w.heap.size≤gb472));have n5_:=zz ((by rw [hg];exact Nat.ne_of_lt (zI (g:=gb471) (o:= .cells #[.slice A0_0 l0_0.length c0_0,.slice A0_1 l0_1.length c0_1] 37 (0,0)) (zq0 BK471.out)):gb471≠gb472));have n6_:=zz ((by rw [hg];exact Nat.ne_of_gt (zI (g:=gb471) (o:= .cells #[.slice A0_0 l0_0.length c0_0,.slice A0_1 l0_1.length c0_1] 37 (0,0)) (zq0 BK471.out)):gb472≠gb471));clear BK471;clear HB;have BK471:=n0_;have HB:=n1_;have BK472:=n2_;have GW472:=n3_;have GE472:=n4_;have NB471_472:=n5_;have NB472_471:=n6_;clear n0_ n1_ n2_ n3_ n4_ n5_ n6_;clear hb hbox hg;have hnb5:=NB471_472.out;have hnc5:=NB472_471.out;have hcz6_0:w4.cell? ⟨gb471,0,none⟩=some (.slice A0_0 l0_0.length c0_0):=(zd BK471.out 0).trans rfl;have hcz6_1:w4.cell? ⟨gb471,1,none⟩=some (.slice A0_1 l0_1.length c0_1):=(zd BK471.out 1).trans rfl;have hfz6_0:=ze BK471.out 0;have hfz6_1:=ze BK471.out 1)|((with_reducible refine zB (f:=46) rfl ?_);refine zR (some 7) rfl rfl Tryz.func46 zq7 rfl #[.agg #[.slice A0_0 l0_0.length c0_0,.slice A0_1 l0_1.length c0_1]] rfl zq4 ?_;(with_reducible refine (impl_cloneDisk.calls _ _ l0_0 _ _ l0_1 t473 t476 _ ?side1 ?side2 ?side3 ?side4 A2.out).mono ?_);(case side1=>repeat (first|exact (Kd.C_below HR0_0.out HB.out)|(with_reducible refine Kd.C_alloc ?_ _)|(with_reducible refine Kd.C_drewN ?_ _)|(with_reducible refine Kd.C_drew ?_)));(case side2=>exact HC0_0.out);(case side3=>repeat (first|exact (Kd.C_below HR0_1.out HB.out)|(with_reducible refine Kd.C_alloc ?_ _)|(with_reducible refine Kd.C_drewN ?_ _)|(with_reducible refine Kd.C_drew ?_)));(case side4=>exact HC0_1.out);rintro e w7 ⟨v474,v477,rfl,ho0,ho1,hb⟩;refine ⟨_,rfl,?_⟩;(first|have rs_v474:=zZ (P:=Tryz.prog) ho0|have rs_v474:=zZ (P:=Tryz.prog) (Kd.S_R ho0)|skip);(first|have rs_v477:=zZ (P:=Tryz.prog) ho1|have rs_v477:=zZ (P:=Tryz.prog) (Kd.S_R ho1)|skip);have n0_:=zz (Kd.R_lower ho0 (zi (zq2 GE471.out GE472.out)));have n1_:=zz (Kd.R_lower ho1 (zi (zq2 GE471.out GE472.out)));have n2_:=zz (zo (g:=gb471) (o:= .cells #[.slice A0_0 l0_0.length c0_0,.slice A0_1 l0_1.length c0_1] 37 (0,0)) (zq0 BK471.out) hb);have n3_:=zz (zo (g:=gb472) (o:= .cells #[.slice none 0 0,.slice none 0 0] 37 (0,0)) (zq0 BK472.out) hb);have n4_:=zz (zh (zq2 GE471.out GE472.out) hb);clear BK471;clear BK472;clear HB;have HO475:=n0_;have HO478:=n1_;have BK471:=n2_;have BK472:=n3_;have HB:=n4_;clear n0_ n1_ n2_ n3_ n4_;(try clear hb);(try clear hb2);(try clear hk);(try clear hi);(try clear ho0);(try clear ho1))|((with_reducible refine zn (N:=3) rfl ?_);refine zF ?hg (N:=3) ?hd (cs:= #[.slice none 0 0,.slice none 0 0]) (t:=37) ?hr ?_;(case hd=>rfl);(case hg=>rfl);(case hr=>first|(go_simp;done)|(go_simp;rfl));intro gb479 hg w8 hbox hb;have n0_:=zz (Kd.R_below (zq11 HO475.out) hb);have n1_:=zz (Kd.R_below (zq11 HO478.out) hb);have n2_:=zz (zo (g:=gb471) (o:= .cells #[.slice A0_0 l0_0.length c0_0,.slice A0_1 l0_1.length c0_1] 37 (0,0)) (zq0 BK471.out) hb);have n3_:=zz (zo (g:=gb472) (o:= .cells #[.slice none 0 0,.slice none 0 0] 37 (0,0)) (zq0 BK472.out) hb);have n4_:=zz (zh (zq2 GE471.out GE472.out) hb);have n5_:=zz (hbox);have n6_:=zz ((by rw [hg];exact (zi (zq2 GE471.out GE472.out)):w.heap.size≤gb479));have n7_:=zz ((by rw [hg];exact (zi (zq2 GE471.out GE472.out)):w.heap.size≤gb479));have n8_:=zz ((by rw [hg];exact Nat.ne_of_lt (zI (g:=gb471) (o:= .cells #[.slice A0_0 l0_0.length c0_0,.slice A0_1 l0_1.length c0_1] 37 (0,0)) (zq0 BK471.out)):gb471≠gb479));have n9_:=zz ((by rw [hg];exact Nat.ne_of_gt (zI (g:=gb471) (o:= .cells #[.slice A0_0 l0_0.length c0_0,.slice A0_1 l0_1.length c0_1] 37 (0,0)) (zq0 BK471.out)):gb479≠gb471));have n10_:=zz ((by rw [hg];exact Nat.ne_of_lt (zI (g:=gb472) (o:= .cells #[.slice none 0 0,.slice none 0 0] 37 (0,0)) (zq0 BK472.out)):gb472≠gb479));have n11_:=zz ((by rw [hg];exact Nat.ne_of_gt (zI (g:=gb472) (o:= .cells #[.slice none 0 0,.slice none 0 0] 37 (0,0)) (zq0 BK472.out)):gb479≠gb472));clear HO475;clear HO478;clear BK471;clear BK472;clear HB;have HO475:=n0_;have HO478:=n1_;have BK471:=n2_;have BK472:=n3_;have HB:=n4_;have BK479:=n5_;have GW479:=n6_;have GE479:=n7_;have NB471_479:=n8_;have NB479_471:=n9_;have NB472_479:=n10_;have NB479_472:=n11_;clear n0_ n1_ n2_ n3_ n4_ n5_ n6_ n7_ n8_ n9_ n10_ n11_;clear hb hbox hg;obtain ⟨Ao9,co9,eo9⟩:=Kd.R_slice HO475.out;subst eo9;have hnb10:=NB479_471.out;have hnc10:=NB471_479.out;have hnb11:=NB479_472.out;have hnc11:=NB472_479.out;have hcz12_0:w8.cell? ⟨gb479,0,none⟩=some (.slice none 0 0):=(zd BK479.out 0).trans rfl;have hcz12_1:w8.cell? ⟨gb479,1,none⟩=some (.slice none 0 0):=(zd BK479.out 1).trans rfl;have hfz12_0:=ze BK479.out 0;have hfz12_1:=ze BK479.out 1;obtain ⟨Ao13,co13,eo13⟩:=Kd.R_slice HO478.out;subst eo13;have hcz14_0:w8.cell? ⟨gb471,0,none⟩=some (.slice A0_0 l0_0.length c0_0):=(zd BK471.out 0).trans rfl;have hcz14_1:w8.cell? ⟨gb471,1,none⟩=some (.slice A0_1 l0_1.length c0_1):=(zd BK471.out 1).trans rfl;have hfz14_0:=ze BK471.out 0;have hfz14_1:=ze BK471.out 1))
 go_loopg [11] k (fun kq v11 w'=>∃(x11_1:Int) (x480000_1:List ByteArray) (u480000:Value),v11= .int .i64 x11_1∧Z0 (impl_SyncDisk.l0 kq l0_1 (l0_1.length:Int) x11_1 l0_0 l0_1 x480000_1 t476=some (r1,r2))∧Z0 (kq≤k)∧Z0 (Kd.R Kd.string 9 w' w.heap.size (fun _=>True) u480000 x480000_1)∧Z0 (Kd.R k110 110 w' w.heap.size (fun _=>True) (.slice Ao13 t476.length co13) t476)∧Z0 (w'.heap[gb471]?=some (.cells #[(.slice A0_0 l0_0.length c0_0),(.slice A0_1 l0_1.length c0_1)] 37 (0,0)))∧Z0 (w'.heap[gb472]?=some (.cells #[(.slice none 0 0),(.slice none 0 0)] 37 (0,0)))∧Z0 (w'.heap[gb479]?=some (.cells #[u480000,(.slice Ao13 t476.length co13)] 37 (0,0)))∧Z0 (Below w.heap.size w w'))
 case atStart=>exact ⟨(0),(t473),(.slice Ao9 t473.length co9),zq12,H',⟨Nat.le_refl _⟩,⟨by (with_reducible repeat (first|apply Kd.R_alloc|apply Kd.R_drewN|apply Kd.R_drew));exact Kd.R_mono (Kd.R_far (p:=⟨gb479,1,none⟩) (Kd.R_far (p:=⟨gb479,0,none⟩) (Kd.R_types HO475.out BK479.out zq14) (fun _ hk=>hk.2) (.slice Ao9 t473.length co9)) (fun _ hk=>hk.2) (.slice Ao13 t476.length co13)) (fun _ hk=>trivial)⟩,⟨by (with_reducible repeat (first|apply Kd.R_alloc|apply Kd.R_drewN|apply Kd.R_drew));exact Kd.R_mono (Kd.R_far (p:=⟨gb479,1,none⟩) (Kd.R_far (p:=⟨gb479,0,none⟩) (Kd.R_types HO478.out BK479.out zq14) (fun _ hk=>hk.2) (.slice Ao9 t473.length co9)) (fun _ hk=>hk.2) (.slice Ao13 t476.length co13)) (fun _ hk=>trivial)⟩,⟨by (with_reducible repeat (first|refine zm ?_ _|refine zu ?_|refine zl ?_ _));refine zQ ?_ NB471_479.out _;(with_reducible repeat (first|refine zm ?_ _|refine zu ?_|refine zl ?_ _));refine zQ ?_ NB471_479.out _;(with_reducible repeat (first|refine zm ?_ _|refine zu ?_|refine zl ?_ _));exact BK471.out⟩,⟨by (with_reducible repeat (first|refine zm ?_ _|refine zu ?_|refine zl ?_ _));refine zQ ?_ NB472_479.out _;(with_reducible repeat (first|refine zm ?_ _|refine zu ?_|refine zl ?_ _));refine zQ ?_ NB472_479.out _;(with_reducible repeat (first|refine zm ?_ _|refine zu ?_|refine zl ?_ _));exact BK472.out⟩,⟨by (with_reducible repeat (first|refine zm ?_ _|refine zu ?_|refine zl ?_ _));refine zT (cs:= #[.slice Ao9 t473.length co9,.slice none 0 0]) ?_ 1 _ rfl;(with_reducible repeat (first|refine zm ?_ _|refine zu ?_|refine zl ?_ _));refine zT (cs:= #[.slice none 0 0,.slice none 0 0]) ?_ 0 _ rfl;(with_reducible repeat (first|refine zm ?_ _|refine zu ?_|refine zl ?_ _));exact BK479.out⟩,⟨by repeat (first|(with_reducible first|exact HB.out|apply zf|apply zg|apply zj|refine zx ?_ GE471.out|refine zx ?_ GE472.out|refine zx ?_ GE479.out)|exact HB.out)⟩⟩
 case round=>
  clear H'
  try clear hcz12_0
  try clear hcz12_1
  try clear hcz14_0
  try clear hcz14_1
  try clear hcz6_0
  try clear hcz6_1
  try clear hfz12_0
  try clear hfz12_1
  try clear hfz14_0
  try clear hfz14_1
  try clear hfz6_0
  try clear hfz6_1
  obtain ⟨x11_1,x480000_1,u480000,rfl,HA,HK1,HO_480000,HO_480001,BK471,BK472,BK479,HB⟩:=hrel
  cases gk with
  |zero=>exact absurd HA.out (by simp [impl_SyncDisk.l0])
  |succ k1=>
   have H:=HA.out
   clear HA
   simp only [impl_SyncDisk.l0] at H
   by_cases c15:x11_1<(l0_1.length:Int)
   ·rw [if_pos c15] at H
    have c15b0:decide (x11_1<(l0_1.length:Int))=true:=decide_eq_true c15
    clear c15
    by_cases c16:0≤x11_1
    ·rw [if_pos c16] at H
     have c16b0:decide (0≤x11_1)=true:=decide_eq_true c16
     clear c16
     by_cases c17:x11_1<(l0_1.length:Int)
     ·rw [if_pos c17] at H
      have c17b0:decide (x11_1<(l0_1.length:Int))=true:=decide_eq_true c17
      clear c17
      replace H:=Option.bind_eq_some_iff.mp H
      obtain ⟨t482,A180,H⟩:=H
      replace H:(if t482=true then (if 0≤((zy l0_1 x11_1).f0) then (if ((zy l0_1 x11_1).f0)<(x480000_1.length:Int) then (impl_SyncDisk.l0 k1 l0_1 (l0_1.length:Int) (wrap64 (x11_1+1)) l0_0 l0_1 (x480000_1.set (((zy l0_1 x11_1).f0):Int).toNat ((zy l0_1 x11_1).f1)) t476) else (none)) else (none)) else (impl_SyncDisk.l0 k1 l0_1 (l0_1.length:Int) (wrap64 (x11_1+1)) l0_0 l0_1 x480000_1 t476))=some (r1,r2):=H
      have A18:=zz A180
      clear A180
      by_cases c19:t482=true
      ·subst c19
       have H1:(if 0≤((zy l0_1 x11_1).f0) then (if ((zy l0_1 x11_1).f0)<(x480000_1.length:Int) then (impl_SyncDisk.l0 k1 l0_1 (l0_1.length:Int) (wrap64 (x11_1+1)) l0_0 l0_1 (x480000_1.set (((zy l0_1 x11_1).f0):Int).toNat ((zy l0_1 x11_1).f1)) t476) else (none)) else (none))=some (r1,r2):=by rw [if_pos rfl] at H;exact H
       clear H
       have H:=H1
       clear H1
       by_cases c20:0≤((zy l0_1 x11_1).f0)
       ·rw [if_pos c20] at H
        have c20b0:decide (0≤((zy l0_1 x11_1).f0))=true:=decide_eq_true c20
        clear c20
        by_cases c21:((zy l0_1 x11_1).f0)<(x480000_1.length:Int)
        ·rw [if_pos c21] at H
         have c21b0:decide (((zy l0_1 x11_1).f0)<(x480000_1.length:Int))=true:=decide_eq_true c21
         clear c21
         obtain ⟨y483,hy483⟩:∃y_:List ByteArray,y_=(x480000_1.set (((zy l0_1 x11_1).f0):Int).toNat ((zy l0_1 x11_1).f1)):=⟨_,rfl⟩
         replace H:(impl_SyncDisk.l0 k1 l0_1 (l0_1.length:Int) (wrap64 (x11_1+1)) l0_0 l0_1 y483 t476)=some (r1,r2):=by first|(rw [hy483];with_reducible exact H)|(have H2_:=(Option.bind_some _ _).symm.trans H;rw [hy483];with_reducible exact H2_)|(have H2_:=(Option.bind_some _ _).symm.trans H;with_reducible exact H2_)|with_reducible exact H|(rw [hy483];exact H)|exact H
         have Ny483:=zz hy483
         clear hy483
         have H':=zz H
         clear H
         have p480:0≤(x11_1:Int):=of_decide_eq_true zq13
         have q480:x11_1<(l0_1.length:Int):=of_decide_eq_true zq13
         obtain ⟨ad480,e480,hx480_0,hx480_1⟩:=zza HR0_1.out x11_1 p480 q480
         cases e480
         replace hx480_0:=(HB.out.cell (World.block_lt_of_cell? w _ hx480_0)).trans hx480_0
         replace hx480_1:=(HB.out.cell (World.block_lt_of_cell? w _ hx480_1)).trans hx480_1
         replace p480:=eq_true p480
         replace q480:=eq_true q480
         go_wp2_with (first|((with_reducible refine zn (N:=5) rfl ?_);refine zF ?hg (N:=5) ?hd (cs:= #[.int .i64 0,.string (⟨#[]⟩:ByteArray)]) (t:=110) ?hr ?_;(case hd=>rfl);(case hg=>rfl);(case hr=>first|(go_simp;done)|(go_simp;rfl));intro gb481 hg w23 hbox hb;have n0_:=zz (Kd.R_below (zq11 HO_480000.out) hb);have n1_:=zz (Kd.R_below (Kd.R_elderB (zq11 HO_480001.out) gb481 (Nat.le_of_eq hg.symm)) hb);have n2_:=zz (zo (g:=gb471) (o:= .cells #[.slice A0_0 l0_0.length c0_0,.slice (some ad480) l0_1.length c0_1] 37 (0,0)) (zq0 BK471.out) hb);have n3_:=zz (zo (g:=gb472) (o:= .cells #[.slice none 0 0,.slice none 0 0] 37 (0,0)) (zq0 BK472.out) hb);have n4_:=zz (zo (g:=gb479) (o:= .cells #[u480000,.slice Ao13 t476.length co13] 37 (0,0)) (zq0 BK479.out) hb);have n5_:=zz (zh (zq9 GE471.out GE472.out GE479.out) hb);have n6_:=zz (hbox);have n7_:=zz ((by rw [hg];exact (zi (zq9 GE471.out GE472.out GE479.out)):w.heap.size≤gb481));have n8_:=zz ((by rw [hg];exact (zi (zq9 GE471.out GE472.out GE479.out)):w.heap.size≤gb481));have n9_:=zz ((by rw [hg];exact Nat.ne_of_lt (zI (g:=gb471) (o:= .cells #[.slice A0_0 l0_0.length c0_0,.slice (some ad480) l0_1.length c0_1] 37 (0,0)) (zq0 BK471.out)):gb471≠gb481));have n10_:=zz ((by rw [hg];exact Nat.ne_of_gt (zI (g:=gb471) (o:= .cells #[.slice A0_0 l0_0.length c0_0,.slice (some ad480) l0_1.length c0_1] 37 (0,0)) (zq0 BK471.out)):gb481≠gb471));have n11_:=zz ((by rw [hg];exact Nat.ne_of_lt (zI (g:=gb472) (o:= .cells #[.slice none 0 0,.slice none 0 0] 37 (0,0)) (zq0 BK472.out)):gb472≠gb481));have n12_:=zz ((by rw [hg];exact Nat.ne_of_gt (zI (g:=gb472) (o:= .cells #[.slice none 0 0,.slice none 0 0] 37 (0,0)) (zq0 BK472.out)):gb481≠gb472));have n13_:=zz ((by rw [hg];exact Nat.ne_of_lt (zI (g:=gb479) (o:= .cells #[u480000,.slice Ao13 t476.length co13] 37 (0,0)) (zq0 BK479.out)):gb479≠gb481));have n14_:=zz ((by rw [hg];exact Nat.ne_of_gt (zI (g:=gb479) (o:= .cells #[u480000,.slice Ao13 t476.length co13] 37 (0,0)) (zq0 BK479.out)):gb481≠gb479));clear HO_480000;clear HO_480001;clear BK471;clear BK472;clear BK479;clear HB;have HO_480000:=n0_;have HO_480001:=n1_;have BK471:=n2_;have BK472:=n3_;have BK479:=n4_;have HB:=n5_;have BK481:=n6_;have GW481:=n7_;have GE481:=n8_;have NB471_481:=n9_;have NB481_471:=n10_;have NB472_481:=n11_;have NB481_472:=n12_;have NB479_481:=n13_;have NB481_479:=n14_;clear n0_ n1_ n2_ n3_ n4_ n5_ n6_ n7_ n8_ n9_ n10_ n11_ n12_ n13_ n14_;clear hb hbox hg;have hnb24:=NB481_471.out;have hnc24:=NB471_481.out;have hnb25:=NB481_472.out;have hnc25:=NB472_481.out;have hnb26:=NB481_479.out;have hnc26:=NB479_481.out;have hcz27_0:w23.cell? ⟨gb481,0,none⟩=some (.int .i64 0):=(zd BK481.out 0).trans rfl;have hcz27_1:w23.cell? ⟨gb481,1,none⟩=some (.string (⟨#[]⟩:ByteArray)):=(zd BK481.out 1).trans rfl;have hfz27_0:=ze BK481.out 0;have hfz27_1:=ze BK481.out 1;have hnb28:=NB471_472.out;have hnc28:=NB472_471.out;have hnb29:=NB471_479.out;have hnc29:=NB479_471.out;have hcz30_0:w23.cell? ⟨gb471,0,none⟩=some (.slice A0_0 l0_0.length c0_0):=(zd BK471.out 0).trans rfl;have hcz30_1:w23.cell? ⟨gb471,1,none⟩=some (.slice (some ad480) l0_1.length c0_1):=(zd BK471.out 1).trans rfl;have hfz30_0:=ze BK471.out 0;have hfz30_1:=ze BK471.out 1)|((with_reducible refine zB (f:=86) rfl ?_);refine zR (some 18) rfl rfl Tryz.func86 zq7 rfl #[.agg #[.slice A0_0 l0_0.length c0_0,.slice (some ad480) l0_1.length c0_1],.int .i64 ((zy l0_1 x11_1).f0)] rfl zq4 ?_;(with_reducible refine (impl_isPage.calls _ _ l0_0 _ _ l0_1 ((zy l0_1 x11_1).f0) true _ ?side1 ?side2 ?side3 ?side4 A18.out).mono ?_);(case side1=>exact Kd.C_below HR0_0.out (zq18 GE471.out GE472.out GE479.out GE481.out));(case side2=>exact HC0_0.out);(case side3=>exact Kd.C_below HR0_1.out (zq18 GE471.out GE472.out GE479.out GE481.out));(case side4=>exact HC0_1.out);rintro e w31 ⟨rfl,hb⟩;refine ⟨_,rfl,?_⟩;have n0_:=zz (Kd.R_below (zq27 HO_480000.out BK481.out) hb);have n1_:=zz (Kd.R_below (zq26 HO_480001.out) hb);have n2_:=zz (zo (g:=gb471) (o:= .cells #[.slice A0_0 l0_0.length c0_0,.slice (some ad480) l0_1.length c0_1] 37 (0,0)) (zq23 BK471.out) hb);have n3_:=zz (zo (g:=gb472) (o:= .cells #[.slice none 0 0,.slice none 0 0] 37 (0,0)) (zq24 BK472.out) hb);have n4_:=zz (zo (g:=gb479) (o:= .cells #[u480000,.slice Ao13 t476.length co13] 37 (0,0)) (zq25 BK479.out) hb);have n5_:=zz (zo (g:=gb481) (o:= .cells #[.int .i64 ((zy l0_1 x11_1).f0),.string ((zy l0_1 x11_1).f1)] 110 (0,0)) (zq20 BK481.out) hb);have n6_:=zz (zh (zq18 GE471.out GE472.out GE479.out GE481.out) hb);clear HO_480000;clear HO_480001;clear BK471;clear BK472;clear BK479;clear BK481;clear HB;have HO_480000:=n0_;have HO_480001:=n1_;have BK471:=n2_;have BK472:=n3_;have BK479:=n4_;have BK481:=n5_;have HB:=n6_;clear n0_ n1_ n2_ n3_ n4_ n5_ n6_;(try clear hb);(try clear hb2);(try clear hk);(try clear hi);have hnb32:=NB479_472.out;have hnc32:=NB472_479.out;have hcz33_0:w31.cell? ⟨gb479,0,none⟩=some (u480000):=(zd BK479.out 0).trans rfl;have hcz33_1:w31.cell? ⟨gb479,1,none⟩=some (.slice Ao13 t476.length co13):=(zd BK479.out 1).trans rfl;have hfz33_0:=ze BK479.out 0;have hfz33_1:=ze BK479.out 1;have hcz34_0:w31.cell? ⟨gb481,0,none⟩=some (.int .i64 ((zy l0_1 x11_1).f0)):=(zd BK481.out 0).trans rfl;have hcz34_1:w31.cell? ⟨gb481,1,none⟩=some (.string ((zy l0_1 x11_1).f1)):=(zd BK481.out 1).trans rfl;have hfz34_0:=ze BK481.out 0;have hfz34_1:=ze BK481.out 1;have p22:0≤(((zy l0_1 x11_1).f0):Int):=of_decide_eq_true zq13;have q22:(((zy l0_1 x11_1).f0):Int)<((x480000_1.length:Int):Int):=of_decide_eq_true zq13;obtain ⟨go22,co22,eo22,gb22,gl22,cl22,HG22⟩:=Kd.R_form HO_480000.out zq5;(first|cases eo22|(injection eo22 with ea_ en_ ec_;(first|subst ea_|(injection ea_ with ea_;subst ea_));subst ec_;clear en_));have GB22:=zz gb22;have GG22:=zz HG22;clear gb22 gl22 HG22;obtain ⟨hx22_0,hf22_0⟩:=Kd.R_celln (⟨#[]⟩:ByteArray) HO_480000.out (((zy l0_1 x11_1).f0):Int) p22 q22;replace p22:=eq_true p22;replace q22:=eq_true q22;obtain ⟨hy35_,hz35_⟩:=Kd.R_celln (⟨#[]⟩:ByteArray) HO_480000.out (((zy l0_1 x11_1).f0):Int) (of_decide_eq_true zq13) (of_decide_eq_true zq13);have HP35:=Kd.R_putg HO_480000.out (((zy l0_1 x11_1).f0):Int) ((zy l0_1 x11_1).f1))|((with_reducible refine zE (t:=9) (p:=25) rfl ?_);refine zwa (t:=9) (p:=25) (v:= ?vo_w36) (w1:=(w31.setCell ⟨go22,(((zy l0_1 x11_1).f0):Int).toNat,none⟩ (.string ((zy l0_1 x11_1).f1)))) ?hg ?ho ?hn ?hr ?_;(case ho=>rfl);(case hg=>rfl);(case hn=>rfl);(case hr=>first|(go_simp;done)|(go_simp;rfl));intro w36 hw;have hg:w31.grownBy w36 (some go22):=(by rw [hw];exact HP35.2);have hp_:Kd.R Kd.string 9 w36 w.heap.size (fun _=>True) (.slice (some ⟨go22,0,none⟩) x480000_1.length co22) y483:=(by rw [hw,Ny483.out];exact HP35.1);clear HP35;have n0_:=zz (hp_);have n1_:=zz (Kd.R_over' (v:=(.slice (some ⟨go22,0,none⟩) x480000_1.length co22)) (zq11 HO_480001.out) (Kd.R_typed HO_480000.out) zq14 hg);have n2_:=zz (zO (g:=gb471) (o:= .cells #[.slice A0_0 l0_0.length c0_0,.slice (some ad480) l0_1.length c0_1] 37 (0,0)) (zq0 BK471.out) hg (Kd.R_ne HO_480000.out BK471.out zq14));have n3_:=zz (zO (g:=gb472) (o:= .cells #[.slice none 0 0,.slice none 0 0] 37 (0,0)) (zq0 BK472.out) hg (Kd.R_ne HO_480000.out BK472.out zq14));have n4_:=zz (zO (g:=gb479) (o:= .cells #[.slice (some ⟨go22,0,none⟩) x480000_1.length co22,.slice Ao13 t476.length co13] 37 (0,0)) (zq0 BK479.out) hg (Kd.R_ne HO_480000.out BK479.out zq14));have n5_:=zz (zO (g:=gb481) (o:= .cells #[.int .i64 ((zy l0_1 x11_1).f0),.string ((zy l0_1 x11_1).f1)] 110 (0,0)) (zq0 BK481.out) hg (Kd.R_ne HO_480000.out BK481.out zq14));have n6_:=zz ((by rw [hw];exact zx (HB.out) GB22.out:Below w.heap.size w w36));clear HO_480000;clear HO_480001;clear BK471;clear BK472;clear BK479;clear BK481;clear HB;have HO_480000:=n0_;have HO_480001:=n1_;have BK471:=n2_;have BK472:=n3_;have BK479:=n4_;have BK481:=n5_;have HB:=n6_;clear n0_ n1_ n2_ n3_ n4_ n5_ n6_;clear hg hw hp_))
         go_roundg k1
         case measure=>have:=HK1.out;omega
         case rel=>exact ⟨(wrap64 (x11_1+1)),(y483),(.slice (some ⟨go22,0,none⟩) x480000_1.length co22),zq12,H',⟨by have:=HK1.out;omega⟩,⟨by (with_reducible repeat (first|apply Kd.R_alloc|apply Kd.R_drewN|apply Kd.R_drew));exact HO_480000.out⟩,⟨by (with_reducible repeat (first|apply Kd.R_alloc|apply Kd.R_drewN|apply Kd.R_drew));exact Kd.R_mono HO_480001.out (fun _ hk=>trivial)⟩,⟨by (with_reducible repeat (first|refine zm ?_ _|refine zu ?_|refine zl ?_ _));exact BK471.out⟩,⟨by (with_reducible repeat (first|refine zm ?_ _|refine zu ?_|refine zl ?_ _));exact BK472.out⟩,⟨by (with_reducible repeat (first|refine zm ?_ _|refine zu ?_|refine zl ?_ _));exact BK479.out⟩,⟨by repeat (first|(with_reducible first|exact HB.out|apply zf|apply zg|apply zj|refine zx ?_ GE471.out|refine zx ?_ GE472.out|refine zx ?_ GE479.out|refine zx ?_ GE481.out)|exact HB.out)⟩⟩
        ·rw [if_neg c21] at H
         exact absurd H zq16
       ·rw [if_neg c20] at H
        exact absurd H zq16
      ·replace c19:=Bool.eq_false_iff.mpr c19
       subst c19
       have H1:(impl_SyncDisk.l0 k1 l0_1 (l0_1.length:Int) (wrap64 (x11_1+1)) l0_0 l0_1 x480000_1 t476)=some (r1,r2):=by rw [if_neg (show ¬(false=true) by decide)] at H;exact H
       clear H
       have H:=H1
       clear H1
       have H':=zz H
       clear H
       have p480:0≤(x11_1:Int):=of_decide_eq_true zq13
       have q480:x11_1<(l0_1.length:Int):=of_decide_eq_true zq13
       obtain ⟨ad480,e480,hx480_0,hx480_1⟩:=zza HR0_1.out x11_1 p480 q480
       cases e480
       replace hx480_0:=(HB.out.cell (World.block_lt_of_cell? w _ hx480_0)).trans hx480_0
       replace hx480_1:=(HB.out.cell (World.block_lt_of_cell? w _ hx480_1)).trans hx480_1
       replace p480:=eq_true p480
       replace q480:=eq_true q480
       go_wp2_with (first|((with_reducible refine zn (N:=5) rfl ?_);refine zF ?hg (N:=5) ?hd (cs:= #[.int .i64 0,.string (⟨#[]⟩:ByteArray)]) (t:=110) ?hr ?_;(case hd=>rfl);(case hg=>rfl);(case hr=>first|(go_simp;done)|(go_simp;rfl));intro gb481 hg w37 hbox hb;have n0_:=zz (Kd.R_below (zq11 HO_480000.out) hb);have n1_:=zz (Kd.R_below (Kd.R_elderB (zq11 HO_480001.out) gb481 (Nat.le_of_eq hg.symm)) hb);have n2_:=zz (zo (g:=gb471) (o:= .cells #[.slice A0_0 l0_0.length c0_0,.slice (some ad480) l0_1.length c0_1] 37 (0,0)) (zq0 BK471.out) hb);have n3_:=zz (zo (g:=gb472) (o:= .cells #[.slice none 0 0,.slice none 0 0] 37 (0,0)) (zq0 BK472.out) hb);have n4_:=zz (zo (g:=gb479) (o:= .cells #[u480000,.slice Ao13 t476.length co13] 37 (0,0)) (zq0 BK479.out) hb);have n5_:=zz (zh (zq9 GE471.out GE472.out GE479.out) hb);have n6_:=zz (hbox);have n7_:=zz ((by rw [hg];exact (zi (zq9 GE471.out GE472.out GE479.out)):w.heap.size≤gb481));have n8_:=zz ((by rw [hg];exact (zi (zq9 GE471.out GE472.out GE479.out)):w.heap.size≤gb481));have n9_:=zz ((by rw [hg];exact Nat.ne_of_lt (zI (g:=gb471) (o:= .cells #[.slice A0_0 l0_0.length c0_0,.slice (some ad480) l0_1.length c0_1] 37 (0,0)) (zq0 BK471.out)):gb471≠gb481));have n10_:=zz ((by rw [hg];exact Nat.ne_of_gt (zI (g:=gb471) (o:= .cells #[.slice A0_0 l0_0.length c0_0,.slice (some ad480) l0_1.length c0_1] 37 (0,0)) (zq0 BK471.out)):gb481≠gb471));have n11_:=zz ((by rw [hg];exact Nat.ne_of_lt (zI (g:=gb472) (o:= .cells #[.slice none 0 0,.slice none 0 0] 37 (0,0)) (zq0 BK472.out)):gb472≠gb481));have n12_:=zz ((by rw [hg];exact Nat.ne_of_gt (zI (g:=gb472) (o:= .cells #[.slice none 0 0,.slice none 0 0] 37 (0,0)) (zq0 BK472.out)):gb481≠gb472));have n13_:=zz ((by rw [hg];exact Nat.ne_of_lt (zI (g:=gb479) (o:= .cells #[u480000,.slice Ao13 t476.length co13] 37 (0,0)) (zq0 BK479.out)):gb479≠gb481));have n14_:=zz ((by rw [hg];exact Nat.ne_of_gt (zI (g:=gb479) (o:= .cells #[u480000,.slice Ao13 t476.length co13] 37 (0,0)) (zq0 BK479.out)):gb481≠gb479));clear HO_480000;clear HO_480001;clear BK471;clear BK472;clear BK479;clear HB;have HO_480000:=n0_;have HO_480001:=n1_;have BK471:=n2_;have BK472:=n3_;have BK479:=n4_;have HB:=n5_;have BK481:=n6_;have GW481:=n7_;have GE481:=n8_;have NB471_481:=n9_;have NB481_471:=n10_;have NB472_481:=n11_;have NB481_472:=n12_;have NB479_481:=n13_;have NB481_479:=n14_;clear n0_ n1_ n2_ n3_ n4_ n5_ n6_ n7_ n8_ n9_ n10_ n11_ n12_ n13_ n14_;clear hb hbox hg;have hnb38:=NB481_471.out;have hnc38:=NB471_481.out;have hnb39:=NB481_472.out;have hnc39:=NB472_481.out;have hnb40:=NB481_479.out;have hnc40:=NB479_481.out;have hcz41_0:w37.cell? ⟨gb481,0,none⟩=some (.int .i64 0):=(zd BK481.out 0).trans rfl;have hcz41_1:w37.cell? ⟨gb481,1,none⟩=some (.string (⟨#[]⟩:ByteArray)):=(zd BK481.out 1).trans rfl;have hfz41_0:=ze BK481.out 0;have hfz41_1:=ze BK481.out 1;have hnb42:=NB471_472.out;have hnc42:=NB472_471.out;have hnb43:=NB471_479.out;have hnc43:=NB479_471.out;have hcz44_0:w37.cell? ⟨gb471,0,none⟩=some (.slice A0_0 l0_0.length c0_0):=(zd BK471.out 0).trans rfl;have hcz44_1:w37.cell? ⟨gb471,1,none⟩=some (.slice (some ad480) l0_1.length c0_1):=(zd BK471.out 1).trans rfl;have hfz44_0:=ze BK471.out 0;have hfz44_1:=ze BK471.out 1)|((with_reducible refine zB (f:=86) rfl ?_);refine zR (some 18) rfl rfl Tryz.func86 zq7 rfl #[.agg #[.slice A0_0 l0_0.length c0_0,.slice (some ad480) l0_1.length c0_1],.int .i64 ((zy l0_1 x11_1).f0)] rfl zq4 ?_;(with_reducible refine (impl_isPage.calls _ _ l0_0 _ _ l0_1 ((zy l0_1 x11_1).f0) false _ ?side1 ?side2 ?side3 ?side4 A18.out).mono ?_);(case side1=>exact Kd.C_below HR0_0.out (zq18 GE471.out GE472.out GE479.out GE481.out));(case side2=>exact HC0_0.out);(case side3=>exact Kd.C_below HR0_1.out (zq18 GE471.out GE472.out GE479.out GE481.out));(case side4=>exact HC0_1.out);rintro e w45 ⟨rfl,hb⟩;refine ⟨_,rfl,?_⟩;have n0_:=zz (Kd.R_below (zq27 HO_480000.out BK481.out) hb);have n1_:=zz (Kd.R_below (zq26 HO_480001.out) hb);have n2_:=zz (zo (g:=gb471) (o:= .cells #[.slice A0_0 l0_0.length c0_0,.slice (some ad480) l0_1.length c0_1] 37 (0,0)) (zq23 BK471.out) hb);have n3_:=zz (zo (g:=gb472) (o:= .cells #[.slice none 0 0,.slice none 0 0] 37 (0,0)) (zq24 BK472.out) hb);have n4_:=zz (zo (g:=gb479) (o:= .cells #[u480000,.slice Ao13 t476.length co13] 37 (0,0)) (zq25 BK479.out) hb);have n5_:=zz (zo (g:=gb481) (o:= .cells #[.int .i64 ((zy l0_1 x11_1).f0),.string ((zy l0_1 x11_1).f1)] 110 (0,0)) (zq20 BK481.out) hb);have n6_:=zz (zh (zq18 GE471.out GE472.out GE479.out GE481.out) hb);clear HO_480000;clear HO_480001;clear BK471;clear BK472;clear BK479;clear BK481;clear HB;have HO_480000:=n0_;have HO_480001:=n1_;have BK471:=n2_;have BK472:=n3_;have BK479:=n4_;have BK481:=n5_;have HB:=n6_;clear n0_ n1_ n2_ n3_ n4_ n5_ n6_;(try clear hb);(try clear hb2);(try clear hk);(try clear hi)))
       go_roundg k1
       case measure=>have:=HK1.out;omega
       case rel=>exact ⟨(wrap64 (x11_1+1)),(x480000_1),(u480000),zq12,H',⟨by have:=HK1.out;omega⟩,⟨by (with_reducible repeat (first|apply Kd.R_alloc|apply Kd.R_drewN|apply Kd.R_drew));exact HO_480000.out⟩,⟨by (with_reducible repeat (first|apply Kd.R_alloc|apply Kd.R_drewN|apply Kd.R_drew));exact Kd.R_mono HO_480001.out (fun _ hk=>trivial)⟩,⟨by (with_reducible repeat (first|refine zm ?_ _|refine zu ?_|refine zl ?_ _));exact BK471.out⟩,⟨by (with_reducible repeat (first|refine zm ?_ _|refine zu ?_|refine zl ?_ _));exact BK472.out⟩,⟨by (with_reducible repeat (first|refine zm ?_ _|refine zu ?_|refine zl ?_ _));exact BK479.out⟩,⟨by repeat (first|(with_reducible first|exact HB.out|apply zf|apply zg|apply zj|refine zx ?_ GE471.out|refine zx ?_ GE472.out|refine zx ?_ GE479.out|refine zx ?_ GE481.out)|exact HB.out)⟩⟩
     ·rw [if_neg c17] at H
      exact absurd H zq16
    ·rw [if_neg c16] at H
     exact absurd H zq16
   ·rw [if_neg c15] at H
    have c15b0:decide (x11_1<(l0_1.length:Int))=false:=decide_eq_false c15
    clear c15
    simp only [Option.some.injEq,Prod.mk.injEq] at H
    obtain ⟨rfl,rfl⟩:=H
    have hnb46:=NB479_471.out
    have hnc46:=NB471_479.out
    have hnb47:=NB479_472.out
    have hnc47:=NB472_479.out
    have hcz48_0:wr.cell? ⟨gb479,0,none⟩=some (u480000):=(zd BK479.out 0).trans rfl
    have hcz48_1:wr.cell? ⟨gb479,1,none⟩=some (.slice Ao13 t476.length co13):=(zd BK479.out 1).trans rfl
    have hfz48_0:=ze BK479.out 0
    have hfz48_1:=ze BK479.out 1
    obtain ⟨Ao49,co49,eo49⟩:=Kd.R_slice HO_480000.out
    subst eo49
    have hnb50:=NB472_471.out
    have hnc50:=NB471_472.out
    have hcz51_0:wr.cell? ⟨gb472,0,none⟩=some (.slice none 0 0):=(zd BK472.out 0).trans rfl
    have hcz51_1:wr.cell? ⟨gb472,1,none⟩=some (.slice none 0 0):=(zd BK472.out 1).trans rfl
    have hfz51_0:=ze BK472.out 0
    have hfz51_1:=ze BK472.out 1
    go_wp2
    refine bodyPost_ret (results_cell_row rfl _ _ gb472 37 #[.slice Ao49 x480000_1.length co49,.slice none 0 0] (0,0) _ rfl (by (with_reducible repeat (first|refine zm ?_ _|refine zu ?_|refine zl ?_ _));refine zT (cs:= #[.slice Ao49 x480000_1.length co49,.slice none 0 0]) ?_ 1 _ rfl;(with_reducible repeat (first|refine zm ?_ _|refine zu ?_|refine zl ?_ _));refine zT (cs:= #[.slice none 0 0,.slice none 0 0]) ?_ 0 _ rfl;(with_reducible repeat (first|refine zm ?_ _|refine zu ?_|refine zl ?_ _));refine zQ ?_ NB472_479.out _;(with_reducible repeat (first|refine zm ?_ _|refine zu ?_|refine zl ?_ _));exact BK472.out) Tryz.underlying37 rfl zq7) rfl ?_
    exact ⟨_,_,by first|rfl|(simp [zw,zv]<;>rfl)|(simp [*,zw,zv]<;>rfl),by (with_reducible repeat (first|apply Kd.R_alloc|apply Kd.R_drewN|apply Kd.R_drew));exact Kd.R_mono (Kd.R_far (p:=⟨gb472,1,none⟩) (Kd.R_far (p:=⟨gb472,0,none⟩) (Kd.R_far (p:=⟨gb479,1,none⟩) (Kd.R_types (Kd.R_types HO_480000.out BK479.out zq14) BK472.out zq14) (fun _ hk=>hk.1.2) (.slice none 0 0)) (fun _ hk=>hk.2) (.slice Ao49 x480000_1.length co49)) (fun _ hk=>hk.2) (.slice none 0 0)) (fun _ hk=>trivial),by first|exact Kd.R_nil _ _ _ _ _|exact Kd.N_nil _ _ _ _ _|exact Kd.V_nil _ _ _ _ _|exact Kd.Q_nil _ _ _ _ _|exact Kd.S_nil _ _ _ _ _,by repeat (first|(with_reducible first|exact HB.out|apply zf|apply zg|apply zj|refine zx ?_ GE471.out|refine zx ?_ GE472.out|refine zx ?_ GE479.out)|exact HB.out)⟩
theorem implSync_o (k:Nat) (l0:List ByteArray) (l1:List S110) (q0:List ByteArray) (q1:List S110) {cs:List Value} (w:World) (h:kDisk.K w (l0,l1) cs) (hf:impl_SyncDisk.f k l0 l1=some (q0,q1)):
  Calls Tryz.prog 43 #[.agg cs.toArray] w fun e w'=>∃ds:List Value,e= .returned (.agg ds.toArray)∧kDisk.M w' w.heap.size (Fr w w') (q0,q1) ds∧Below w.heap.size w w':=by
 obtain ⟨A0,c0,A1,c1,rfl,m0,r0,m1,r1⟩:=zCa h
 refine (impl_SyncDisk.calls k A0 c0 l0 A1 c1 l1 q0 q1 w r0 m0 r1 m1 hf).mono ?_
 rintro e w' ⟨v0,v1,rfl,R0,R1,hb⟩
 have T0:=Own.R_tightB rfl R0
 have T1:=Own.R_tightB rfl R1
 exact ⟨[v0,v1],rfl,znb T0.1 T1.1 T0.2.1 T1.2.1 (Own.types_ne T0.2.2 T1.2.2 zq14),hb⟩
theorem zIa (k:Nat) (l0:List ByteArray) (l1:List S110) (q0:List ByteArray) (q1:List S110) {cs:List Value} (w:World) (h:kDisk.K w (l0,l1) cs) (hf:spec_SyncDisk.f k l0 l1=some (q0,q1)):
  Calls Tryz.prog 33 #[.agg cs.toArray] w fun e w'=>∃ds:List Value,e= .returned (.agg ds.toArray)∧kDisk.M w' w.heap.size (Fr w w') (q0,q1) ds∧Below w.heap.size w w':=by
 obtain ⟨A0,c0,A1,c1,rfl,m0,r0,m1,r1⟩:=zCa h
 refine (spec_SyncDisk.calls k A0 c0 l0 A1 c1 l1 q0 q1 w r0 m0 r1 m1 hf).mono ?_
 rintro e w' ⟨v0,v1,rfl,R0,R1,hb⟩
 have T0:=Own.R_tightB rfl R0
 have T1:=Own.R_tightB rfl R1
 exact ⟨[v0,v1],rfl,znb T0.1 T1.1 T0.2.1 T1.2.1 (Own.types_ne T0.2.2 T1.2.2 zq14),hb⟩
def laws_szFree.f (a0_0:Int) (l0_1:List Int) (a1:Int):Option (Int):=(laws_szIntS.f l0_1 a1).bind fun t215=>(if t215<0 then (some (-1)) else (some t215))
theorem laws_szFree.calls (a0_0:Int) (A0_1:Option Addr) (c0_1:Nat) (l0_1:List Int) (a1:Int) (r:Int) (w:World) (hr0_1:Kd.C (Kd.int .i64) w A0_1 l0_1.length l0_1) (hc0_1:l0_1.length≤c0_1) (h:laws_szFree.f a0_0 l0_1 a1=some r):
  Calls Tryz.prog 114 #[.agg #[.int .i64 a0_0,.slice A0_1 l0_1.length c0_1],.int .i64 a1] w fun e w'=>e= .returned (.int .i64 r)∧Below w.heap.size w w':=by
 have hu183:=Tryz.underlying140
 have HR0_1:=zz hr0_1
 have HC0_1:=zz hc0_1
 clear hr0_1 hc0_1
 have HB:=zz (Below.refl w.heap.size w)
 have H:((laws_szIntS.f l0_1 a1).bind fun t215=>(if t215<0 then (some (-1)) else (some t215)))=some r:=h
 clear h
 replace H:=Option.bind_eq_some_iff.mp H
 obtain ⟨t215,A30,H⟩:=H
 replace H:(if t215<0 then (some (-1)) else (some t215))=some r:=H
 have A3:=zz A30
 clear A30
 by_cases c4:t215<0
 ·rw [if_pos c4] at H
  have c4b0:decide (t215<0)=true:=decide_eq_true c4
  clear c4
  obtain rfl:=Option.some.inj H
  go_enter Tryz.func114,Tryz.ntmps114
  go_wp2_with (first|((with_reducible refine zn (N:=2) rfl ?_);refine zF ?hg (N:=2) ?hd (cs:= #[.int .i64 a0_0,.slice A0_1 l0_1.length c0_1]) (t:=140) ?hr ?_;(case hd=>rfl);(case hg=>rfl);(case hr=>first|(go_simp;done)|(go_simp;rfl));intro gb214 hg w5 hbox hb;have n0_:=zz (zh zq1 hb);have n1_:=zz (hbox);have n2_:=zz ((by rw [hg];exact (zi zq1):w.heap.size≤gb214));have n3_:=zz ((by rw [hg];exact (zi zq1):w.heap.size≤gb214));clear HB;have HB:=n0_;have BK214:=n1_;have GW214:=n2_;have GE214:=n3_;clear n0_ n1_ n2_ n3_;clear hb hbox hg;have hcz6_0:w5.cell? ⟨gb214,0,none⟩=some (.int .i64 a0_0):=(zd BK214.out 0).trans rfl;have hcz6_1:w5.cell? ⟨gb214,1,none⟩=some (.slice A0_1 l0_1.length c0_1):=(zd BK214.out 1).trans rfl;have hfz6_0:=ze BK214.out 0;have hfz6_1:=ze BK214.out 1)|((with_reducible refine zB (f:=76) rfl ?_);refine zR (some 8) rfl rfl Tryz.func76 zq7 rfl #[.slice A0_1 l0_1.length c0_1,.int .i64 a1] rfl zq4 ?_;(with_reducible refine (laws_szIntS.calls _ _ l0_1 a1 t215 _ ?side1 ?side2 A3.out).mono ?_);(case side1=>repeat (first|exact (Kd.C_below HR0_1.out HB.out)|(with_reducible refine Kd.C_alloc ?_ _)|(with_reducible refine Kd.C_drewN ?_ _)|(with_reducible refine Kd.C_drew ?_)));(case side2=>exact HC0_1.out);rintro e w' ⟨rfl,⟨nd,rfl⟩⟩;refine ⟨_,rfl,?_⟩))
  go_ret
  exact ⟨by first|rfl|(simp [zw,zv]<;>rfl)|(simp [*,zw,zv]<;>rfl),by repeat (first|(with_reducible first|exact HB.out|apply zf|apply zg|apply zj|refine zx ?_ GE214.out)|exact HB.out)⟩
 ·rw [if_neg c4] at H
  have c4b0:decide (t215<0)=false:=decide_eq_false c4
  clear c4
  obtain rfl:=Option.some.inj H
  go_enter Tryz.func114,Tryz.ntmps114
  go_wp2_with (first|((with_reducible refine zn (N:=2) rfl ?_);refine zF ?hg (N:=2) ?hd (cs:= #[.int .i64 a0_0,.slice A0_1 l0_1.length c0_1]) (t:=140) ?hr ?_;(case hd=>rfl);(case hg=>rfl);(case hr=>first|(go_simp;done)|(go_simp;rfl));intro gb214 hg w7 hbox hb;have n0_:=zz (zh zq1 hb);have n1_:=zz (hbox);have n2_:=zz ((by rw [hg];exact (zi zq1):w.heap.size≤gb214));have n3_:=zz ((by rw [hg];exact (zi zq1):w.heap.size≤gb214));clear HB;have HB:=n0_;have BK214:=n1_;have GW214:=n2_;have GE214:=n3_;clear n0_ n1_ n2_ n3_;clear hb hbox hg;have hcz8_0:w7.cell? ⟨gb214,0,none⟩=some (.int .i64 a0_0):=(zd BK214.out 0).trans rfl;have hcz8_1:w7.cell? ⟨gb214,1,none⟩=some (.slice A0_1 l0_1.length c0_1):=(zd BK214.out 1).trans rfl;have hfz8_0:=ze BK214.out 0;have hfz8_1:=ze BK214.out 1)|((with_reducible refine zB (f:=76) rfl ?_);refine zR (some 8) rfl rfl Tryz.func76 zq7 rfl #[.slice A0_1 l0_1.length c0_1,.int .i64 a1] rfl zq4 ?_;(with_reducible refine (laws_szIntS.calls _ _ l0_1 a1 t215 _ ?side1 ?side2 A3.out).mono ?_);(case side1=>repeat (first|exact (Kd.C_below HR0_1.out HB.out)|(with_reducible refine Kd.C_alloc ?_ _)|(with_reducible refine Kd.C_drewN ?_ _)|(with_reducible refine Kd.C_drew ?_)));(case side2=>exact HC0_1.out);rintro e w' ⟨rfl,⟨nd,rfl⟩⟩;refine ⟨_,rfl,?_⟩))
  go_ret
  exact ⟨by first|rfl|(simp [zw,zv]<;>rfl)|(simp [*,zw,zv]<;>rfl),by repeat (first|(with_reducible first|exact HB.out|apply zf|apply zg|apply zj|refine zx ?_ GE214.out)|exact HB.out)⟩
def laws_szFreeS.l0:Nat→List (S140)→Int→Int→Option (Int)
 |0,_,_,_=>none
 |k+1,x0,x1,x5=>if x5<(x0.length:Int) then (if 0≤x5 then ((laws_szFree.f ((zra x0 x5).f0) ((zra x0 x5).f1) x1).bind fun t217=>(if t217<0 then (some (-1)) else (laws_szFreeS.l0 k x0 t217 (wrap64 (x5+1))))) else (none)) else (some x1)
def laws_szFreeS.f (k:Nat) (l0:List (S140)) (a1:Int):Option (Int):=if (wrap64 (a1-(l0.length:Int)))<0 then (some (-1)) else (laws_szFreeS.l0 k l0 (wrap64 (a1-(l0.length:Int))) 0)
theorem laws_szFreeS.mono_l:∀k,(∀y0 y1 y2,LeO (laws_szFreeS.l0 k y0 y1 y2) (laws_szFreeS.l0 (k+1) y0 y1 y2))
 |0=>fun _ _ _ r h=>by simp [laws_szFreeS.l0] at h
 |k+1=>by
  have ih0:=laws_szFreeS.mono_l k
  ·intro y0 y1 y2
   unfold laws_szFreeS.l0
   repeat' first
   |(with_reducible exact ih0 _ _ _)
   |(with_reducible exact LeO.refl _)
   |(with_reducible exact LeO.none _)
   |(with_reducible refine LeO.ite ?_ ?_)
   |(with_reducible refine LeO.bind ?_ (fun _=> ?_))
   |exact ih0 _ _ _
theorem laws_szFreeS.mono:∀a0 a1 k,LeO (laws_szFreeS.f k a0 a1) (laws_szFreeS.f (k+1) a0 a1):=by
 intro a0 a1 k
 have ih0:=laws_szFreeS.mono_l k
 unfold laws_szFreeS.f
 repeat' first
   |(with_reducible exact ih0 _ _ _)
   |(with_reducible exact LeO.refl _)
   |(with_reducible exact LeO.none _)
   |(with_reducible refine LeO.ite ?_ ?_)
   |(with_reducible refine LeO.bind ?_ (fun _=> ?_))
   |exact ih0 _ _ _
theorem laws_szFreeS.calls (k:Nat) (A0:Option Addr) (c0:Nat) (l0:List (S140)) (a1:Int) (r:Int) (w:World) (hr0:Kd.C k140 w A0 l0.length l0) (hc0:l0.length≤c0) (h:laws_szFreeS.f k l0 a1=some r):
  Calls Tryz.prog 75 #[.slice A0 l0.length c0,.int .i64 a1] w fun e w'=>e= .returned (.int .i64 r)∧Below w.heap.size w w':=by
 have hu183:=Tryz.underlying140
 have HR0:=zz hr0
 have HC0:=zz hc0
 clear hr0 hc0
 have HB:=zz (Below.refl w.heap.size w)
 have H:(if (wrap64 (a1-(l0.length:Int)))<0 then (some (-1)) else (laws_szFreeS.l0 k l0 (wrap64 (a1-(l0.length:Int))) 0))=some r:=h
 clear h
 by_cases c3:(wrap64 (a1-(l0.length:Int)))<0
 ·rw [if_pos c3] at H
  have c3b0:decide ((wrap64 (a1-(l0.length:Int)))<0)=true:=decide_eq_true c3
  clear c3
  obtain rfl:=Option.some.inj H
  go_enter Tryz.func75,Tryz.ntmps75
  go_wp2
  go_ret
  exact ⟨by first|rfl|(simp [zw,zv]<;>rfl)|(simp [*,zw,zv]<;>rfl),by repeat (first|(with_reducible first|exact HB.out|apply zf|apply zg|apply zj)|exact HB.out)⟩
 ·rw [if_neg c3] at H
  have c3b0:decide ((wrap64 (a1-(l0.length:Int)))<0)=false:=decide_eq_false c3
  clear c3
  have H':=zz H
  clear H
  go_enter Tryz.func75,Tryz.ntmps75
  go_wp2
  go_loopg [1,5] k (fun kq v1 v5 w'=>∃(x1_1:Int) (x5_1:Int),v1= .int .i64 x1_1∧v5= .int .i64 x5_1∧Z0 (laws_szFreeS.l0 kq l0 x1_1 x5_1=some r)∧Z0 (kq≤k)∧Z0 (Below w.heap.size w w'))
  case atStart=>exact ⟨(wrap64 (a1-(l0.length:Int))),(0),zq12,zq12,H',⟨Nat.le_refl _⟩,⟨by repeat (first|(with_reducible first|exact HB.out|apply zf|apply zg|apply zj)|exact HB.out)⟩⟩
  case round=>
   clear H'
   try clear c3
   try clear c3b0
   obtain ⟨x1_1,x5_1,rfl,rfl,HA,HK1,HB⟩:=hrel
   cases gk with
   |zero=>exact absurd HA.out (by simp [laws_szFreeS.l0])
   |succ k1=>
    have H:=HA.out
    clear HA
    simp only [laws_szFreeS.l0] at H
    by_cases c4:x5_1<(l0.length:Int)
    ·rw [if_pos c4] at H
     have c4b0:decide (x5_1<(l0.length:Int))=true:=decide_eq_true c4
     clear c4
     by_cases c5:0≤x5_1
     ·rw [if_pos c5] at H
      have c5b0:decide (0≤x5_1)=true:=decide_eq_true c5
      clear c5
      replace H:=Option.bind_eq_some_iff.mp H
      obtain ⟨t217,A60,H⟩:=H
      replace H:(if t217<0 then (some (-1)) else (laws_szFreeS.l0 k1 l0 t217 (wrap64 (x5_1+1))))=some r:=H
      have A6:=zz A60
      clear A60
      by_cases c7:t217<0
      ·rw [if_pos c7] at H
       have c7b0:decide (t217<0)=true:=decide_eq_true c7
       clear c7
       obtain rfl:=Option.some.inj H
       have p216:0≤(x5_1:Int):=of_decide_eq_true zq13
       have q216:x5_1<(l0.length:Int):=of_decide_eq_true zq13
       obtain ⟨ad216,A216_1,c216_1,e216,hx216_0,hx216_1,hl216_1,hi216_1⟩:=at_T140 HR0.out x5_1 p216 q216
       cases e216
       replace hx216_0:=(HB.out.cell (World.block_lt_of_cell? w _ hx216_0)).trans hx216_0
       replace hx216_1:=(HB.out.cell (World.block_lt_of_cell? w _ hx216_1)).trans hx216_1
       have HR216_1:=zz hi216_1
       have HC216_1:=zz hl216_1
       clear hi216_1 hl216_1
       replace p216:=eq_true p216
       replace q216:=eq_true q216
       go_wp2_with (first|((with_reducible refine zB (f:=114) rfl ?_);refine zR (some 23) rfl rfl Tryz.func114 zq7 rfl #[.agg #[.int .i64 ((zra l0 x5_1).f0),.slice A216_1 ((zra l0 x5_1).f1).length c216_1],.int .i64 x1_1] rfl zq4 ?_;(with_reducible refine (laws_szFree.calls ((zra l0 x5_1).f0) _ _ ((zra l0 x5_1).f1) x1_1 t217 _ ?side1 ?side2 A6.out).mono ?_);(case side1=>repeat (first|exact (Kd.C_below HR216_1.out HB.out)|(with_reducible refine Kd.C_alloc ?_ _)|(with_reducible refine Kd.C_drewN ?_ _)|(with_reducible refine Kd.C_drew ?_)));(case side2=>exact HC216_1.out);rintro e w8 ⟨rfl,hb⟩;refine ⟨_,rfl,?_⟩;have n0_:=zz (zh zq1 hb);clear HB;have HB:=n0_;clear n0_;(try clear hb);(try clear hb2);(try clear hk);(try clear hi)))
       go_ret
       exact ⟨by first|rfl|(simp [zw,zv]<;>rfl)|(simp [*,zw,zv]<;>rfl),by repeat (first|(with_reducible first|exact HB.out|apply zf|apply zg|apply zj)|exact HB.out)⟩
      ·rw [if_neg c7] at H
       have c7b0:decide (t217<0)=false:=decide_eq_false c7
       clear c7
       have H':=zz H
       clear H
       have p216:0≤(x5_1:Int):=of_decide_eq_true zq13
       have q216:x5_1<(l0.length:Int):=of_decide_eq_true zq13
       obtain ⟨ad216,A216_1,c216_1,e216,hx216_0,hx216_1,hl216_1,hi216_1⟩:=at_T140 HR0.out x5_1 p216 q216
       cases e216
       replace hx216_0:=(HB.out.cell (World.block_lt_of_cell? w _ hx216_0)).trans hx216_0
       replace hx216_1:=(HB.out.cell (World.block_lt_of_cell? w _ hx216_1)).trans hx216_1
       have HR216_1:=zz hi216_1
       have HC216_1:=zz hl216_1
       clear hi216_1 hl216_1
       replace p216:=eq_true p216
       replace q216:=eq_true q216
       go_wp2_with (first|((with_reducible refine zB (f:=114) rfl ?_);refine zR (some 23) rfl rfl Tryz.func114 zq7 rfl #[.agg #[.int .i64 ((zra l0 x5_1).f0),.slice A216_1 ((zra l0 x5_1).f1).length c216_1],.int .i64 x1_1] rfl zq4 ?_;(with_reducible refine (laws_szFree.calls ((zra l0 x5_1).f0) _ _ ((zra l0 x5_1).f1) x1_1 t217 _ ?side1 ?side2 A6.out).mono ?_);(case side1=>repeat (first|exact (Kd.C_below HR216_1.out HB.out)|(with_reducible refine Kd.C_alloc ?_ _)|(with_reducible refine Kd.C_drewN ?_ _)|(with_reducible refine Kd.C_drew ?_)));(case side2=>exact HC216_1.out);rintro e w9 ⟨rfl,hb⟩;refine ⟨_,rfl,?_⟩;have n0_:=zz (zh zq1 hb);clear HB;have HB:=n0_;clear n0_;(try clear hb);(try clear hb2);(try clear hk);(try clear hi)))
       go_roundg k1
       case measure=>have:=HK1.out;omega
       case rel=>exact ⟨(t217),(wrap64 (x5_1+1)),zq12,zq12,H',⟨by have:=HK1.out;omega⟩,⟨by repeat (first|(with_reducible first|exact HB.out|apply zf|apply zg|apply zj)|exact HB.out)⟩⟩
     ·rw [if_neg c5] at H
      exact absurd H zq16
    ·rw [if_neg c4] at H
     have c4b0:decide (x5_1<(l0.length:Int))=false:=decide_eq_false c4
     clear c4
     obtain rfl:=Option.some.inj H
     go_wp2
     go_ret
     exact ⟨by first|rfl|(simp [zw,zv]<;>rfl)|(simp [*,zw,zv]<;>rfl),by repeat (first|(with_reducible first|exact HB.out|apply zf|apply zg|apply zj)|exact HB.out)⟩
def laws_szMeta.f (k:Nat) (a0_0:Int) (a0_1:Int) (a0_2:Int) (l0_3:List (S140)) (a1:Int):Option (Int):=(laws_szFreeS.f k l0_3 a1).bind fun t219=>(if t219<0 then (some (-1)) else (some t219))
theorem laws_szMeta.mono:∀a0 a1 a2 a3 a4 k,LeO (laws_szMeta.f k a0 a1 a2 a3 a4) (laws_szMeta.f (k+1) a0 a1 a2 a3 a4):=by
 intro a0 a1 a2 a3 a4 k
 unfold laws_szMeta.f
 repeat' first
   |(with_reducible exact laws_szFreeS.mono _ _ _)
   |(with_reducible exact LeO.refl _)
   |(with_reducible exact LeO.none _)
   |(with_reducible refine LeO.ite ?_ ?_)
   |(with_reducible refine LeO.bind ?_ (fun _=> ?_))
   |exact laws_szFreeS.mono _ _ _
theorem laws_szMeta.calls (k:Nat) (a0_0:Int) (a0_1:Int) (a0_2:Int) (A0_3:Option Addr) (c0_3:Nat) (l0_3:List (S140)) (a1:Int) (r:Int) (w:World) (hr0_3:Kd.C k140 w A0_3 l0_3.length l0_3) (hc0_3:l0_3.length≤c0_3) (h:laws_szMeta.f k a0_0 a0_1 a0_2 l0_3 a1=some r):
  Calls Tryz.prog 30 #[.agg #[.int .i64 a0_0,.int .i64 a0_1,.int .i64 a0_2,.slice A0_3 l0_3.length c0_3],.int .i64 a1] w fun e w'=>e= .returned (.int .i64 r)∧Below w.heap.size w w':=by
 have hu69:=Tryz.underlying24
 have HR0_3:=zz hr0_3
 have HC0_3:=zz hc0_3
 clear hr0_3 hc0_3
 have HB:=zz (Below.refl w.heap.size w)
 have H:((laws_szFreeS.f k l0_3 a1).bind fun t219=>(if t219<0 then (some (-1)) else (some t219)))=some r:=h
 clear h
 replace H:=Option.bind_eq_some_iff.mp H
 obtain ⟨t219,A30,H⟩:=H
 replace H:(if t219<0 then (some (-1)) else (some t219))=some r:=H
 have A3:=zz A30
 clear A30
 by_cases c4:t219<0
 ·rw [if_pos c4] at H
  have c4b0:decide (t219<0)=true:=decide_eq_true c4
  clear c4
  obtain rfl:=Option.some.inj H
  go_enter Tryz.func30,Tryz.ntmps30
  go_wp2_with (first|((with_reducible refine zn (N:=2) rfl ?_);refine zF ?hg (N:=2) ?hd (cs:= #[.int .i64 a0_0,.int .i64 a0_1,.int .i64 a0_2,.slice A0_3 l0_3.length c0_3]) (t:=24) ?hr ?_;(case hd=>rfl);(case hg=>rfl);(case hr=>first|(go_simp;done)|(go_simp;rfl));intro gb218 hg w5 hbox hb;have n0_:=zz (zh zq1 hb);have n1_:=zz (hbox);have n2_:=zz ((by rw [hg];exact (zi zq1):w.heap.size≤gb218));have n3_:=zz ((by rw [hg];exact (zi zq1):w.heap.size≤gb218));clear HB;have HB:=n0_;have BK218:=n1_;have GW218:=n2_;have GE218:=n3_;clear n0_ n1_ n2_ n3_;clear hb hbox hg;have hcz6_0:w5.cell? ⟨gb218,0,none⟩=some (.int .i64 a0_0):=(zd BK218.out 0).trans rfl;have hcz6_1:w5.cell? ⟨gb218,1,none⟩=some (.int .i64 a0_1):=(zd BK218.out 1).trans rfl;have hcz6_2:w5.cell? ⟨gb218,2,none⟩=some (.int .i64 a0_2):=(zd BK218.out 2).trans rfl;have hcz6_3:w5.cell? ⟨gb218,3,none⟩=some (.slice A0_3 l0_3.length c0_3):=(zd BK218.out 3).trans rfl;have hfz6_0:=ze BK218.out 0;have hfz6_1:=ze BK218.out 1;have hfz6_2:=ze BK218.out 2;have hfz6_3:=ze BK218.out 3)|((with_reducible refine zB (f:=75) rfl ?_);refine zR (some 8) rfl rfl Tryz.func75 zq7 rfl #[.slice A0_3 l0_3.length c0_3,.int .i64 a1] rfl zq4 ?_;(with_reducible refine (laws_szFreeS.calls k _ _ l0_3 a1 t219 _ ?side1 ?side2 A3.out).mono ?_);(case side1=>repeat (first|exact (Kd.C_below HR0_3.out HB.out)|(with_reducible refine Kd.C_alloc ?_ _)|(with_reducible refine Kd.C_drewN ?_ _)|(with_reducible refine Kd.C_drew ?_)));(case side2=>exact HC0_3.out);rintro e w7 ⟨rfl,hb⟩;refine ⟨_,rfl,?_⟩;have n0_:=zz (zo (g:=gb218) (o:= .cells #[.int .i64 a0_0,.int .i64 a0_1,.int .i64 a0_2,.slice A0_3 l0_3.length c0_3] 24 (0,0)) (zq0 BK218.out) hb);have n1_:=zz (zh (zq3 GE218.out) hb);clear BK218;clear HB;have BK218:=n0_;have HB:=n1_;clear n0_ n1_;(try clear hb);(try clear hb2);(try clear hk);(try clear hi)))
  go_ret
  exact ⟨by first|rfl|(simp [zw,zv]<;>rfl)|(simp [*,zw,zv]<;>rfl),by repeat (first|(with_reducible first|exact HB.out|apply zf|apply zg|apply zj|refine zx ?_ GE218.out)|exact HB.out)⟩
 ·rw [if_neg c4] at H
  have c4b0:decide (t219<0)=false:=decide_eq_false c4
  clear c4
  obtain rfl:=Option.some.inj H
  go_enter Tryz.func30,Tryz.ntmps30
  go_wp2_with (first|((with_reducible refine zn (N:=2) rfl ?_);refine zF ?hg (N:=2) ?hd (cs:= #[.int .i64 a0_0,.int .i64 a0_1,.int .i64 a0_2,.slice A0_3 l0_3.length c0_3]) (t:=24) ?hr ?_;(case hd=>rfl);(case hg=>rfl);(case hr=>first|(go_simp;done)|(go_simp;rfl));intro gb218 hg w8 hbox hb;have n0_:=zz (zh zq1 hb);have n1_:=zz (hbox);have n2_:=zz ((by rw [hg];exact (zi zq1):w.heap.size≤gb218));have n3_:=zz ((by rw [hg];exact (zi zq1):w.heap.size≤gb218));clear HB;have HB:=n0_;have BK218:=n1_;have GW218:=n2_;have GE218:=n3_;clear n0_ n1_ n2_ n3_;clear hb hbox hg;have hcz9_0:w8.cell? ⟨gb218,0,none⟩=some (.int .i64 a0_0):=(zd BK218.out 0).trans rfl;have hcz9_1:w8.cell? ⟨gb218,1,none⟩=some (.int .i64 a0_1):=(zd BK218.out 1).trans rfl;have hcz9_2:w8.cell? ⟨gb218,2,none⟩=some (.int .i64 a0_2):=(zd BK218.out 2).trans rfl;have hcz9_3:w8.cell? ⟨gb218,3,none⟩=some (.slice A0_3 l0_3.length c0_3):=(zd BK218.out 3).trans rfl;have hfz9_0:=ze BK218.out 0;have hfz9_1:=ze BK218.out 1;have hfz9_2:=ze BK218.out 2;have hfz9_3:=ze BK218.out 3)|((with_reducible refine zB (f:=75) rfl ?_);refine zR (some 8) rfl rfl Tryz.func75 zq7 rfl #[.slice A0_3 l0_3.length c0_3,.int .i64 a1] rfl zq4 ?_;(with_reducible refine (laws_szFreeS.calls k _ _ l0_3 a1 t219 _ ?side1 ?side2 A3.out).mono ?_);(case side1=>repeat (first|exact (Kd.C_below HR0_3.out HB.out)|(with_reducible refine Kd.C_alloc ?_ _)|(with_reducible refine Kd.C_drewN ?_ _)|(with_reducible refine Kd.C_drew ?_)));(case side2=>exact HC0_3.out);rintro e w10 ⟨rfl,hb⟩;refine ⟨_,rfl,?_⟩;have n0_:=zz (zo (g:=gb218) (o:= .cells #[.int .i64 a0_0,.int .i64 a0_1,.int .i64 a0_2,.slice A0_3 l0_3.length c0_3] 24 (0,0)) (zq0 BK218.out) hb);have n1_:=zz (zh (zq3 GE218.out) hb);clear BK218;clear HB;have BK218:=n0_;have HB:=n1_;clear n0_ n1_;(try clear hb);(try clear hb2);(try clear hk);(try clear hi)))
  go_ret
  exact ⟨by first|rfl|(simp [zw,zv]<;>rfl)|(simp [*,zw,zv]<;>rfl),by repeat (first|(with_reducible first|exact HB.out|apply zf|apply zg|apply zj|refine zx ?_ GE218.out)|exact HB.out)⟩
def laws_szTxn.f (k:Nat) (a0_0:Int) (a0_1:Int) (a0_2:Int) (l0_3:List (S140)) (l0_4:List ByteArray) (l0_5:List (S156)) (a0_6:Int) (l0_7:List Int) (l0_8:List Int) (l0_9:List Int) (a0_10:Int) (a1:Int):Option (Int):=(laws_szMeta.f k a0_0 a0_1 a0_2 l0_3 a1).bind fun t221=>(if t221<0 then (some (-1)) else ((laws_szWork.f k l0_4 l0_5 a0_6 l0_7 l0_8 l0_9 t221).bind fun t222=>(if t222<0 then (some (-1)) else (some t222))))
theorem laws_szTxn.calls (k:Nat) (a0_0:Int) (a0_1:Int) (a0_2:Int) (A0_3:Option Addr) (c0_3:Nat) (l0_3:List (S140)) (A0_4:Option Addr) (c0_4:Nat) (l0_4:List ByteArray) (A0_5:Option Addr) (c0_5:Nat) (l0_5:List (S156)) (a0_6:Int) (A0_7:Option Addr) (c0_7:Nat) (l0_7:List Int) (A0_8:Option Addr) (c0_8:Nat) (l0_8:List Int) (A0_9:Option Addr) (c0_9:Nat) (l0_9:List Int) (a0_10:Int) (a1:Int) (r:Int) (w:World) (hr0_3:Kd.C k140 w A0_3 l0_3.length l0_3) (hc0_3:l0_3.length≤c0_3) (hr0_4:Kd.C Kd.string w A0_4 l0_4.length l0_4) (hc0_4:l0_4.length≤c0_4) (hr0_5:Kd.C k156 w A0_5 l0_5.length l0_5) (hc0_5:l0_5.length≤c0_5) (hr0_7:Kd.C (Kd.int .i64) w A0_7 l0_7.length l0_7) (hc0_7:l0_7.length≤c0_7) (hr0_8:Kd.C (Kd.int .i64) w A0_8 l0_8.length l0_8) (hc0_8:l0_8.length≤c0_8) (hr0_9:Kd.C (Kd.int .i64) w A0_9 l0_9.length l0_9) (hc0_9:l0_9.length≤c0_9) (h:laws_szTxn.f k a0_0 a0_1 a0_2 l0_3 l0_4 l0_5 a0_6 l0_7 l0_8 l0_9 a0_10 a1=some r):
  Calls Tryz.prog 6 #[.agg #[.int .i64 a0_0,.int .i64 a0_1,.int .i64 a0_2,.slice A0_3 l0_3.length c0_3,.slice A0_4 l0_4.length c0_4,.slice A0_5 l0_5.length c0_5,.int .i64 a0_6,.slice A0_7 l0_7.length c0_7,.slice A0_8 l0_8.length c0_8,.slice A0_9 l0_9.length c0_9,.int .i64 a0_10],.int .i64 a1] w fun e w'=>e= .returned (.int .i64 r)∧Below w.heap.size w w':=by
 have hu72:=Tryz.underlying33
 have hu69:=Tryz.underlying24
 have hu28:=Tryz.underlying31
 have HR0_3:=zz hr0_3
 have HC0_3:=zz hc0_3
 clear hr0_3 hc0_3
 have HR0_4:=zz hr0_4
 have HC0_4:=zz hc0_4
 clear hr0_4 hc0_4
 have HR0_5:=zz hr0_5
 have HC0_5:=zz hc0_5
 clear hr0_5 hc0_5
 have HR0_7:=zz hr0_7
 have HC0_7:=zz hc0_7
 clear hr0_7 hc0_7
 have HR0_8:=zz hr0_8
 have HC0_8:=zz hc0_8
 clear hr0_8 hc0_8
 have HR0_9:=zz hr0_9
 have HC0_9:=zz hc0_9
 clear hr0_9 hc0_9
 have HB:=zz (Below.refl w.heap.size w)
 have H:((laws_szMeta.f k a0_0 a0_1 a0_2 l0_3 a1).bind fun t221=>(if t221<0 then (some (-1)) else ((laws_szWork.f k l0_4 l0_5 a0_6 l0_7 l0_8 l0_9 t221).bind fun t222=>(if t222<0 then (some (-1)) else (some t222)))))=some r:=h
 clear h
 replace H:=Option.bind_eq_some_iff.mp H
 obtain ⟨t221,A30,H⟩:=H
 replace H:(if t221<0 then (some (-1)) else ((laws_szWork.f k l0_4 l0_5 a0_6 l0_7 l0_8 l0_9 t221).bind fun t222=>(if t222<0 then (some (-1)) else (some t222))))=some r:=H
 have A3:=zz A30
 clear A30
 by_cases c4:t221<0
 ·rw [if_pos c4] at H
  have c4b0:decide (t221<0)=true:=decide_eq_true c4
  clear c4
  obtain rfl:=Option.some.inj H
  go_enter Tryz.func6,Tryz.ntmps6
  go_wp2_with (first|((with_reducible refine zn (N:=2) rfl ?_);refine zF ?hg (N:=2) ?hd (cs:= #[.int .i64 a0_0,.int .i64 a0_1,.int .i64 a0_2,.slice A0_3 l0_3.length c0_3,.slice A0_4 l0_4.length c0_4,.slice A0_5 l0_5.length c0_5,.int .i64 a0_6,.slice A0_7 l0_7.length c0_7,.slice A0_8 l0_8.length c0_8,.slice A0_9 l0_9.length c0_9,.int .i64 a0_10]) (t:=33) ?hr ?_;(case hd=>rfl);(case hg=>rfl);(case hr=>first|(go_simp;done)|(go_simp;rfl));intro gb220 hg w5 hbox hb;have n0_:=zz (zh zq1 hb);have n1_:=zz (hbox);have n2_:=zz ((by rw [hg];exact (zi zq1):w.heap.size≤gb220));have n3_:=zz ((by rw [hg];exact (zi zq1):w.heap.size≤gb220));clear HB;have HB:=n0_;have BK220:=n1_;have GW220:=n2_;have GE220:=n3_;clear n0_ n1_ n2_ n3_;clear hb hbox hg;have hcz6_0:w5.cell? ⟨gb220,0,none⟩=some (.int .i64 a0_0):=(zd BK220.out 0).trans rfl;have hcz6_1:w5.cell? ⟨gb220,1,none⟩=some (.int .i64 a0_1):=(zd BK220.out 1).trans rfl;have hcz6_2:w5.cell? ⟨gb220,2,none⟩=some (.int .i64 a0_2):=(zd BK220.out 2).trans rfl;have hcz6_3:w5.cell? ⟨gb220,3,none⟩=some (.slice A0_3 l0_3.length c0_3):=(zd BK220.out 3).trans rfl;have hcz6_4:w5.cell? ⟨gb220,4,none⟩=some (.slice A0_4 l0_4.length c0_4):=(zd BK220.out 4).trans rfl;have hcz6_5:w5.cell? ⟨gb220,5,none⟩=some (.slice A0_5 l0_5.length c0_5):=(zd BK220.out 5).trans rfl;have hcz6_6:w5.cell? ⟨gb220,6,none⟩=some (.int .i64 a0_6):=(zd BK220.out 6).trans rfl;have hcz6_7:w5.cell? ⟨gb220,7,none⟩=some (.slice A0_7 l0_7.length c0_7):=(zd BK220.out 7).trans rfl;have hcz6_8:w5.cell? ⟨gb220,8,none⟩=some (.slice A0_8 l0_8.length c0_8):=(zd BK220.out 8).trans rfl;have hcz6_9:w5.cell? ⟨gb220,9,none⟩=some (.slice A0_9 l0_9.length c0_9):=(zd BK220.out 9).trans rfl;have hcz6_10:w5.cell? ⟨gb220,10,none⟩=some (.int .i64 a0_10):=(zd BK220.out 10).trans rfl;have hfz6_0:=ze BK220.out 0;have hfz6_1:=ze BK220.out 1;have hfz6_2:=ze BK220.out 2;have hfz6_3:=ze BK220.out 3;have hfz6_4:=ze BK220.out 4;have hfz6_5:=ze BK220.out 5;have hfz6_6:=ze BK220.out 6;have hfz6_7:=ze BK220.out 7;have hfz6_8:=ze BK220.out 8;have hfz6_9:=ze BK220.out 9;have hfz6_10:=ze BK220.out 10)|((with_reducible refine zB (f:=30) rfl ?_);refine zR (some 8) rfl rfl Tryz.func30 zq7 rfl #[.agg #[.int .i64 a0_0,.int .i64 a0_1,.int .i64 a0_2,.slice A0_3 l0_3.length c0_3],.int .i64 a1] rfl zq4 ?_;(with_reducible refine (laws_szMeta.calls k a0_0 a0_1 a0_2 _ _ l0_3 a1 t221 _ ?side1 ?side2 A3.out).mono ?_);(case side1=>repeat (first|exact (Kd.C_below HR0_3.out HB.out)|(with_reducible refine Kd.C_alloc ?_ _)|(with_reducible refine Kd.C_drewN ?_ _)|(with_reducible refine Kd.C_drew ?_)));(case side2=>exact HC0_3.out);rintro e w7 ⟨rfl,hb⟩;refine ⟨_,rfl,?_⟩;have n0_:=zz (zo (g:=gb220) (o:= .cells #[.int .i64 a0_0,.int .i64 a0_1,.int .i64 a0_2,.slice A0_3 l0_3.length c0_3,.slice A0_4 l0_4.length c0_4,.slice A0_5 l0_5.length c0_5,.int .i64 a0_6,.slice A0_7 l0_7.length c0_7,.slice A0_8 l0_8.length c0_8,.slice A0_9 l0_9.length c0_9,.int .i64 a0_10] 33 (0,0)) (zq0 BK220.out) hb);have n1_:=zz (zh (zq3 GE220.out) hb);clear BK220;clear HB;have BK220:=n0_;have HB:=n1_;clear n0_ n1_;(try clear hb);(try clear hb2);(try clear hk);(try clear hi)))
  go_ret
  exact ⟨by first|rfl|(simp [zw,zv]<;>rfl)|(simp [*,zw,zv]<;>rfl),by repeat (first|(with_reducible first|exact HB.out|apply zf|apply zg|apply zj|refine zx ?_ GE220.out)|exact HB.out)⟩
 ·rw [if_neg c4] at H
  have c4b0:decide (t221<0)=false:=decide_eq_false c4
  clear c4
  replace H:=Option.bind_eq_some_iff.mp H
  obtain ⟨t222,A80,H⟩:=H
  replace H:(if t222<0 then (some (-1)) else (some t222))=some r:=H
  have A8:=zz A80
  clear A80
  by_cases c9:t222<0
  ·rw [if_pos c9] at H
   have c9b0:decide (t222<0)=true:=decide_eq_true c9
   clear c9
   obtain rfl:=Option.some.inj H
   go_enter Tryz.func6,Tryz.ntmps6
   go_wp2_with (first|((with_reducible refine zn (N:=2) rfl ?_);refine zF ?hg (N:=2) ?hd (cs:= #[.int .i64 a0_0,.int .i64 a0_1,.int .i64 a0_2,.slice A0_3 l0_3.length c0_3,.slice A0_4 l0_4.length c0_4,.slice A0_5 l0_5.length c0_5,.int .i64 a0_6,.slice A0_7 l0_7.length c0_7,.slice A0_8 l0_8.length c0_8,.slice A0_9 l0_9.length c0_9,.int .i64 a0_10]) (t:=33) ?hr ?_;(case hd=>rfl);(case hg=>rfl);(case hr=>first|(go_simp;done)|(go_simp;rfl));intro gb220 hg w10 hbox hb;have n0_:=zz (zh zq1 hb);have n1_:=zz (hbox);have n2_:=zz ((by rw [hg];exact (zi zq1):w.heap.size≤gb220));have n3_:=zz ((by rw [hg];exact (zi zq1):w.heap.size≤gb220));clear HB;have HB:=n0_;have BK220:=n1_;have GW220:=n2_;have GE220:=n3_;clear n0_ n1_ n2_ n3_;clear hb hbox hg;have hcz11_0:w10.cell? ⟨gb220,0,none⟩=some (.int .i64 a0_0):=(zd BK220.out 0).trans rfl;have hcz11_1:w10.cell? ⟨gb220,1,none⟩=some (.int .i64 a0_1):=(zd BK220.out 1).trans rfl;have hcz11_2:w10.cell? ⟨gb220,2,none⟩=some (.int .i64 a0_2):=(zd BK220.out 2).trans rfl;have hcz11_3:w10.cell? ⟨gb220,3,none⟩=some (.slice A0_3 l0_3.length c0_3):=(zd BK220.out 3).trans rfl;have hcz11_4:w10.cell? ⟨gb220,4,none⟩=some (.slice A0_4 l0_4.length c0_4):=(zd BK220.out 4).trans rfl;have hcz11_5:w10.cell? ⟨gb220,5,none⟩=some (.slice A0_5 l0_5.length c0_5):=(zd BK220.out 5).trans rfl;have hcz11_6:w10.cell? ⟨gb220,6,none⟩=some (.int .i64 a0_6):=(zd BK220.out 6).trans rfl;have hcz11_7:w10.cell? ⟨gb220,7,none⟩=some (.slice A0_7 l0_7.length c0_7):=(zd BK220.out 7).trans rfl;have hcz11_8:w10.cell? ⟨gb220,8,none⟩=some (.slice A0_8 l0_8.length c0_8):=(zd BK220.out 8).trans rfl;have hcz11_9:w10.cell? ⟨gb220,9,none⟩=some (.slice A0_9 l0_9.length c0_9):=(zd BK220.out 9).trans rfl;have hcz11_10:w10.cell? ⟨gb220,10,none⟩=some (.int .i64 a0_10):=(zd BK220.out 10).trans rfl;have hfz11_0:=ze BK220.out 0;have hfz11_1:=ze BK220.out 1;have hfz11_2:=ze BK220.out 2;have hfz11_3:=ze BK220.out 3;have hfz11_4:=ze BK220.out 4;have hfz11_5:=ze BK220.out 5;have hfz11_6:=ze BK220.out 6;have hfz11_7:=ze BK220.out 7;have hfz11_8:=ze BK220.out 8;have hfz11_9:=ze BK220.out 9;have hfz11_10:=ze BK220.out 10)|((with_reducible refine zB (f:=30) rfl ?_);refine zR (some 8) rfl rfl Tryz.func30 zq7 rfl #[.agg #[.int .i64 a0_0,.int .i64 a0_1,.int .i64 a0_2,.slice A0_3 l0_3.length c0_3],.int .i64 a1] rfl zq4 ?_;(with_reducible refine (laws_szMeta.calls k a0_0 a0_1 a0_2 _ _ l0_3 a1 t221 _ ?side1 ?side2 A3.out).mono ?_);(case side1=>repeat (first|exact (Kd.C_below HR0_3.out HB.out)|(with_reducible refine Kd.C_alloc ?_ _)|(with_reducible refine Kd.C_drewN ?_ _)|(with_reducible refine Kd.C_drew ?_)));(case side2=>exact HC0_3.out);rintro e w12 ⟨rfl,hb⟩;refine ⟨_,rfl,?_⟩;have n0_:=zz (zo (g:=gb220) (o:= .cells #[.int .i64 a0_0,.int .i64 a0_1,.int .i64 a0_2,.slice A0_3 l0_3.length c0_3,.slice A0_4 l0_4.length c0_4,.slice A0_5 l0_5.length c0_5,.int .i64 a0_6,.slice A0_7 l0_7.length c0_7,.slice A0_8 l0_8.length c0_8,.slice A0_9 l0_9.length c0_9,.int .i64 a0_10] 33 (0,0)) (zq0 BK220.out) hb);have n1_:=zz (zh (zq3 GE220.out) hb);clear BK220;clear HB;have BK220:=n0_;have HB:=n1_;clear n0_ n1_;(try clear hb);(try clear hb2);(try clear hk);(try clear hi);have hcz13_0:w12.cell? ⟨gb220,0,none⟩=some (.int .i64 a0_0):=(zd BK220.out 0).trans rfl;have hcz13_1:w12.cell? ⟨gb220,1,none⟩=some (.int .i64 a0_1):=(zd BK220.out 1).trans rfl;have hcz13_2:w12.cell? ⟨gb220,2,none⟩=some (.int .i64 a0_2):=(zd BK220.out 2).trans rfl;have hcz13_3:w12.cell? ⟨gb220,3,none⟩=some (.slice A0_3 l0_3.length c0_3):=(zd BK220.out 3).trans rfl;have hcz13_4:w12.cell? ⟨gb220,4,none⟩=some (.slice A0_4 l0_4.length c0_4):=(zd BK220.out 4).trans rfl;have hcz13_5:w12.cell? ⟨gb220,5,none⟩=some (.slice A0_5 l0_5.length c0_5):=(zd BK220.out 5).trans rfl;have hcz13_6:w12.cell? ⟨gb220,6,none⟩=some (.int .i64 a0_6):=(zd BK220.out 6).trans rfl;have hcz13_7:w12.cell? ⟨gb220,7,none⟩=some (.slice A0_7 l0_7.length c0_7):=(zd BK220.out 7).trans rfl;have hcz13_8:w12.cell? ⟨gb220,8,none⟩=some (.slice A0_8 l0_8.length c0_8):=(zd BK220.out 8).trans rfl;have hcz13_9:w12.cell? ⟨gb220,9,none⟩=some (.slice A0_9 l0_9.length c0_9):=(zd BK220.out 9).trans rfl;have hcz13_10:w12.cell? ⟨gb220,10,none⟩=some (.int .i64 a0_10):=(zd BK220.out 10).trans rfl;have hfz13_0:=ze BK220.out 0;have hfz13_1:=ze BK220.out 1;have hfz13_2:=ze BK220.out 2;have hfz13_3:=ze BK220.out 3;have hfz13_4:=ze BK220.out 4;have hfz13_5:=ze BK220.out 5;have hfz13_6:=ze BK220.out 6;have hfz13_7:=ze BK220.out 7;have hfz13_8:=ze BK220.out 8;have hfz13_9:=ze BK220.out 9;have hfz13_10:=ze BK220.out 10)|((with_reducible refine zB (f:=31) rfl ?_);refine zR (some 14) rfl rfl Tryz.func31 zq7 rfl #[.agg #[.slice A0_4 l0_4.length c0_4,.slice A0_5 l0_5.length c0_5,.int .i64 a0_6,.slice A0_7 l0_7.length c0_7,.slice A0_8 l0_8.length c0_8,.slice A0_9 l0_9.length c0_9],.int .i64 t221] rfl zq4 ?_;(with_reducible refine (laws_szWork.calls k _ _ l0_4 _ _ l0_5 a0_6 _ _ l0_7 _ _ l0_8 _ _ l0_9 t221 t222 _ ?side1 ?side2 ?side3 ?side4 ?side5 ?side6 ?side7 ?side8 ?side9 ?side10 A8.out).mono ?_);(case side1=>repeat (first|exact (Kd.C_below HR0_4.out HB.out)|(with_reducible refine Kd.C_alloc ?_ _)|(with_reducible refine Kd.C_drewN ?_ _)|(with_reducible refine Kd.C_drew ?_)));(case side2=>exact HC0_4.out);(case side3=>repeat (first|exact (Kd.C_below HR0_5.out HB.out)|(with_reducible refine Kd.C_alloc ?_ _)|(with_reducible refine Kd.C_drewN ?_ _)|(with_reducible refine Kd.C_drew ?_)));(case side4=>exact HC0_5.out);(case side5=>repeat (first|exact (Kd.C_below HR0_7.out HB.out)|(with_reducible refine Kd.C_alloc ?_ _)|(with_reducible refine Kd.C_drewN ?_ _)|(with_reducible refine Kd.C_drew ?_)));(case side6=>exact HC0_7.out);(case side7=>repeat (first|exact (Kd.C_below HR0_8.out HB.out)|(with_reducible refine Kd.C_alloc ?_ _)|(with_reducible refine Kd.C_drewN ?_ _)|(with_reducible refine Kd.C_drew ?_)));(case side8=>exact HC0_8.out);(case side9=>repeat (first|exact (Kd.C_below HR0_9.out HB.out)|(with_reducible refine Kd.C_alloc ?_ _)|(with_reducible refine Kd.C_drewN ?_ _)|(with_reducible refine Kd.C_drew ?_)));(case side10=>exact HC0_9.out);rintro e w14 ⟨rfl,hb⟩;refine ⟨_,rfl,?_⟩;have n0_:=zz (zo (g:=gb220) (o:= .cells #[.int .i64 a0_0,.int .i64 a0_1,.int .i64 a0_2,.slice A0_3 l0_3.length c0_3,.slice A0_4 l0_4.length c0_4,.slice A0_5 l0_5.length c0_5,.int .i64 a0_6,.slice A0_7 l0_7.length c0_7,.slice A0_8 l0_8.length c0_8,.slice A0_9 l0_9.length c0_9,.int .i64 a0_10] 33 (0,0)) (zq0 BK220.out) hb);have n1_:=zz (zh (zq3 GE220.out) hb);clear BK220;clear HB;have BK220:=n0_;have HB:=n1_;clear n0_ n1_;(try clear hb);(try clear hb2);(try clear hk);(try clear hi)))
   go_ret
   exact ⟨by first|rfl|(simp [zw,zv]<;>rfl)|(simp [*,zw,zv]<;>rfl),by repeat (first|(with_reducible first|exact HB.out|apply zf|apply zg|apply zj|refine zx ?_ GE220.out)|exact HB.out)⟩
  ·rw [if_neg c9] at H
   have c9b0:decide (t222<0)=false:=decide_eq_false c9
   clear c9
   obtain rfl:=Option.some.inj H
   go_enter Tryz.func6,Tryz.ntmps6
   go_wp2_with (first|((with_reducible refine zn (N:=2) rfl ?_);refine zF ?hg (N:=2) ?hd (cs:= #[.int .i64 a0_0,.int .i64 a0_1,.int .i64 a0_2,.slice A0_3 l0_3.length c0_3,.slice A0_4 l0_4.length c0_4,.slice A0_5 l0_5.length c0_5,.int .i64 a0_6,.slice A0_7 l0_7.length c0_7,.slice A0_8 l0_8.length c0_8,.slice A0_9 l0_9.length c0_9,.int .i64 a0_10]) (t:=33) ?hr ?_;(case hd=>rfl);(case hg=>rfl);(case hr=>first|(go_simp;done)|(go_simp;rfl));intro gb220 hg w15 hbox hb;have n0_:=zz (zh zq1 hb);have n1_:=zz (hbox);have n2_:=zz ((by rw [hg];exact (zi zq1):w.heap.size≤gb220));have n3_:=zz ((by rw [hg];exact (zi zq1):w.heap.size≤gb220));clear HB;have HB:=n0_;have BK220:=n1_;have GW220:=n2_;have GE220:=n3_;clear n0_ n1_ n2_ n3_;clear hb hbox hg;have hcz16_0:w15.cell? ⟨gb220,0,none⟩=some (.int .i64 a0_0):=(zd BK220.out 0).trans rfl;have hcz16_1:w15.cell? ⟨gb220,1,none⟩=some (.int .i64 a0_1):=(zd BK220.out 1).trans rfl;have hcz16_2:w15.cell? ⟨gb220,2,none⟩=some (.int .i64 a0_2):=(zd BK220.out 2).trans rfl;have hcz16_3:w15.cell? ⟨gb220,3,none⟩=some (.slice A0_3 l0_3.length c0_3):=(zd BK220.out 3).trans rfl;have hcz16_4:w15.cell? ⟨gb220,4,none⟩=some (.slice A0_4 l0_4.length c0_4):=(zd BK220.out 4).trans rfl;have hcz16_5:w15.cell? ⟨gb220,5,none⟩=some (.slice A0_5 l0_5.length c0_5):=(zd BK220.out 5).trans rfl;have hcz16_6:w15.cell? ⟨gb220,6,none⟩=some (.int .i64 a0_6):=(zd BK220.out 6).trans rfl;have hcz16_7:w15.cell? ⟨gb220,7,none⟩=some (.slice A0_7 l0_7.length c0_7):=(zd BK220.out 7).trans rfl;have hcz16_8:w15.cell? ⟨gb220,8,none⟩=some (.slice A0_8 l0_8.length c0_8):=(zd BK220.out 8).trans rfl;have hcz16_9:w15.cell? ⟨gb220,9,none⟩=some (.slice A0_9 l0_9.length c0_9):=(zd BK220.out 9).trans rfl;have hcz16_10:w15.cell? ⟨gb220,10,none⟩=some (.int .i64 a0_10):=(zd BK220.out 10).trans rfl;have hfz16_0:=ze BK220.out 0;have hfz16_1:=ze BK220.out 1;have hfz16_2:=ze BK220.out 2;have hfz16_3:=ze BK220.out 3;have hfz16_4:=ze BK220.out 4;have hfz16_5:=ze BK220.out 5;have hfz16_6:=ze BK220.out 6;have hfz16_7:=ze BK220.out 7;have hfz16_8:=ze BK220.out 8;have hfz16_9:=ze BK220.out 9;have hfz16_10:=ze BK220.out 10)|((with_reducible refine zB (f:=30) rfl ?_);refine zR (some 8) rfl rfl Tryz.func30 zq7 rfl #[.agg #[.int .i64 a0_0,.int .i64 a0_1,.int .i64 a0_2,.slice A0_3 l0_3.length c0_3],.int .i64 a1] rfl zq4 ?_;(with_reducible refine (laws_szMeta.calls k a0_0 a0_1 a0_2 _ _ l0_3 a1 t221 _ ?side1 ?side2 A3.out).mono ?_);(case side1=>repeat (first|exact (Kd.C_below HR0_3.out HB.out)|(with_reducible refine Kd.C_alloc ?_ _)|(with_reducible refine Kd.C_drewN ?_ _)|(with_reducible refine Kd.C_drew ?_)));(case side2=>exact HC0_3.out);rintro e w17 ⟨rfl,hb⟩;refine ⟨_,rfl,?_⟩;have n0_:=zz (zo (g:=gb220) (o:= .cells #[.int .i64 a0_0,.int .i64 a0_1,.int .i64 a0_2,.slice A0_3 l0_3.length c0_3,.slice A0_4 l0_4.length c0_4,.slice A0_5 l0_5.length c0_5,.int .i64 a0_6,.slice A0_7 l0_7.length c0_7,.slice A0_8 l0_8.length c0_8,.slice A0_9 l0_9.length c0_9,.int .i64 a0_10] 33 (0,0)) (zq0 BK220.out) hb);have n1_:=zz (zh (zq3 GE220.out) hb);clear BK220;clear HB;have BK220:=n0_;have HB:=n1_;clear n0_ n1_;(try clear hb);(try clear hb2);(try clear hk);(try clear hi);have hcz18_0:w17.cell? ⟨gb220,0,none⟩=some (.int .i64 a0_0):=(zd BK220.out 0).trans rfl;have hcz18_1:w17.cell? ⟨gb220,1,none⟩=some (.int .i64 a0_1):=(zd BK220.out 1).trans rfl;have hcz18_2:w17.cell? ⟨gb220,2,none⟩=some (.int .i64 a0_2):=(zd BK220.out 2).trans rfl;have hcz18_3:w17.cell? ⟨gb220,3,none⟩=some (.slice A0_3 l0_3.length c0_3):=(zd BK220.out 3).trans rfl;have hcz18_4:w17.cell? ⟨gb220,4,none⟩=some (.slice A0_4 l0_4.length c0_4):=(zd BK220.out 4).trans rfl;have hcz18_5:w17.cell? ⟨gb220,5,none⟩=some (.slice A0_5 l0_5.length c0_5):=(zd BK220.out 5).trans rfl;have hcz18_6:w17.cell? ⟨gb220,6,none⟩=some (.int .i64 a0_6):=(zd BK220.out 6).trans rfl;have hcz18_7:w17.cell? ⟨gb220,7,none⟩=some (.slice A0_7 l0_7.length c0_7):=(zd BK220.out 7).trans rfl;have hcz18_8:w17.cell? ⟨gb220,8,none⟩=some (.slice A0_8 l0_8.length c0_8):=(zd BK220.out 8).trans rfl;have hcz18_9:w17.cell? ⟨gb220,9,none⟩=some (.slice A0_9 l0_9.length c0_9):=(zd BK220.out 9).trans rfl;have hcz18_10:w17.cell? ⟨gb220,10,none⟩=some (.int .i64 a0_10):=(zd BK220.out 10).trans rfl;have hfz18_0:=ze BK220.out 0;have hfz18_1:=ze BK220.out 1;have hfz18_2:=ze BK220.out 2;have hfz18_3:=ze BK220.out 3;have hfz18_4:=ze BK220.out 4;have hfz18_5:=ze BK220.out 5;have hfz18_6:=ze BK220.out 6;have hfz18_7:=ze BK220.out 7;have hfz18_8:=ze BK220.out 8;have hfz18_9:=ze BK220.out 9;have hfz18_10:=ze BK220.out 10)|((with_reducible refine zB (f:=31) rfl ?_);refine zR (some 14) rfl rfl Tryz.func31 zq7 rfl #[.agg #[.slice A0_4 l0_4.length c0_4,.slice A0_5 l0_5.length c0_5,.int .i64 a0_6,.slice A0_7 l0_7.length c0_7,.slice A0_8 l0_8.length c0_8,.slice A0_9 l0_9.length c0_9],.int .i64 t221] rfl zq4 ?_;(with_reducible refine (laws_szWork.calls k _ _ l0_4 _ _ l0_5 a0_6 _ _ l0_7 _ _ l0_8 _ _ l0_9 t221 t222 _ ?side1 ?side2 ?side3 ?side4 ?side5 ?side6 ?side7 ?side8 ?side9 ?side10 A8.out).mono ?_);(case side1=>repeat (first|exact (Kd.C_below HR0_4.out HB.out)|(with_reducible refine Kd.C_alloc ?_ _)|(with_reducible refine Kd.C_drewN ?_ _)|(with_reducible refine Kd.C_drew ?_)));(case side2=>exact HC0_4.out);(case side3=>repeat (first|exact (Kd.C_below HR0_5.out HB.out)|(with_reducible refine Kd.C_alloc ?_ _)|(with_reducible refine Kd.C_drewN ?_ _)|(with_reducible refine Kd.C_drew ?_)));(case side4=>exact HC0_5.out);(case side5=>repeat (first|exact (Kd.C_below HR0_7.out HB.out)|(with_reducible refine Kd.C_alloc ?_ _)|(with_reducible refine Kd.C_drewN ?_ _)|(with_reducible refine Kd.C_drew ?_)));(case side6=>exact HC0_7.out);(case side7=>repeat (first|exact (Kd.C_below HR0_8.out HB.out)|(with_reducible refine Kd.C_alloc ?_ _)|(with_reducible refine Kd.C_drewN ?_ _)|(with_reducible refine Kd.C_drew ?_)));(case side8=>exact HC0_8.out);(case side9=>repeat (first|exact (Kd.C_below HR0_9.out HB.out)|(with_reducible refine Kd.C_alloc ?_ _)|(with_reducible refine Kd.C_drewN ?_ _)|(with_reducible refine Kd.C_drew ?_)));(case side10=>exact HC0_9.out);rintro e w19 ⟨rfl,hb⟩;refine ⟨_,rfl,?_⟩;have n0_:=zz (zo (g:=gb220) (o:= .cells #[.int .i64 a0_0,.int .i64 a0_1,.int .i64 a0_2,.slice A0_3 l0_3.length c0_3,.slice A0_4 l0_4.length c0_4,.slice A0_5 l0_5.length c0_5,.int .i64 a0_6,.slice A0_7 l0_7.length c0_7,.slice A0_8 l0_8.length c0_8,.slice A0_9 l0_9.length c0_9,.int .i64 a0_10] 33 (0,0)) (zq0 BK220.out) hb);have n1_:=zz (zh (zq3 GE220.out) hb);clear BK220;clear HB;have BK220:=n0_;have HB:=n1_;clear n0_ n1_;(try clear hb);(try clear hb2);(try clear hk);(try clear hi)))
   go_ret
   exact ⟨by first|rfl|(simp [zw,zv]<;>rfl)|(simp [*,zw,zv]<;>rfl),by repeat (first|(with_reducible first|exact HB.out|apply zf|apply zg|apply zj|refine zx ?_ GE220.out)|exact HB.out)⟩
def szTxn_c_f (k:Nat) (z0:(S24×(List ByteArray×List S156×Int×List Int×List Int×List Int)×Int)) (a:Int):Option Int:=laws_szTxn.f k z0.1.f0 z0.1.f1 z0.1.f2 z0.1.f3 z0.2.1.1 z0.2.1.2.1 z0.2.1.2.2.1 z0.2.1.2.2.2.1 z0.2.1.2.2.2.2.1 z0.2.1.2.2.2.2.2 z0.2.2 a
theorem szTxn_c (k:Nat) (z0:(S24×(List ByteArray×List S156×Int×List Int×List Int×List Int)×Int)) {cs0:List Value} (a:Int) (r:Int) (w:World) (h0:kTxnL.K w z0 cs0) (hf:szTxn_c_f k z0 a=some r):
  Calls Tryz.prog 6 #[.agg cs0.toArray,.int .i64 a] w fun e w'=>e= .returned (.int .i64 r)∧Below w.heap.size w w':=by
 obtain ⟨y_0,⟨l_00,l_01,l_02,l_03,l_04,l_05⟩,n_0⟩:=z0
 obtain ⟨u_00_,_,rfl,g_00,u_01_,u_02_,rfl,g_01,g_02⟩:=h0
 obtain ⟨A_00,c_00,rfl,m_00,r_00⟩:=k24_open g_00
 obtain ⟨A_010,c_010,A_011,c_011,A_013,c_013,A_014,c_014,A_015,c_015,rfl,m_010,r_010,m_011,r_011,m_013,r_013,m_014,r_014,m_015,r_015⟩:=kWorkL_open g_01
 obtain rfl:u_02_=[.int .i64 n_0]:=g_02
 exact laws_szTxn.calls k y_0.f0 y_0.f1 y_0.f2 A_00 c_00 y_0.f3 A_010 c_010 l_00 A_011 c_011 l_01 l_02 A_013 c_013 l_03 A_014 c_014 l_04 A_015 c_015 l_05 n_0 a r w r_00 m_00 r_010 m_010 r_011 m_011 r_013 m_013 r_014 m_014 r_015 m_015 hf
theorem Env.mbound {w0 W:World} {top:Nat} {fs:List Fct} (E:Env w0 W top fs) (i:Nat) {α:Type} {d:Kd α} {base lo hi:Nat} {ok:Nat→Prop} {x:α} {cs:List Value} (hf:fs[i]?=some (Fct.made d base lo hi ok x cs)):∀k,ok k∧Iv lo hi k→k<W.heap.size:=
 fun k hk=>Nat.lt_of_lt_of_le hk.2.2 (Nat.le_trans (All.get i E.all hf).1 E.le)
theorem Env.marked {w0 W W':World} {top:Nat} {fs:List Fct} (E:Env w0 W top fs) (i:Nat) {α:Type} {d:Kd α} {lo hi:Nat} {ok:Nat→Prop} {x x':α} {cs:List Value} (hf:fs[i]?=some (Fct.made d w0.heap.size lo hi ok x cs)) (M:d.M W' w0.heap.size (fun k=>ok k∧Iv lo hi k) x' cs) (hB:Below w0.heap.size w0 W') (hK:Kept W W' (fun k=>ok k∧Iv lo hi k)) (ho:Off2 lo hi fs i):Env w0 W' top (fs.set i (Fct.made d w0.heap.size lo hi ok x' cs)):=
 ⟨hB,Nat.le_trans E.le hK.1,E.ge,All.off2 (fun k hk h2=>hK.2 k (Nat.lt_of_lt_of_le hk E.le) (fun h=>by have h3:=h.2.1;have h4:=h.2.2;omega)) (Nat.le_refl _) (f':=Fct.made d w0.heap.size lo hi ok x' cs) (show hi≤top from (All.get i E.all hf).1) M i E.all ho⟩
theorem eqI_ev1 (l:List Int) (h:l.length≤1048576):Ev (fun k=>laws_eqIntS.f k l l) true:=eqI_ev l zq5
theorem rd_T140_nat (xs:List S140) (k:Nat) (hk:k<xs.length):zra xs (k:Int)=xs[k]:=by
 simp [zra,List.getD_eq_getElem?_getD,List.getElem?_eq_getElem hk]
def sumF (l:List S140):Nat:=((l.map S140.f1).flatten).length
theorem sumF_cons (x:S140) (l:List S140):sumF (x::l)=x.f1.length+sumF l:=by simp [sumF]
theorem szF_go (l:List S140) (hs:∀s∈l,s.f1.length≤9223372036854775807) (hl:l.length≤9223372036854775807):∀(n i:Nat) (x:Int),i+n=l.length→0≤x→x≤1048576→∃r,laws_szFreeS.l0 (n+1) l x (i:Int)=some r∧(r<0∨(0≤r∧r≤x∧(sumF (l.drop i):Int)≤x)):=by
 intro n
 induction n with
 |zero=>
  intro i x hi h0 h1
  refine ⟨x,?_,.inr ⟨h0,Int.le_refl _,by rw [List.drop_eq_nil_of_le zq5];simpa [sumF] using h0⟩⟩
  rw [laws_szFreeS.l0,if_neg zq5]
 |succ n ih=>
  intro i x hi h0 h1
  have hlt:i<l.length:=by omega
  have hsz:=hs l[i] (List.getElem_mem hlt)
  have hdr:sumF (l.drop i)=l[i].f1.length+sumF (l.drop (i+1)):=by rw [List.drop_eq_getElem_cons hlt,sumF_cons]
  rw [laws_szFreeS.l0,if_pos zq5,if_pos zq5,rd_T140_nat _ _ hlt,laws_szFree.f,laws_szIntS.f,zP (x:=x-_) zq5 zq5,zP (x:=(i:Int)+1) zq5 zq5]
  by_cases hneg:x-(l[i].f1.length:Int)<0
  ·rw [if_pos hneg,Option.bind_some,if_pos zq5,Option.bind_some,if_pos zq5]
   exact ⟨-1,rfl,.inl zq5⟩
  ·rw [if_neg hneg,Option.bind_some,if_neg hneg,Option.bind_some,if_neg hneg]
   obtain ⟨r,h2,h3⟩:=ih (i+1) (x-(l[i].f1.length:Int)) zq5 zq5 zq5
   refine ⟨r,by rw [show (i:Int)+1=((i+1:Nat):Int) by omega];exact h2,?_⟩
   rcases h3 with h3|⟨h4,h5,h6⟩
   ·exact .inl h3
   ·exact .inr ⟨h4,by omega,by rw [hdr];omega⟩
theorem szM_ev (m0 m1 m2:Int) (l:List S140) (hs:∀s∈l,s.f1.length≤9223372036854775807) (hl:l.length≤9223372036854775807) (x:Int) (h0:0≤x) (h1:x≤1048576):∃r,Ev (fun k=>laws_szMeta.f k m0 m1 m2 l x) r∧(r<0∨(¬r<0∧r≤x∧l.length≤1048576∧sumF l≤1048576)):=by
 by_cases hneg:x-(l.length:Int)<0
 ·refine ⟨-1,Ev.of (k:=0) (fun k=>laws_szMeta.mono _ _ _ _ _ k) ?_,.inl zq5⟩
  unfold laws_szMeta.f laws_szFreeS.f
  rw [zP zq5 zq5,if_pos hneg,Option.bind_some,if_pos zq5]
 ·obtain ⟨r,h2,h3⟩:=szF_go l hs hl l.length 0 (x-(l.length:Int)) zq5 zq5 zq5
  have hev:∀r',(laws_szFreeS.l0 (l.length+1) l (x-(l.length:Int)) 0=some r)→(if r<0 then-1 else r)=r'→Ev (fun k=>laws_szMeta.f k m0 m1 m2 l x) r':=fun r' h e=>by
   refine Ev.of (k:=l.length+1) (fun k=>laws_szMeta.mono _ _ _ _ _ k) ?_
   unfold laws_szMeta.f laws_szFreeS.f
   rw [zP zq5 zq5,if_neg hneg,h,Option.bind_some,←e]
   split<;>rfl
  rcases h3 with h3|⟨h4,h5,h6⟩
  ·exact ⟨-1,hev _ h2 (if_pos h3),.inl zq5⟩
  ·refine ⟨r,hev _ h2 (if_neg zq5),.inr ⟨by omega,by omega,by omega,?_⟩⟩
   rw [List.drop_zero] at h6
   omega
theorem sumF_mem (l:List S140) (s:S140) (h:s∈l):s.f1.length≤sumF l:=by
 induction l with
 |nil=>cases h
 |cons x l ih=>
  rw [sumF_cons]
  rcases List.mem_cons.1 h with rfl|h
  ·omega
  ·have:=ih h;omega
def convF (x:S140):S112:=⟨x.f0,x.f1⟩
theorem toF_go (l:List S140) (hl:l.length≤1048576) (hs:∀s∈l,s.f1.length≤1048576):∀(n i:Nat),i+n=l.length→Ev (fun k=>laws_toFreeS.l0 k l ((l.map convF).take i++List.replicate n z112) (i:Int)) (l.map convF):=by
 intro n
 induction n with
 |zero=>
  intro i hi
  refine Ev.step (f:=fun _=>some (l.map convF)) (fun k=> ?_) (Ev.now _)
  rw [laws_toFreeS.l0,if_neg zq5,List.replicate_zero,List.append_nil,List.take_of_length_le (by rw [List.length_map];omega)]
 |succ n ih=>
  intro i hi
  have hlt:i<l.length:=by omega
  have hlt':i<(l.map convF).length:=by rw [List.length_map];exact hlt
  have hti:((l.map convF).take i).length=i:=by rw [List.length_take,List.length_map];omega
  refine Ev.step (f:=fun k=>(laws_toIntS.f k l[i].f1).bind fun t=>laws_toFreeS.l0 k l (((l.map convF).take i++z112::List.replicate n z112).set i ⟨l[i].f0,t⟩) ((i+1:Nat):Int)) (fun k=> ?_) (Ev.bind (toI_ev _ (hs _ (List.getElem_mem hlt))) ?_)
  ·rw [laws_toFreeS.l0,if_pos zq5,if_pos zq5,rd_T140_nat _ _ hlt,laws_toFree.f,zP zq5 zq5,Int.toNat_natCast,List.replicate_succ]
   cases laws_toIntS.f k l[i].f1 with
   |none=>rfl
   |some t=>
    simp only [Option.bind_some]
    rw [if_pos zq48]
    rfl
  ·have:=set_front ((l.map convF).take i) (List.replicate n z112) z112 (convF l[i])
   rw [hti] at this
   show Ev (fun k=>laws_toFreeS.l0 k l (((l.map convF).take i++z112::List.replicate n z112).set i (convF l[i])) _) _
   rw [this,show convF l[i]=(l.map convF)[i] by rw [List.getElem_map],List.take_append_getElem hlt']
   exact ih (i+1) zq5
theorem toM_ev (m0 m1 m2:Int) (l:List S140) (hl:l.length≤1048576) (hs:∀s∈l,s.f1.length≤1048576):Ev (fun k=>laws_toMeta.f k m0 m1 m2 l) (m0,m1,m2,l.map convF):=by
 refine Ev.bind (a:=l.map convF) ?_ (Ev.now _)
 have h:=toF_go l hl hs l.length 0 zq5
 refine Ev.congr (f:=fun k=>laws_toFreeS.l0 k l ((l.map convF).take 0++List.replicate l.length z112) 0) (fun k=> ?_) h
 unfold laws_toFreeS.f
 rw [if_pos zq5,if_pos (by rw [Int.toNat_natCast];omega),Int.toNat_natCast,List.take_zero,List.nil_append]
theorem zGb (xs:List S112) (k:Nat) (hk:k<xs.length):zH xs (k:Int)=xs[k]:=by
 simp [zH,List.getD_eq_getElem?_getD,List.getElem?_eq_getElem hk]
theorem eqF_go (l:List S112) (hl:l.length≤1048576) (hs:∀s∈l,s.f1.length≤1048576):∀(n i:Nat),i+n=l.length→Ev (fun k=>laws_eqFreeS.l0 k l l (i:Int)) true:=by
 intro n
 induction n with
 |zero=>
  intro i hi
  exact Ev.step (f:=fun _=>some true) (fun k=>by rw [laws_eqFreeS.l0,if_neg zq5]) (Ev.now _)
 |succ n ih=>
  intro i hi
  have hlt:i<l.length:=by omega
  refine Ev.step (f:=fun k=>(laws_eqIntS.f k l[i].f1 l[i].f1).bind fun t=>if t=true then laws_eqFreeS.l0 k l l ((i+1:Nat):Int) else none) (fun k=> ?_) (Ev.bind (eqI_ev1 _ (hs _ (List.getElem_mem hlt))) ?_)
  ·rw [laws_eqFreeS.l0,if_pos zq5,if_pos zq5,if_pos zq5,zGb _ _ hlt,laws_eqFree.f,if_pos rfl,zP zq5 zq5]
   cases laws_eqIntS.f k l[i].f1 l[i].f1 with
   |none=>rfl
   |some t=>cases t<;>rfl
  ·simp only [if_true]
   exact ih (i+1) zq5
theorem eqM_ev (m0 m1 m2:Int) (l:List S112) (hl:l.length≤1048576) (hs:∀s∈l,s.f1.length≤1048576):Ev (fun k=>laws_eqMeta.f k m0 m1 m2 l m0 m1 m2 l) true:=by
 have h:=eqF_go l hl hs l.length 0 zq5
 refine Ev.congr (f:=fun k=>(laws_eqFreeS.l0 k l l 0).bind fun t=>if t=true then some true else none) (fun k=> ?_) (Ev.bind h (Ev.now _))
 unfold laws_eqMeta.f laws_eqFreeS.f
 rw [if_pos rfl,if_pos rfl,if_pos rfl,if_pos rfl]
def OKm (l:List S140):Prop:=l.length≤1048576∧∀s∈l,s.f1.length≤1048576
def INm (l:List S140):Prop:=(∀s∈l,s.f1.length≤9223372036854775807)∧l.length≤9223372036854775807
theorem szMx (m0 m1 m2:Int) (l:List S140) (h:INm l) (x:Int) (h0:0≤x) (hx:x≤1048576):∃r,Ev (fun k=>laws_szMeta.f k m0 m1 m2 l x) r∧(r<0∨(0≤r∧r≤x∧OKm l)):=by
 obtain ⟨r,e,hr⟩:=szM_ev m0 m1 m2 l h.1 h.2 x h0 hx
 refine ⟨r,e,?_⟩
 rcases hr with hr|⟨a,b,c,d⟩
 ·exact .inl hr
 ·exact .inr ⟨by omega,b,c,fun s hs=>Nat.le_trans (sumF_mem l s hs) d⟩
def OKn (l:List S112):Prop:=l.length≤1048576∧∀s∈l,s.f1.length≤1048576
theorem OKn_conv {l:List S140} (h:OKm l):OKn (l.map convF):=⟨by rw [List.length_map];exact h.1,fun s hs=>by obtain ⟨y,hy,rfl⟩:=List.mem_map.1 hs;exact h.2 y hy⟩
theorem szTx (a b c:Int) (fr:List S140) (pages:List ByteArray) (late:List S156) (n:Int) (u g f:List Int) (q:Int) (hm:INm fr) (hd:INd pages late) (hu:INi u) (hg:INi g) (hf:INi f) (x:Int) (h0:0≤x) (hx:x≤1048576):∃r,Ev (fun k=>laws_szTxn.f k a b c fr pages late n u g f q x) r∧(r<0∨(0≤r∧r≤x∧OKm fr∧Small pages late∧u.length≤1048576∧g.length≤1048576∧f.length≤1048576)):=by
 unfold laws_szTxn.f
 exact sz_step (szMx a b c fr hm x h0 hx) fun y y0 y1=>sz_end (szWx pages late n u g f hd hu hg hf y y0 zq5)
theorem mhF:∀(n i:Nat) (l:List S112) (a:Int),i+n=l.length→0<a→a+n*1048577<4000000000000000000→l.length≤2000000→(∀j (h:j<l.length),i≤j→l[j].f1.length≤1048576)→∃l' c,0≤c∧c≤(n:Int)*1048577∧Ev (fun k=>markF.l0 k l a (i:Int)) (a+c,l')∧l'.length=l.length∧(∀j,j<i→l'[j]?=l[j]?)∧Ev (fun k=>laws_heldFreeS.l0 k l' a (i:Int)) (a+c):=by
 intro n
 induction n with
 |zero=>
  intro i l a hi h0 h1 hl hs
  refine ⟨l,0,by omega,by omega,Ev.step (f:=fun _=>some (a+0,l)) (fun k=> ?_) (Ev.now _),rfl,fun _ _=>rfl,Ev.step (f:=fun _=>some (a+0)) (fun k=> ?_) (Ev.now _)⟩
  ·rw [markF.l0,if_neg zq5]
   simp
  ·rw [laws_heldFreeS.l0,if_neg zq5]
   simp
 |succ n ih=>
  intro i l a hi h0 h1 hl hs
  have hlt0:i<l.length:=by omega
  have hsi:=hs i hlt0 (Nat.le_refl _)
  obtain ⟨p,g1,g2⟩:=mhI_ev l[i].f1 (a+1) zq5 zq5 zq5
  obtain ⟨l',c,c0,c1,e1,e2,e3,e4⟩:=ih (i+1) (l.set i (⟨a,p⟩:S112)) (a+1+l[i].f1.length) zq57 zq5 zq5 (by rw [List.length_set];exact hl) (fun j h hj=>by
   rw [List.length_set] at h
   rw [List.getElem_set_ne zq5]
   exact hs j h zq5)
  rw [List.length_set] at e2
  have hlt:i<l'.length:=by omega
  have hat:l'[i]?=some (⟨a,p⟩:S112):=by rw [e3 i (Nat.lt_succ_self i),List.getElem?_set_self zq5]
  have hget:l'[i]=(⟨a,p⟩:S112):=by rw [List.getElem?_eq_getElem hlt] at hat;exact Option.some.inj hat
  have hn:a+1+(l[i].f1.length:Int)+c=a+(1+(l[i].f1.length:Int)+c):=by omega
  rw [hn] at e1 e4
  refine ⟨l',1+(l[i].f1.length:Int)+c,by omega,by omega,Ev.step (f:=fun k=>(laws_markIntS.f k l[i].f1 (a+1)).bind fun b=>markF.l0 k (l.set i (⟨a,b.2⟩:S112)) b.1 ((i+1:Nat):Int)) (fun k=> ?_) (Ev.bind g1 e1),e2,fun j hj=> ?_,Ev.step (f:=fun k=>(laws_heldIntS.f k p (a+1)).bind fun t=>if t<0 then none else laws_heldFreeS.l0 k l' t ((i+1:Nat):Int)) (fun k=> ?_) (Ev.bind g2 (by simp only [if_neg (show ¬a+1+(l[i].f1.length:Int)<0 by omega)];exact e4))⟩
  ·rw [markF.l0,if_pos zq5,if_pos zq5,zGb _ _ hlt0,zP (x:=a+1) zq5 zq5,zP (x:=(i:Int)+1) zq5 zq5,Int.toNat_natCast]
   rfl
  ·rw [e3 j zq5,List.getElem?_set_ne zq5]
  ·rw [laws_heldFreeS.l0,if_pos zq5,if_pos zq5,zGb _ _ hlt,hget,if_pos rfl,zP (x:=a+1) zq5 zq5,zP (x:=(i:Int)+1) zq5 zq5]
   rfl
theorem mhF_ev (l:List S112) (a:Int) (h0:0<a) (h1:a+l.length*1048577<4000000000000000000) (hl:OKn l):∃l' c,0≤c∧c≤(l.length:Int)*1048577∧Ev (fun k=>markF.l0 k l a 0) (a+c,l')∧Ev (fun k=>laws_heldFreeS.f k l' a) (a+c):=by
 obtain ⟨l',c,c0,c1,e1,_,_,e4⟩:=mhF l.length 0 l a zq5 h0 h1 (by have:=hl.1;omega) (fun j h _=>hl.2 _ (List.getElem_mem h))
 exact ⟨l',c,c0,c1,e1,e4⟩
def EvP (P:Nat→Prop):Prop:=∃K,∀k,K≤k→P k
theorem EvP.and {P Q:Nat→Prop} (h:EvP P) (h2:EvP Q):EvP (fun k=>P k∧Q k):=by
 obtain ⟨K,h⟩:=h
 obtain ⟨J,h2⟩:=h2
 exact ⟨K+J,fun k hk=>⟨h k zq5,h2 k zq5⟩⟩
theorem EvP.now {P:Prop} (h:P):EvP (fun _=>P):=⟨0,fun _ _=>h⟩
theorem EvP.imp {P Q:Nat→Prop} (h:EvP P) (hi:∀k,P k→Q k):EvP Q:=by
 obtain ⟨K,h⟩:=h
 exact ⟨K,fun k hk=>hi k (h k hk)⟩
theorem EvP.of {α:Type} {f:Nat→Option α} {r:α} (h:Ev f r):EvP (fun k=>f k=some r):=h
def convM (x:S24):S40:=⟨x.f0,x.f1,x.f2,x.f3.map convF⟩
def MHead (x:S40):Prop:=(0≤x.f0∧x.f0≤100000)∧(2≤x.f2∧x.f2≤40)∧(x.f1=0∨(2≤x.f1∧x.f1≤x.f2-1))∧x.f3.length≤20
def FrHead (x:S40) (i:Nat) (f:S112):Prop:=(1≤f.f0∧f.f0≤x.f0)∧(∀g:S112,0<i→x.f3[i-1]?=some g→g.f0<f.f0)∧(1≤f.f1.length∧f.f1.length≤40)
def PgOk (x:S40) (seen ps:List Int) (k:Nat) (p:Int):Prop:=(2≤p∧p≤x.f2-1)∧(∀q:Int,0<k→ps[k-1]?=some q→q<p)∧p∉seen++ps.take k
def zqa (x:S40) (i:Nat):List Int:=x.f1::(x.f3.take i).flatMap (·.f1)
def FrPages (x:S40) (i:Nat) (f:S112):Prop:=∀k p,f.f1[k]?=some p→PgOk x (zqa x i) f.f1 k p
def MOk (x:S40):Prop:=MHead x∧∀i f,x.f3[i]?=some f→FrHead x i f∧FrPages x i f
theorem seen_succ {x:S40} {i:Nat} {f:S112} (h:x.f3[i]?=some f):zqa x (i+1)=zqa x i++f.f1:=by
 obtain ⟨hi,rfl⟩:=List.getElem?_eq_some_iff.1 h
 show x.f1::(x.f3.take (i+1)).flatMap (·.f1)=(x.f1::(x.f3.take i).flatMap (·.f1))++x.f3[i].f1
 rw [List.take_succ_eq_append_getElem hi,List.flatMap_append]
 show _::(_++(x.f3[i].f1++[]))=_::(_++_)
 rw [List.append_nil]
def inB (a lo hi:Int):Bool:=decide (lo≤a)&&decide (a≤hi)
theorem zYa {a lo hi:Int} (h:lo≤a∧a≤hi):inB a lo hi=true:=by simp [inB,h.1,h.2]
theorem inB_f {a lo hi:Int} (h:¬(lo≤a∧a≤hi)):inB a lo hi=false:=by
 simp only [inB,Bool.and_eq_false_iff,decide_eq_false_iff_not]
 omega
theorem inB_at {a lo hi:Int} (h:lo≤a):decide (a≤hi)=inB a lo hi:=by simp [inB,h]
theorem inB_af {a lo hi:Int} (h:¬lo≤a):false=inB a lo hi:=by simp only [inB,h,decide_false,Bool.false_and]
theorem rb {a b:Bool} (h:a=b):Ending.returned (.bool a)= .returned (.bool b):=by rw [h]
def hasB (l:List Int) (x:Int):Bool:=decide (x∈l)
theorem inS (a lo hi:Int) (w:World):Calls Tryz.prog 77 #[.int .i64 a,.int .i64 lo,.int .i64 hi] w fun e w'=>e= .returned (.bool (inB a lo hi))∧w=w':=by
 by_cases h:lo≤a
 ·go_enter Tryz.func77,Tryz.ntmps77
  go_wp2
  go_ret
  exact ⟨rb (inB_at h),rfl⟩
 ·go_enter Tryz.func77,Tryz.ntmps77
  go_wp2
  go_ret
  exact ⟨rb (inB_af zq5),rfl⟩
theorem inI (a lo hi:Int) (w:World):Calls Tryz.prog 118 #[.int .i64 a,.int .i64 lo,.int .i64 hi] w fun e w'=>e= .returned (.bool (inB a lo hi))∧w=w':=by
 by_cases h:lo≤a
 ·go_enter Tryz.func118,Tryz.ntmps118
  go_wp2
  go_ret
  exact ⟨rb (inB_at h),rfl⟩
 ·go_enter Tryz.func118,Tryz.ntmps118
  go_wp2
  go_ret
  exact ⟨rb (inB_af zq5),rfl⟩
theorem C_at {w:World} {A:Option Addr} {n:Nat} {xs:List Int} (h:Kd.C (Kd.int .i64) w A n xs) {i:Nat} (hi:i<xs.length):∃ad,A=some ad∧w.cell? (ad.add i)=some (.int .i64 xs[i]):=by
 obtain ⟨ad,v,cs,e,hk,hc,-⟩:=elem_at h hi zq14
 refine ⟨ad,e,?_⟩
 have:v::cs=[.int .i64 xs[i]]:=hk
 injection this with h1 h2
 rw [←h1]
 rw [show i*(Kd.int .i64).sz=i from Nat.mul_one i] at hc
 exact hc
theorem hasS (xs:List Int) (x:Int) (A:Option Addr) (c:Nat) (w:World) (h:Kd.C (Kd.int .i64) w A xs.length xs) (hl:xs.length≤2000000):Calls Tryz.prog 78 #[.slice A xs.length c,.int .i64 x] w fun e w'=>e= .returned (.bool (hasB xs x))∧w=w':=by
 have H:=zz h
 clear h
 go_enter Tryz.func78,Tryz.ntmps78
 go_wp2
 go_loop [5] (fun v5=>∃i:Nat,v5= .int .i64 (i:Int)∧i≤xs.length∧Z0 (x∉xs.take i)) (fun v5=>xs.length-(intOf v5).toNat)
 case atStart=>exact ⟨0,rfl,Nat.zero_le _,⟨by simp⟩⟩
 case round=>
  obtain ⟨i,rfl,hi,HN⟩:=hrel
  by_cases hlt:i<xs.length
  ·obtain ⟨ad,hA,hc⟩:=C_at H.out hlt
   subst hA
   have c3:((0:Int)≤(i:Int))=True:=eq_true zq5
   have c2:((i:Int)<(xs.length:Int))=True:=eq_true zq5
   obtain ⟨y,hy⟩:∃y,y=xs[i]:=⟨_,rfl⟩
   rw [←hy] at hc
   have HY:=zz hy
   clear hy
   by_cases e:y=x
   ·subst e
    have e1:(y==y)=true:=beq_self_eq_true y
    go_wp2
    go_ret
    exact ⟨rb (show true=hasB xs y from (decide_eq_true (by rw [HY.out];exact List.getElem_mem hlt)).symm),rfl⟩
   ·have e1:(y==x)=false:=beq_eq_false_iff_ne.2 e
    have HE:=zz e
    clear e
    go_wp2
    go_round
    case rel=>exact ⟨i+1,by go_num,by omega,⟨by
     rw [List.take_succ_eq_append_getElem hlt,←HY.out]
     simp only [List.mem_append,List.mem_singleton,not_or]
     exact ⟨HN.out,fun h=>HE.out h.symm⟩⟩⟩
    case measure=>simp [intOf];omega
  ·have:i=xs.length:=by omega
   subst this
   go_wp2
   go_ret
   exact ⟨rb (show false=hasB xs x from (decide_eq_false (by have:=HN.out;rwa [List.take_length] at this)).symm),rfl⟩
theorem inSq (a lo hi:Int) (w:World) (n:Nat):Calls Tryz.prog 77 #[.int .i64 a,.int .i64 lo,.int .i64 hi] (w.drewN n) fun e w''=>e= .returned (.bool (inB a lo hi))∧∃m,w''=w.drewN m:=(inS a lo hi _).mono fun _ _ h=>⟨h.1,n,h.2.symm⟩
theorem hasSq (xs:List Int) (x:Int) (A:Option Addr) (c:Nat) (w:World) (n:Nat) (h:Kd.C (Kd.int .i64) w A xs.length xs) (hl:xs.length≤2000000):Calls Tryz.prog 78 #[.slice A xs.length c,.int .i64 x] (w.drewN n) fun e w''=>e= .returned (.bool (hasB xs x))∧∃m,w''=w.drewN m:=(hasS xs x A c _ (Kd.C_drewN h n) hl).mono fun _ _ h=>⟨h.1,n,h.2.symm⟩
structure SeenAt (w w':World) (cs:List Value) (seen:List Int) (v:Value):Prop where
 row:Kd.R (Kd.int .i64) 3 w' w.heap.size (fun k=>w.heap.size<k) v seen
 box:w'.heap[w.heap.size]?=some (.cells cs.toArray 40 (0,0))
 bel:Below w.heap.size w w'
theorem SeenAt.step {w w' w2:World} {cs:List Value} {seen:List Int} {v:Value} (h:SeenAt w w' cs seen v) (hb:Below w'.heap.size w' w2):SeenAt w w2 cs seen v:=⟨Kd.R_below h.row hb,zo h.box hb,zh h.bel hb⟩
theorem R_one (n:Int) (base:Nat) (w:World) (ok:Nat→Prop) (hb:base≤w.heap.size) (hok:ok w.heap.size):Kd.R (Kd.int .i64) 3 (w.alloc (.cells #[.int .i64 n] 3)) base ok (.slice (some ⟨w.heap.size,0,none⟩) 1 1) [n]:=
 ⟨fun k hk=>by simp [Value.ownBlock] at hk;rw [←hk];exact hok,[.int .i64 n],⟨rfl,.inr ⟨w.heap.size,1,#[.int .i64 n],rfl,hb,heap_alloc_new w _,Nat.le_refl _,by decide,rfl,rfl⟩⟩,Reps.one (rfl:(Kd.int .i64).M _ base _ n [.int .i64 n]) (Reps.none _ _)⟩
theorem seen0 (x:S40) (cs:List Value) (w:World):SeenAt w ((w.alloc (.cells cs.toArray 40)).alloc (.cells #[.int .i64 x.f1] 3)) cs (zqa x 0) (.slice (some ⟨w.heap.size+1,0,none⟩) 1 1):=by
 refine ⟨?_,zl (zia w _) _,zf (zf (Below.refl _ _) _) _⟩
 have h:=R_one x.f1 w.heap.size (w.alloc (.cells cs.toArray 40)) (fun k=>w.heap.size<k) zq16 zq16
 rwa [show (w.alloc (.cells cs.toArray 40)).heap.size=w.heap.size+1 by simp] at h
theorem zV (w:World) (n:Nat):Below w.heap.size w (w.drewN n):=zg (Below.refl _ _) n
theorem zk {w w2:World} {a:Addr} {v:Value} (h:w.cell? a=some v) (hb:Below w.heap.size w w2):w2.cell? a=some v:=(hb.cell (World.block_lt_of_cell? w _ h)).trans h
theorem bfalse {b:Bool} {p:Prop} (h:b=true↔p) (hn:¬p):false=b:=by
 cases b
 ·rfl
 ·exact absurd (h.1 rfl) hn
theorem fr_ways (x:S40) (i:Nat) (f:S112) (b:Bool) (hb:b=true↔MOk x) (hi:x.f3[i]?=some f):
  (false=b∧((inB f.f0 1 x.f0=false)∨(inB f.f0 1 x.f0=true∧i=0∧inB (f.f1.length:Int) 1 40=false)∨(inB f.f0 1 x.f0=true∧∃p,x.f3[i-1]?=some p∧0<i∧f.f0≤p.f0)∨(inB f.f0 1 x.f0=true∧∃p,x.f3[i-1]?=some p∧0<i∧¬f.f0≤p.f0∧inB (f.f1.length:Int) 1 40=false)))∨
  (FrHead x i f∧inB f.f0 1 x.f0=true∧inB (f.f1.length:Int) 1 40=true∧(i=0∨∃p,x.f3[i-1]?=some p∧0<i∧¬f.f0≤p.f0)):=by
 have hilt:=(List.getElem?_eq_some_iff.1 hi).1
 have nb:¬FrHead x i f→false=b:=fun h=>bfalse hb (fun hm=>h (hm.2 i f hi).1)
 by_cases h1:1≤f.f0∧f.f0≤x.f0
 ·by_cases h3:1≤(f.f1.length:Int)∧(f.f1.length:Int)≤40
  ·by_cases hz:i=0
   ·exact .inr ⟨⟨h1,fun g h0 _=>absurd h0 zq5,by omega⟩,zYa h1,zYa h3,.inl hz⟩
   ·have hp:x.f3[i-1]?=some (x.f3[i-1]'zq5):=List.getElem?_eq_getElem zq5
    by_cases h2:f.f0≤(x.f3[i-1]'zq5).f0
    ·exact .inl ⟨nb (fun h=>by have:=h.2.1 _ zq5 hp;omega),.inr (.inr (.inl ⟨zYa h1,_,hp,by omega,h2⟩))⟩
    ·exact .inr ⟨⟨h1,fun g _ hg=>by rw [hp] at hg;injection hg with hg;subst hg;omega,by omega⟩,zYa h1,zYa h3,.inr ⟨_,hp,by omega,h2⟩⟩
  ·have nh:false=b:=nb (fun h=>h3 (by have:=h.2.2;omega))
   by_cases hz:i=0
   ·exact .inl ⟨nh,.inr (.inl ⟨zYa h1,hz,inB_f h3⟩)⟩
   ·have hp:x.f3[i-1]?=some (x.f3[i-1]'zq5):=List.getElem?_eq_getElem zq5
    by_cases h2:f.f0≤(x.f3[i-1]'zq5).f0
    ·exact .inl ⟨nh,.inr (.inr (.inl ⟨zYa h1,_,hp,by omega,h2⟩))⟩
    ·exact .inl ⟨nh,.inr (.inr (.inr ⟨zYa h1,_,hp,by omega,h2,inB_f h3⟩))⟩
 ·exact .inl ⟨nb (fun h=>h1 h.1),.inl (inB_f h1)⟩
theorem pg_ways (x:S40) (i:Nat) (f:S112) (k:Nat) (p:Int) (b:Bool) (hb:b=true↔MOk x) (hi:x.f3[i]?=some f) (hk:f.f1[k]?=some p):
  (false=b∧((inB p 2 (x.f2-1)=false)∨(inB p 2 (x.f2-1)=true∧k=0∧hasB (zqa x i++f.f1.take k) p=true)∨(inB p 2 (x.f2-1)=true∧∃q,f.f1[k-1]?=some q∧0<k∧p≤q)∨(inB p 2 (x.f2-1)=true∧∃q,f.f1[k-1]?=some q∧0<k∧¬p≤q∧hasB (zqa x i++f.f1.take k) p=true)))∨
  (PgOk x (zqa x i) f.f1 k p∧inB p 2 (x.f2-1)=true∧hasB (zqa x i++f.f1.take k) p=false∧(k=0∨∃q,f.f1[k-1]?=some q∧0<k∧¬p≤q)):=by
 have hklt:=(List.getElem?_eq_some_iff.1 hk).1
 have nb:¬PgOk x (zqa x i) f.f1 k p→false=b:=fun h=>bfalse hb (fun hm=>h ((hm.2 i f hi).2 k p hk))
 by_cases h1:2≤p∧p≤x.f2-1
 ·by_cases h3:p∈zqa x i++f.f1.take k
  ·have nh:false=b:=nb (fun h=>h.2.2 h3)
   have h3':hasB (zqa x i++f.f1.take k) p=true:=decide_eq_true h3
   by_cases hz:k=0
   ·exact .inl ⟨nh,.inr (.inl ⟨zYa h1,hz,h3'⟩)⟩
   ·have hp:f.f1[k-1]?=some (f.f1[k-1]'zq5):=List.getElem?_eq_getElem zq5
    by_cases h2:p≤f.f1[k-1]'zq5
    ·exact .inl ⟨nh,.inr (.inr (.inl ⟨zYa h1,_,hp,by omega,h2⟩))⟩
    ·exact .inl ⟨nh,.inr (.inr (.inr ⟨zYa h1,_,hp,by omega,h2,h3'⟩))⟩
  ·have h3':hasB (zqa x i++f.f1.take k) p=false:=decide_eq_false h3
   by_cases hz:k=0
   ·exact .inr ⟨⟨h1,fun q h0 _=>absurd h0 zq5,h3⟩,zYa h1,h3',.inl hz⟩
   ·have hp:f.f1[k-1]?=some (f.f1[k-1]'zq5):=List.getElem?_eq_getElem zq5
    by_cases h2:p≤f.f1[k-1]'zq5
    ·exact .inl ⟨nb (fun h=>by have:=h.2.1 _ zq5 hp;omega),.inr (.inr (.inl ⟨zYa h1,_,hp,by omega,h2⟩))⟩
    ·exact .inr ⟨⟨h1,fun g _ hg=>by rw [hp] at hg;injection hg with hg;subst hg;omega,h3⟩,zYa h1,h3',.inr ⟨_,hp,by omega,h2⟩⟩
 ·exact .inl ⟨nb (fun h=>h1 h.1),.inl (inB_f h1)⟩
theorem seen_app {ops:Array Oper} {rest:List Oper} {o:Oper} {a:Act} {Q:Exit→Act→World→Prop} {w W:World} {cs cf:List Value} {seen:List Int} {v:Value} {gF:Nat} {p:Int} (hgd:o.guard=none) (s y:Operand) (ho:o.op= .call {callee:= .builtin .append,args:= #[s,y],argTypes:= #[29,29]}) (hs:a.eval s=v) (hy:a.eval y= .slice (some ⟨W.heap.size,0,none⟩) 1 1)
  (H:SeenAt w W cs seen v) (BF:W.heap[gF]?=some (.cells cf.toArray 112 (0,0))) (OW:∀k,v.ownBlock=some k→k≠gF) (hl:seen.length≤2000000)
  (h:∀v1 w1,Z0 (SeenAt w w1 cs (seen++[p]) v1)→Z0 (w1.heap[gF]?=some (.cells cf.toArray 112 (0,0)))→Z0 (∀k,v1.ownBlock=some k→k≠gF)→wpList Tryz.prog ops Q rest (a.put o.dst v1) w1):
  wpList Tryz.prog ops Q (o::rest) a (W.alloc (.cells #[.int .i64 p] 3)):=by
 refine Kd.R_append (Kd.int .i64) (w0:=w) w.heap.size hgd s y 29 3 (.int .i64 0) 8 ho Tryz.underlying29 info3 rfl zq14 zq14 v seen p [.int .i64 p] (fun k=>w.heap.size<k) (fun _=>False) hs hy rfl (fun _ h=>h.elim) (fun k hk=>Nat.lt_of_lt_of_le (zI H.box) hk) H.row H.bel H.bel.size zq5 ?_
 intro v1 w1 hr hb hg hat
 have hv:∀k,v.ownBlock=some k→w.heap.size<k:=H.row.1
 refine h v1 w1 ⟨hr,zO H.box hg (fun e=>by have:=hv _ e.symm;omega),hb⟩ ⟨zO BF hg (fun e=>OW _ e.symm rfl)⟩ ⟨fun k hk=> ?_⟩
 rcases hat with hat|⟨b,hb2,hle⟩
 ·exact OW k (by rw [←hat];exact hk)
 ·rw [hb2] at hk
  injection hk with hk
  have:=zI BF
  omega
theorem seen_len2 {x:S40} {i:Nat} (h0:∀(j:Nat) (f:S112),j<i→x.f3[j]?=some f→f.f1.length≤40):∀n,n≤i→n≤x.f3.length→(zqa x n).length≤1+40*n
 |0,_,_=>by simp [zqa]
 |n+1,hi,h=>by
  have he:x.f3[n]?=some x.f3[n]:=List.getElem?_eq_getElem h
  rw [seen_succ he,List.length_append]
  have:=seen_len2 h0 n zq5 zq5
  have:=h0 n _ zq5 he
  omega
theorem mh_ways (x:S40) (h:¬MHead x):(inB x.f0 0 100000=false)∨(inB x.f0 0 100000=true∧inB x.f2 2 40=false)∨((inB x.f0 0 100000=true∧inB x.f2 2 40=true∧2≤x.f2∧x.f2≤40)∧(((x.f1 !=0)=true∧(x.f1==0)=false∧inB x.f1 2 (x.f2-1)=false)∨(((x.f1 !=0)=false∧(x.f1==0)=true)∧(20<(x.f3.length:Int))=True)∨(((x.f1 !=0)=true∧(x.f1==0)=false∧inB x.f1 2 (x.f2-1)=true)∧(20<(x.f3.length:Int))=True))):=by
 by_cases h0:0≤x.f0∧x.f0≤100000
 ·by_cases h2:2≤x.f2∧x.f2≤40
  ·refine .inr (.inr ⟨⟨zYa h0,zYa h2,h2⟩,?_⟩)
   by_cases h1:x.f1=0
   ·refine .inr (.inl ⟨⟨by simp [h1],by simp [h1]⟩,eq_true ?_⟩)
    have:¬x.f3.length≤20:=fun hl=>h ⟨h0,h2,.inl h1,hl⟩
    omega
   ·by_cases h3:2≤x.f1∧x.f1≤x.f2-1
    ·refine .inr (.inr ⟨⟨by simp [h1],by simp [h1],zYa h3⟩,eq_true ?_⟩)
     have:¬x.f3.length≤20:=fun hl=>h ⟨h0,h2,.inr h3,hl⟩
     omega
    ·exact .inl ⟨by simp [h1],by simp [h1],inB_f h3⟩
  ·exact .inr (.inl ⟨zYa h0,inB_f h2⟩)
 ·exact .inl (inB_f h0)
theorem prev_at {w:World} {A:Option Addr} {n:Nat} {xs:List S112} (h:Kd.C k112 w A n xs) {i:Nat} {p:S112} (hp:xs[i]?=some p):∃ad,A=some ad∧w.cell? (ad.add (i*2))=some (.int .i64 p.f0):=by
 obtain ⟨hi,rfl⟩:=List.getElem?_eq_some_iff.1 hp
 obtain ⟨ad,v,cs,e,hk,hc,-⟩:=elem_at h hi zq14
 refine ⟨ad,e,?_⟩
 obtain ⟨A_,c_,hcs,-⟩:=k112_open hk
 injection hcs with h1 h2
 rw [←h1]
 exact hc
theorem specMetaOk_c (x:S40) (b:Bool) {cs:List Value} (w:World) (h:k40.K w x cs) (hb:b=true↔MOk x):
  Calls Tryz.prog 80 #[.agg cs.toArray] w fun e w'=>e= .returned (.bool b)∧Below w.heap.size w w':=by
 obtain ⟨AF,cF,rfl,mF,rF⟩:=zEa h
 have KR:=zz rF
 have HB:=zz hb
 have bn:=rF.2.1
 have hbl:=zz (zf (Below.refl w.heap.size w) (.cells #[.int .i64 x.f0,.int .i64 x.f1,.int .i64 x.f2,.slice AF x.f3.length cF] 40))
 have BA0:=zz (zia w (.cells #[.int .i64 x.f0,.int .i64 x.f1,.int .i64 x.f2,.slice AF x.f3.length cF] 40))
 clear h mF rF hb
 by_cases hh:MHead x
 ·obtain ⟨h0,h2,h1,hl⟩:=hh
  have HH:=zz (show MHead x from ⟨h0,h2,h1,hl⟩)
  have e0:=zYa h0
  have e2:=zYa h2
  have bl:(20<(x.f3.length:Int))=False:=eq_false zq5
  obtain ⟨h2a,h2b⟩:=h2
  clear h0
  have hv:((x.f1 !=0)=false∧(x.f1==0)=true)∨((x.f1 !=0)=true∧(x.f1==0)=false∧inB x.f1 2 (x.f2-1)=true):=by
   rcases h1 with h1|h1
   ·exact .inl (by simp [h1])
   ·exact .inr ⟨by simp;omega,by simp;omega,zYa h1⟩
  clear h1
  rcases hv with ⟨e1,e1'⟩|⟨e1,e1',e1''⟩
  all_goals
   go_enter Tryz.func80,Tryz.ntmps80
   go_wp2_with (((with_reducible refine (inS _ _ _ _).mono ?_);rintro e w1 ⟨rfl,rfl⟩))
   have H0:=zz (seen0 x [.int .i64 x.f0,.int .i64 x.f1,.int .i64 x.f2,.slice AF x.f3.length cF] w)
   go_loopg [3,4] (x.f3.length+1) (fun kq v3 v4 w'=>∃(i:Nat) (v:Value),v3=v∧v4= .int .i64 (i:Int)∧Z0 (kq+i=x.f3.length+1)∧Z0 (i≤x.f3.length)∧Z0 (∀(j:Nat) (f:S112),j<i→x.f3[j]?=some f→FrHead x j f∧FrPages x j f)∧Z0 (SeenAt w w' [.int .i64 x.f0,.int .i64 x.f1,.int .i64 x.f2,.slice AF x.f3.length cF] (zqa x i) v))
   case atStart=>exact ⟨0,_,rfl,rfl,⟨by omega⟩,⟨Nat.zero_le _⟩,⟨fun j f h=>absurd h (Nat.not_lt_zero _)⟩,H0⟩
   case round=>
    clear H0 e0 e1 e1' e2 bl BA0 hbl
    obtain ⟨i,v,rfl,rfl,HQ,HI,HP,HS⟩:=hrel
    have hp3:wr.cell? ⟨w.heap.size,3,none⟩=some (.slice AF x.f3.length cF):=(zd HS.out.box 3).trans rfl
    by_cases hlt:i<x.f3.length
    ·have c1:decide ((i:Int)<(x.f3.length:Int))=true:=decide_eq_true zq5
     have c0:decide ((0:Int)≤(i:Int))=true:=decide_eq_true zq5
     have c2:((i:Int)<(x.f3.length:Int))=True:=eq_true zq5
     have c3:((0:Int)≤(i:Int))=True:=eq_true zq5
     cases gk with
     |zero=>exact absurd HQ.out zq5
     |succ k1=>
      obtain ⟨ad,A1,c1_,hA,z0,z1,hl4,hC4⟩:=zbb KR.out (i:Int) zq5 zq5
      subst hA
      obtain ⟨el,hel⟩:∃el,el=zH x.f3 (i:Int):=⟨_,rfl⟩
      have hel2:x.f3[i]?=some el:=by rw [hel];simp [zH,List.getD_eq_getElem?_getD,List.getElem?_eq_getElem hlt]
      rw [←hel] at z0 z1 hl4 hC4
      simp only [Int.toNat_natCast] at z0 z1
      replace z0:=(HS.out.bel.cell (World.block_lt_of_cell? w _ z0)).trans z0
      replace z1:=(HS.out.bel.cell (World.block_lt_of_cell? w _ z1)).trans z1
      have HE:=zz hel2
      have KE:=zz hC4
      have be:el.f1.length≤9223372036854775807:=hC4.2.1
      have hz:=zI HS.out.box
      clear hel hel2 hC4 hl4
      go_upto_region 8 with (fail)
      obtain ⟨W1,hW1⟩:∃W1,W1=wr.alloc (.cells #[.int .i64 el.f0,.slice A1 el.f1.length c1_] 112):=⟨_,rfl⟩
      have BF:=zz (show W1.heap[wr.heap.size]?=some (.cells ([.int .i64 el.f0,.slice A1 el.f1.length c1_]:List Value).toArray 112 (0,0)) from by rw [hW1];exact zia wr _)
      have HB1:=zz (show Below wr.heap.size wr W1 from by rw [hW1];exact zf (Below.refl _ _) _)
      rw [←hW1]
      clear hW1 hp3 z0 z1
      obtain ⟨gF,hgF⟩:∃g,g=wr.heap.size:=⟨_,rfl⟩
      rw [←hgF] at BF hz ⊢
      have OW:=zz (show ∀k,u3.ownBlock=some k→k<gF from by rw [hgF];exact Kd.R_lt HS.out.row)
      replace HS:=zz (HS.out.step HB1.out)
      clear HB1 hgF
      have hp0:W1.cell? ⟨w.heap.size,0,none⟩=some (.int .i64 x.f0):=(zd HS.out.box 0).trans rfl
      have hp3:W1.cell? ⟨w.heap.size,3,none⟩=some (.slice (some ad) x.f3.length cF):=(zd HS.out.box 3).trans rfl
      have hf0:W1.cell? ⟨gF,0,none⟩=some (.int .i64 el.f0):=(zd BF.out 0).trans rfl
      have hf1:W1.cell? ⟨gF,1,none⟩=some (.slice A1 el.f1.length c1_):=(zd BF.out 1).trans rfl
      have hways:=fr_ways x i el b HB.out HE.out
      rcases hways with ⟨hbf,hways⟩|⟨hFr,eT,eL,hways⟩
      ·have HBF:=zz hbf
       clear hbf
       rcases hways with eT|⟨eT,hz0,eL⟩|⟨eT,p,hp,h0,hle⟩|⟨eT,p,hp,h0,hle,eL⟩
       ·go_quiet ((go_at_call 77;exact inSq _ _ _ _ _))
        go_wp2
        go_ret
        exact ⟨rb HBF.out,zh HS.out.bel (zV _ _)⟩
       ·have q1:decide ((0:Int)<(i:Int))=false:=decide_eq_false zq5
        have q2:decide (0<i)=false:=decide_eq_false zq5
        clear hz0
        go_quiet ((go_at_call 77;exact inSq _ _ _ _ _))
        go_wp2
        go_ret
        exact ⟨rb HBF.out,zh HS.out.bel (zV _ _)⟩
       ·have q1:decide ((0:Int)<(i:Int))=true:=decide_eq_true zq5
        have q2:decide (0<i)=true:=decide_eq_true zq5
        have hs1:IntKind.i64.wrap ((i:Int)-1)=((i-1:Nat):Int):=by rw [zr];unfold wrap64;omega
        have hs2:(0:Int)≤((i-1:Nat):Int):=by omega
        have hs3:((i-1:Nat):Int)<(x.f3.length:Int):=by omega
        obtain ⟨ad2,hA2,zp⟩:=prev_at KR.out hp
        injection hA2 with hA2
        subst hA2
        clear hp
        replace zp:=zk zp HS.out.bel
        have q3:decide (el.f0≤p.f0)=true:=decide_eq_true hle
        go_quiet ((go_at_call 77;exact inSq _ _ _ _ _))
        go_wp2
        go_ret
        exact ⟨rb HBF.out,zh HS.out.bel (zV _ _)⟩
       ·have q1:decide ((0:Int)<(i:Int))=true:=decide_eq_true zq5
        have q2:decide (0<i)=true:=decide_eq_true zq5
        have hs1:IntKind.i64.wrap ((i:Int)-1)=((i-1:Nat):Int):=by rw [zr];unfold wrap64;omega
        have hs2:(0:Int)≤((i-1:Nat):Int):=by omega
        have hs3:((i-1:Nat):Int)<(x.f3.length:Int):=by omega
        obtain ⟨ad2,hA2,zp⟩:=prev_at KR.out hp
        injection hA2 with hA2
        subst hA2
        clear hp
        replace zp:=zk zp HS.out.bel
        have q3:decide (el.f0≤p.f0)=false:=decide_eq_false hle
        go_quiet ((go_at_call 77;exact inSq _ _ _ _ _))
        go_wp2
        go_ret
        exact ⟨rb HBF.out,zh HS.out.bel (zV _ _)⟩
      ·have HFR:=zz hFr
       have hel1:el.f1.length≤40:=hFr.2.2.2
       clear hFr
       rcases hways with hz0|⟨p,hp,h0,hle⟩
       ·have q1:decide ((0:Int)<(i:Int))=false:=decide_eq_false zq5
        have q2:decide (0<i)=false:=decide_eq_false zq5
        clear hz0
        go_quiet ((go_at_call 77;exact inSq _ _ _ _ _))
        simp only [eT,eL]
        clear eT eL
        obtain ⟨W2,hW2⟩:∃W2,W2=W1.drewN nq:=⟨_,rfl⟩
        have HB2:=zz (show Below W1.heap.size W1 W2 from by rw [hW2];exact zV _ _)
        rw [←hW2]
        clear hW2 hp0 hp3 hf0 hf1
        replace HS:=zz (HS.out.step HB2.out)
        replace BF:=zz (zo BF.out HB2.out)
        clear HB2
        go_wp2
        go_loopg [3,6] (el.f1.length+1) (fun kq v3 v6 w'=>∃(k:Nat) (v:Value),v3=v∧v6= .int .i64 (k:Int)∧Z0 (kq+k=el.f1.length+1)∧Z0 (k≤el.f1.length)∧Z0 (∀(j:Nat) (p:Int),j<k→el.f1[j]?=some p→PgOk x (zqa x i) el.f1 j p)∧Z0 (SeenAt w w' [.int .i64 x.f0,.int .i64 x.f1,.int .i64 x.f2,.slice (some ad) x.f3.length cF] (zqa x i++el.f1.take k) v)∧Z0 (w'.heap[gF]?=some (.cells ([.int .i64 el.f0,.slice A1 el.f1.length c1_]:List Value).toArray 112 (0,0)))∧Z0 (∀q,v.ownBlock=some q→q≠gF))
        case atStart=>exact ⟨0,_,rfl,rfl,⟨by omega⟩,⟨Nat.zero_le _⟩,⟨fun j p h=>absurd h (Nat.not_lt_zero _)⟩,⟨by rw [List.take_zero,List.append_nil];exact HS.out⟩,BF,⟨fun q hq=>Nat.ne_of_lt (OW.out q hq)⟩⟩
        case round=>
         clear HS BF OW
         obtain ⟨k,v,rfl,rfl,HQ2,HI2,HP2,HS,BF,OW⟩:=hrel
         have hf1:wr.cell? ⟨gF,1,none⟩=some (.slice A1 el.f1.length c1_):=(zd BF.out 1).trans rfl
         obtain ⟨sn,hsn⟩:∃sn,sn=zqa x i++el.f1.take k:=⟨_,rfl⟩
         have hsl:sn.length≤2000:=by
          have h1:=seen_len2 (fun j f hj hf=>(HP.out j f hj hf).1.2.2.2) i (Nat.le_refl _) HI.out
          have h2:=List.length_take_le k el.f1
          have h3:=HI.out
          have h4:=HI2.out
          rw [hsn,List.length_append]
          omega
         rw [←hsn] at HS
         have HSN:=zz hsn
         clear hsn
         obtain ⟨Av,cv,rfl⟩:=Kd.R_slice HS.out.row
         by_cases hk:k<el.f1.length
         ·have d1:decide ((k:Int)<(el.f1.length:Int))=true:=decide_eq_true zq5
          have d0:decide ((0:Int)≤(k:Int))=true:=decide_eq_true zq5
          have d2:((k:Int)<(el.f1.length:Int))=True:=eq_true zq5
          have d3:((0:Int)≤(k:Int))=True:=eq_true zq5
          cases gk with
          |zero=>exact absurd HQ2.out zq5
          |succ k2=>
           obtain ⟨ap,hAp,pc⟩:=C_at KE.out hk
           subst hAp
           obtain ⟨p,hp⟩:∃p,p=el.f1[k]:=⟨_,rfl⟩
           rw [←hp] at pc
           have HPK:=zz (show el.f1[k]?=some p from by rw [hp];exact List.getElem?_eq_getElem hk)
           clear hp
           replace pc:=zk pc HS.out.bel
           have hp2:wr.cell? ⟨w.heap.size,2,none⟩=some (.int .i64 x.f2):=(zd HS.out.box 2).trans rfl
           have KS:=zz (Kd.R_reads' HS.out.row).2.2
           have hsl2:sn.length≤2000000:=by omega
           go_upto_region 13 with (fail)
           have hways:=pg_ways x i el k p b HB.out HE.out HPK.out
           rw [←HSN.out] at hways
           have HW2:=zz (show IntKind.i64.wrap (x.f2-1)=x.f2-1 from by rw [zr];unfold wrap64;omega)
           rcases hways with ⟨hbf,hways⟩|⟨hPg,eP,eS,hways⟩
           ·have HBF:=zz hbf
            clear hbf
            rcases hways with eP|⟨eP,hz0,eS⟩|⟨eP,q,hq,h0,hle⟩|⟨eP,q,hq,h0,hle,eS⟩
            ·have hw2:=HW2.out
             go_quiet (first|(go_at_call 77;exact inSq _ _ _ _ _)|(go_at_call 78;exact hasSq _ _ _ _ _ _ KS.out hsl2))
             go_wp2
             go_ret
             exact ⟨rb HBF.out,zh HS.out.bel (zV _ _)⟩
            ·have q1:decide ((0:Int)<(k:Int))=false:=decide_eq_false zq5
             have q2:decide (0<k)=false:=decide_eq_false zq5
             have hw2:=HW2.out
             clear hz0
             go_quiet (first|(go_at_call 77;exact inSq _ _ _ _ _)|(go_at_call 78;exact hasSq _ _ _ _ _ _ KS.out hsl2))
             go_wp2
             go_ret
             exact ⟨rb HBF.out,zh HS.out.bel (zV _ _)⟩
            ·have q1:decide ((0:Int)<(k:Int))=true:=decide_eq_true zq5
             have q2:decide (0<k)=true:=decide_eq_true zq5
             have hs1:IntKind.i64.wrap ((k:Int)-1)=((k-1:Nat):Int):=by rw [zr];unfold wrap64;omega
             have hs2:(0:Int)≤((k-1:Nat):Int):=by omega
             have hs3:((k-1:Nat):Int)<(el.f1.length:Int):=by omega
             obtain ⟨hql,hqv⟩:=List.getElem?_eq_some_iff.1 hq
             obtain ⟨ap2,hA2,zq⟩:=C_at KE.out hql
             rw [hqv] at zq
             injection hA2 with hA2
             subst hA2
             clear hqv hq
             replace zq:=zk zq HS.out.bel
             have hw2:=HW2.out
             have q3:decide (p≤q)=true:=decide_eq_true hle
             go_quiet (first|(go_at_call 77;exact inSq _ _ _ _ _)|(go_at_call 78;exact hasSq _ _ _ _ _ _ KS.out hsl2))
             go_wp2
             go_ret
             exact ⟨rb HBF.out,zh HS.out.bel (zV _ _)⟩
            ·have q1:decide ((0:Int)<(k:Int))=true:=decide_eq_true zq5
             have q2:decide (0<k)=true:=decide_eq_true zq5
             have hs1:IntKind.i64.wrap ((k:Int)-1)=((k-1:Nat):Int):=by rw [zr];unfold wrap64;omega
             have hs2:(0:Int)≤((k-1:Nat):Int):=by omega
             have hs3:((k-1:Nat):Int)<(el.f1.length:Int):=by omega
             obtain ⟨hql,hqv⟩:=List.getElem?_eq_some_iff.1 hq
             obtain ⟨ap2,hA2,zq⟩:=C_at KE.out hql
             rw [hqv] at zq
             injection hA2 with hA2
             subst hA2
             clear hqv hq
             replace zq:=zk zq HS.out.bel
             have hw2:=HW2.out
             have q3:decide (p≤q)=false:=decide_eq_false hle
             go_quiet (first|(go_at_call 77;exact inSq _ _ _ _ _)|(go_at_call 78;exact hasSq _ _ _ _ _ _ KS.out hsl2))
             go_wp2
             go_ret
             exact ⟨rb HBF.out,zh HS.out.bel (zV _ _)⟩
           ·have HPG:=zz hPg
            clear hPg
            rcases hways with hz0|⟨q,hq,h0,hle⟩
            ·have q1:decide ((0:Int)<(k:Int))=false:=decide_eq_false zq5
             have q2:decide (0<k)=false:=decide_eq_false zq5
             have hw2:=HW2.out
             clear hz0
             go_quiet (first|(go_at_call 77;exact inSq _ _ _ _ _)|(go_at_call 78;exact hasSq _ _ _ _ _ _ KS.out hsl2))
             obtain ⟨W3,hW3⟩:∃W3,W3=wr.drewN nq:=⟨_,rfl⟩
             have HB3:=zz (show Below wr.heap.size wr W3 from by rw [hW3];exact zV _ _)
             rw [←hW3]
             clear hW3 hp2 hf1 hw2
             replace pc:=zk pc HB3.out
             replace HS:=zz (HS.out.step HB3.out)
             replace BF:=zz (zo BF.out HB3.out)
             have hf1:W3.cell? ⟨gF,1,none⟩=some (.slice (some ap) el.f1.length c1_):=(zd BF.out 1).trans rfl
             clear HB3
             go_wp2_with ((with_reducible refine zS (b:= .append) (xs:= #[.tmp 125,.tmp 131]) rfl ?_);at_builtin;refine seen_app rfl (.tmp 125) (.tmp 131) rfl rfl rfl HS.out BF.out OW.out hsl2 ?_;intro v1 w1 HS1 BF1 OW1)
             go_roundg k2
             case measure=>omega
             case rel=>exact ⟨k+1,_,rfl,by go_num,⟨by have:=HQ2.out;omega⟩,⟨by omega⟩,⟨fun j p2 hj hf=>by
              rcases Nat.lt_or_ge j k with h2|h2
              ·exact HP2.out j p2 h2 hf
              ·obtain rfl:j=k:=by omega
               have:=HPK.out.symm.trans hf
               injection this with this
               subst this
               exact HPG.out⟩,⟨by
               obtain ⟨hkl,hkv⟩:=List.getElem?_eq_some_iff.1 HPK.out
               rw [List.take_succ_eq_append_getElem hkl,hkv,←List.append_assoc,←HSN.out]
               exact HS1.out⟩,BF1,OW1⟩
            ·have q1:decide ((0:Int)<(k:Int))=true:=decide_eq_true zq5
             have q2:decide (0<k)=true:=decide_eq_true zq5
             have hs1:IntKind.i64.wrap ((k:Int)-1)=((k-1:Nat):Int):=by rw [zr];unfold wrap64;omega
             have hs2:(0:Int)≤((k-1:Nat):Int):=by omega
             have hs3:((k-1:Nat):Int)<(el.f1.length:Int):=by omega
             obtain ⟨hql,hqv⟩:=List.getElem?_eq_some_iff.1 hq
             obtain ⟨ap2,hA2,zq⟩:=C_at KE.out hql
             rw [hqv] at zq
             injection hA2 with hA2
             subst hA2
             clear hqv hq
             replace zq:=zk zq HS.out.bel
             have hw2:=HW2.out
             have q3:decide (p≤q)=false:=decide_eq_false hle
             go_quiet (first|(go_at_call 77;exact inSq _ _ _ _ _)|(go_at_call 78;exact hasSq _ _ _ _ _ _ KS.out hsl2))
             clear zq
             obtain ⟨W3,hW3⟩:∃W3,W3=wr.drewN nq:=⟨_,rfl⟩
             have HB3:=zz (show Below wr.heap.size wr W3 from by rw [hW3];exact zV _ _)
             rw [←hW3]
             clear hW3 hp2 hf1 hw2
             replace pc:=zk pc HB3.out
             replace HS:=zz (HS.out.step HB3.out)
             replace BF:=zz (zo BF.out HB3.out)
             have hf1:W3.cell? ⟨gF,1,none⟩=some (.slice (some ap) el.f1.length c1_):=(zd BF.out 1).trans rfl
             clear HB3
             go_wp2_with ((with_reducible refine zS (b:= .append) (xs:= #[.tmp 125,.tmp 131]) rfl ?_);at_builtin;refine seen_app rfl (.tmp 125) (.tmp 131) rfl rfl rfl HS.out BF.out OW.out hsl2 ?_;intro v1 w1 HS1 BF1 OW1)
             go_roundg k2
             case measure=>omega
             case rel=>exact ⟨k+1,_,rfl,by go_num,⟨by have:=HQ2.out;omega⟩,⟨by omega⟩,⟨fun j p2 hj hf=>by
              rcases Nat.lt_or_ge j k with h2|h2
              ·exact HP2.out j p2 h2 hf
              ·obtain rfl:j=k:=by omega
               have:=HPK.out.symm.trans hf
               injection this with this
               subst this
               exact HPG.out⟩,⟨by
               obtain ⟨hkl,hkv⟩:=List.getElem?_eq_some_iff.1 HPK.out
               rw [List.take_succ_eq_append_getElem hkl,hkv,←List.append_assoc,←HSN.out]
               exact HS1.out⟩,BF1,OW1⟩
         ·have d1:decide ((k:Int)<(el.f1.length:Int))=false:=decide_eq_false zq5
          have hk2:k=el.f1.length:=by have:=HI2.out;omega
          have hsn:sn=zqa x (i+1):=by rw [HSN.out,hk2,List.take_length,seen_succ HE.out]
          subst hk2
          obtain ⟨nn,hnn⟩:∃n,n=sn.length:=⟨_,rfl⟩
          go_wp2
          go_roundg k1
          case measure=>omega
          case rel=>exact ⟨i+1,_,rfl,by go_num,⟨by have:=HQ.out;omega⟩,⟨by omega⟩,⟨fun j f hj hf=>by
           rcases Nat.lt_or_ge j i with h2|h2
           ·exact HP.out j f h2 hf
           ·obtain rfl:j=i:=by omega
            have:=HE.out.symm.trans hf
            injection this with this
            subst this
            exact ⟨HFR.out,fun k p hp=>HP2.out k p (List.getElem?_eq_some_iff.1 hp).1 hp⟩⟩,⟨by rw [←hsn];exact HS.out⟩⟩
       ·have q1:decide ((0:Int)<(i:Int))=true:=decide_eq_true zq5
        have q2:decide (0<i)=true:=decide_eq_true zq5
        have hs1:IntKind.i64.wrap ((i:Int)-1)=((i-1:Nat):Int):=by rw [zr];unfold wrap64;omega
        have hs2:(0:Int)≤((i-1:Nat):Int):=by omega
        have hs3:((i-1:Nat):Int)<(x.f3.length:Int):=by omega
        obtain ⟨ad2,hA2,zp⟩:=prev_at KR.out hp
        injection hA2 with hA2
        subst hA2
        clear hp
        replace zp:=zk zp HS.out.bel
        have q3:decide (el.f0≤p.f0)=false:=decide_eq_false hle
        go_quiet ((go_at_call 77;exact inSq _ _ _ _ _))
        simp only [eT,eL]
        clear eT eL
        obtain ⟨W2,hW2⟩:∃W2,W2=W1.drewN nq:=⟨_,rfl⟩
        have HB2:=zz (show Below W1.heap.size W1 W2 from by rw [hW2];exact zV _ _)
        rw [←hW2]
        clear hW2 hp0 hp3 hf0 hf1
        replace HS:=zz (HS.out.step HB2.out)
        replace BF:=zz (zo BF.out HB2.out)
        clear HB2
        go_wp2
        go_loopg [3,6] (el.f1.length+1) (fun kq v3 v6 w'=>∃(k:Nat) (v:Value),v3=v∧v6= .int .i64 (k:Int)∧Z0 (kq+k=el.f1.length+1)∧Z0 (k≤el.f1.length)∧Z0 (∀(j:Nat) (p:Int),j<k→el.f1[j]?=some p→PgOk x (zqa x i) el.f1 j p)∧Z0 (SeenAt w w' [.int .i64 x.f0,.int .i64 x.f1,.int .i64 x.f2,.slice (some ad) x.f3.length cF] (zqa x i++el.f1.take k) v)∧Z0 (w'.heap[gF]?=some (.cells ([.int .i64 el.f0,.slice A1 el.f1.length c1_]:List Value).toArray 112 (0,0)))∧Z0 (∀q,v.ownBlock=some q→q≠gF))
        case atStart=>exact ⟨0,_,rfl,rfl,⟨by omega⟩,⟨Nat.zero_le _⟩,⟨fun j p h=>absurd h (Nat.not_lt_zero _)⟩,⟨by rw [List.take_zero,List.append_nil];exact HS.out⟩,BF,⟨fun q hq=>Nat.ne_of_lt (OW.out q hq)⟩⟩
        case round=>
         clear HS BF OW
         obtain ⟨k,v,rfl,rfl,HQ2,HI2,HP2,HS,BF,OW⟩:=hrel
         have hf1:wr.cell? ⟨gF,1,none⟩=some (.slice A1 el.f1.length c1_):=(zd BF.out 1).trans rfl
         obtain ⟨sn,hsn⟩:∃sn,sn=zqa x i++el.f1.take k:=⟨_,rfl⟩
         have hsl:sn.length≤2000:=by
          have h1:=seen_len2 (fun j f hj hf=>(HP.out j f hj hf).1.2.2.2) i (Nat.le_refl _) HI.out
          have h2:=List.length_take_le k el.f1
          have h3:=HI.out
          have h4:=HI2.out
          rw [hsn,List.length_append]
          omega
         rw [←hsn] at HS
         have HSN:=zz hsn
         clear hsn
         obtain ⟨Av,cv,rfl⟩:=Kd.R_slice HS.out.row
         by_cases hk:k<el.f1.length
         ·have d1:decide ((k:Int)<(el.f1.length:Int))=true:=decide_eq_true zq5
          have d0:decide ((0:Int)≤(k:Int))=true:=decide_eq_true zq5
          have d2:((k:Int)<(el.f1.length:Int))=True:=eq_true zq5
          have d3:((0:Int)≤(k:Int))=True:=eq_true zq5
          cases gk with
          |zero=>exact absurd HQ2.out zq5
          |succ k2=>
           obtain ⟨ap,hAp,pc⟩:=C_at KE.out hk
           subst hAp
           obtain ⟨p,hp⟩:∃p,p=el.f1[k]:=⟨_,rfl⟩
           rw [←hp] at pc
           have HPK:=zz (show el.f1[k]?=some p from by rw [hp];exact List.getElem?_eq_getElem hk)
           clear hp
           replace pc:=zk pc HS.out.bel
           have hp2:wr.cell? ⟨w.heap.size,2,none⟩=some (.int .i64 x.f2):=(zd HS.out.box 2).trans rfl
           have KS:=zz (Kd.R_reads' HS.out.row).2.2
           have hsl2:sn.length≤2000000:=by omega
           go_upto_region 13 with (fail)
           have hways:=pg_ways x i el k p b HB.out HE.out HPK.out
           rw [←HSN.out] at hways
           have HW2:=zz (show IntKind.i64.wrap (x.f2-1)=x.f2-1 from by rw [zr];unfold wrap64;omega)
           rcases hways with ⟨hbf,hways⟩|⟨hPg,eP,eS,hways⟩
           ·have HBF:=zz hbf
            clear hbf
            rcases hways with eP|⟨eP,hz0,eS⟩|⟨eP,q,hq,h0,hle⟩|⟨eP,q,hq,h0,hle,eS⟩
            ·have hw2:=HW2.out
             go_quiet (first|(go_at_call 77;exact inSq _ _ _ _ _)|(go_at_call 78;exact hasSq _ _ _ _ _ _ KS.out hsl2))
             go_wp2
             go_ret
             exact ⟨rb HBF.out,zh HS.out.bel (zV _ _)⟩
            ·have q1:decide ((0:Int)<(k:Int))=false:=decide_eq_false zq5
             have q2:decide (0<k)=false:=decide_eq_false zq5
             have hw2:=HW2.out
             clear hz0
             go_quiet (first|(go_at_call 77;exact inSq _ _ _ _ _)|(go_at_call 78;exact hasSq _ _ _ _ _ _ KS.out hsl2))
             go_wp2
             go_ret
             exact ⟨rb HBF.out,zh HS.out.bel (zV _ _)⟩
            ·have q1:decide ((0:Int)<(k:Int))=true:=decide_eq_true zq5
             have q2:decide (0<k)=true:=decide_eq_true zq5
             have hs1:IntKind.i64.wrap ((k:Int)-1)=((k-1:Nat):Int):=by rw [zr];unfold wrap64;omega
             have hs2:(0:Int)≤((k-1:Nat):Int):=by omega
             have hs3:((k-1:Nat):Int)<(el.f1.length:Int):=by omega
             obtain ⟨hql,hqv⟩:=List.getElem?_eq_some_iff.1 hq
             obtain ⟨ap2,hA2,zq⟩:=C_at KE.out hql
             rw [hqv] at zq
             injection hA2 with hA2
             subst hA2
             clear hqv hq
             replace zq:=zk zq HS.out.bel
             have hw2:=HW2.out
             have q3:decide (p≤q)=true:=decide_eq_true hle
             go_quiet (first|(go_at_call 77;exact inSq _ _ _ _ _)|(go_at_call 78;exact hasSq _ _ _ _ _ _ KS.out hsl2))
             go_wp2
             go_ret
             exact ⟨rb HBF.out,zh HS.out.bel (zV _ _)⟩
            ·have q1:decide ((0:Int)<(k:Int))=true:=decide_eq_true zq5
             have q2:decide (0<k)=true:=decide_eq_true zq5
             have hs1:IntKind.i64.wrap ((k:Int)-1)=((k-1:Nat):Int):=by rw [zr];unfold wrap64;omega
             have hs2:(0:Int)≤((k-1:Nat):Int):=by omega
             have hs3:((k-1:Nat):Int)<(el.f1.length:Int):=by omega
             obtain ⟨hql,hqv⟩:=List.getElem?_eq_some_iff.1 hq
             obtain ⟨ap2,hA2,zq⟩:=C_at KE.out hql
             rw [hqv] at zq
             injection hA2 with hA2
             subst hA2
             clear hqv hq
             replace zq:=zk zq HS.out.bel
             have hw2:=HW2.out
             have q3:decide (p≤q)=false:=decide_eq_false hle
             go_quiet (first|(go_at_call 77;exact inSq _ _ _ _ _)|(go_at_call 78;exact hasSq _ _ _ _ _ _ KS.out hsl2))
             go_wp2
             go_ret
             exact ⟨rb HBF.out,zh HS.out.bel (zV _ _)⟩
           ·have HPG:=zz hPg
            clear hPg
            rcases hways with hz0|⟨q,hq,h0,hle⟩
            ·have q1:decide ((0:Int)<(k:Int))=false:=decide_eq_false zq5
             have q2:decide (0<k)=false:=decide_eq_false zq5
             have hw2:=HW2.out
             clear hz0
             go_quiet (first|(go_at_call 77;exact inSq _ _ _ _ _)|(go_at_call 78;exact hasSq _ _ _ _ _ _ KS.out hsl2))
             obtain ⟨W3,hW3⟩:∃W3,W3=wr.drewN nq:=⟨_,rfl⟩
             have HB3:=zz (show Below wr.heap.size wr W3 from by rw [hW3];exact zV _ _)
             rw [←hW3]
             clear hW3 hp2 hf1 hw2
             replace pc:=zk pc HB3.out
             replace HS:=zz (HS.out.step HB3.out)
             replace BF:=zz (zo BF.out HB3.out)
             have hf1:W3.cell? ⟨gF,1,none⟩=some (.slice (some ap) el.f1.length c1_):=(zd BF.out 1).trans rfl
             clear HB3
             go_wp2_with ((with_reducible refine zS (b:= .append) (xs:= #[.tmp 125,.tmp 131]) rfl ?_);at_builtin;refine seen_app rfl (.tmp 125) (.tmp 131) rfl rfl rfl HS.out BF.out OW.out hsl2 ?_;intro v1 w1 HS1 BF1 OW1)
             go_roundg k2
             case measure=>omega
             case rel=>exact ⟨k+1,_,rfl,by go_num,⟨by have:=HQ2.out;omega⟩,⟨by omega⟩,⟨fun j p2 hj hf=>by
              rcases Nat.lt_or_ge j k with h2|h2
              ·exact HP2.out j p2 h2 hf
              ·obtain rfl:j=k:=by omega
               have:=HPK.out.symm.trans hf
               injection this with this
               subst this
               exact HPG.out⟩,⟨by
               obtain ⟨hkl,hkv⟩:=List.getElem?_eq_some_iff.1 HPK.out
               rw [List.take_succ_eq_append_getElem hkl,hkv,←List.append_assoc,←HSN.out]
               exact HS1.out⟩,BF1,OW1⟩
            ·have q1:decide ((0:Int)<(k:Int))=true:=decide_eq_true zq5
             have q2:decide (0<k)=true:=decide_eq_true zq5
             have hs1:IntKind.i64.wrap ((k:Int)-1)=((k-1:Nat):Int):=by rw [zr];unfold wrap64;omega
             have hs2:(0:Int)≤((k-1:Nat):Int):=by omega
             have hs3:((k-1:Nat):Int)<(el.f1.length:Int):=by omega
             obtain ⟨hql,hqv⟩:=List.getElem?_eq_some_iff.1 hq
             obtain ⟨ap2,hA2,zq⟩:=C_at KE.out hql
             rw [hqv] at zq
             injection hA2 with hA2
             subst hA2
             clear hqv hq
             replace zq:=zk zq HS.out.bel
             have hw2:=HW2.out
             have q3:decide (p≤q)=false:=decide_eq_false hle
             go_quiet (first|(go_at_call 77;exact inSq _ _ _ _ _)|(go_at_call 78;exact hasSq _ _ _ _ _ _ KS.out hsl2))
             clear zq
             obtain ⟨W3,hW3⟩:∃W3,W3=wr.drewN nq:=⟨_,rfl⟩
             have HB3:=zz (show Below wr.heap.size wr W3 from by rw [hW3];exact zV _ _)
             rw [←hW3]
             clear hW3 hp2 hf1 hw2
             replace pc:=zk pc HB3.out
             replace HS:=zz (HS.out.step HB3.out)
             replace BF:=zz (zo BF.out HB3.out)
             have hf1:W3.cell? ⟨gF,1,none⟩=some (.slice (some ap) el.f1.length c1_):=(zd BF.out 1).trans rfl
             clear HB3
             go_wp2_with ((with_reducible refine zS (b:= .append) (xs:= #[.tmp 125,.tmp 131]) rfl ?_);at_builtin;refine seen_app rfl (.tmp 125) (.tmp 131) rfl rfl rfl HS.out BF.out OW.out hsl2 ?_;intro v1 w1 HS1 BF1 OW1)
             go_roundg k2
             case measure=>omega
             case rel=>exact ⟨k+1,_,rfl,by go_num,⟨by have:=HQ2.out;omega⟩,⟨by omega⟩,⟨fun j p2 hj hf=>by
              rcases Nat.lt_or_ge j k with h2|h2
              ·exact HP2.out j p2 h2 hf
              ·obtain rfl:j=k:=by omega
               have:=HPK.out.symm.trans hf
               injection this with this
               subst this
               exact HPG.out⟩,⟨by
               obtain ⟨hkl,hkv⟩:=List.getElem?_eq_some_iff.1 HPK.out
               rw [List.take_succ_eq_append_getElem hkl,hkv,←List.append_assoc,←HSN.out]
               exact HS1.out⟩,BF1,OW1⟩
         ·have d1:decide ((k:Int)<(el.f1.length:Int))=false:=decide_eq_false zq5
          have hk2:k=el.f1.length:=by have:=HI2.out;omega
          have hsn:sn=zqa x (i+1):=by rw [HSN.out,hk2,List.take_length,seen_succ HE.out]
          subst hk2
          obtain ⟨nn,hnn⟩:∃n,n=sn.length:=⟨_,rfl⟩
          go_wp2
          go_roundg k1
          case measure=>omega
          case rel=>exact ⟨i+1,_,rfl,by go_num,⟨by have:=HQ.out;omega⟩,⟨by omega⟩,⟨fun j f hj hf=>by
           rcases Nat.lt_or_ge j i with h2|h2
           ·exact HP.out j f h2 hf
           ·obtain rfl:j=i:=by omega
            have:=HE.out.symm.trans hf
            injection this with this
            subst this
            exact ⟨HFR.out,fun k p hp=>HP2.out k p (List.getElem?_eq_some_iff.1 hp).1 hp⟩⟩,⟨by rw [←hsn];exact HS.out⟩⟩
    ·have c1:decide ((i:Int)<(x.f3.length:Int))=false:=decide_eq_false zq5
     have hbt:true=b:=(HB.out.2 ⟨HH.out,fun j f hj=>HP.out j f (by have:=(List.getElem?_eq_some_iff.1 hj).1;have:=HI.out;omega) hj⟩).symm
     have HBT:=zz hbt
     clear hbt
     go_wp2
     go_ret
     exact ⟨rb HBT.out,HS.out.bel⟩
 ·have HBF:=zz (bfalse HB.out (fun h=>hh h.1))
  rcases mh_ways x hh with e0|⟨e0,e2⟩|⟨⟨e0,e2,h2a,h2b⟩,⟨e1,e1',e1''⟩|⟨⟨e1,e1'⟩,bl⟩|⟨⟨e1,e1',e1''⟩,bl⟩⟩
  all_goals
   clear hh
   go_enter Tryz.func80,Tryz.ntmps80
   go_wp2_with (((with_reducible refine (inS _ _ _ _).mono ?_);rintro e w1 ⟨rfl,rfl⟩))
   go_ret
   exact ⟨rb HBF.out,hbl.out⟩
def FreeOk (f:S112) (x:S40):Prop:=(∀k p,f.f1[k]?=some p→(2≤p∧p≤x.f2-1)∧∀q:Int,0<k→f.f1[k-1]?=some q→q<p)∧(1≤f.f0∧f.f0≤x.f0)∧(1≤f.f1.length∧f.f1.length≤40)
theorem fp_ways (f:S112) (x:S40) (k:Nat) (p:Int) (b:Bool) (hb:b=true↔FreeOk f x) (hk:f.f1[k]?=some p):
  (false=b∧(p<2∨(¬p<2∧x.f2≤p)∨(¬p<2∧¬x.f2≤p∧∃q,f.f1[k-1]?=some q∧0<k∧p≤q)))∨
  (((2≤p∧p≤x.f2-1)∧∀q:Int,0<k→f.f1[k-1]?=some q→q<p)∧¬p<2∧¬x.f2≤p∧(k=0∨∃q,f.f1[k-1]?=some q∧0<k∧¬p≤q)):=by
 have hklt:=(List.getElem?_eq_some_iff.1 hk).1
 have nb:¬((2≤p∧p≤x.f2-1)∧∀q:Int,0<k→f.f1[k-1]?=some q→q<p)→false=b:=fun h=>bfalse hb (fun hm=>h (hm.1 k p hk))
 by_cases h1:p<2
 ·exact .inl ⟨nb (fun h=>by have:=h.1;omega),.inl h1⟩
 by_cases h2:x.f2≤p
 ·exact .inl ⟨nb (fun h=>by have:=h.1;omega),.inr (.inl ⟨h1,h2⟩)⟩
 by_cases hz:k=0
 ·exact .inr ⟨⟨by omega,fun q h0 _=>absurd h0 zq5⟩,h1,h2,.inl hz⟩
 have hp:f.f1[k-1]?=some (f.f1[k-1]'zq5):=List.getElem?_eq_getElem zq5
 by_cases h3:p≤f.f1[k-1]'zq5
 ·exact .inl ⟨nb (fun h=>by have:=h.2 _ zq5 hp;omega),.inr (.inr ⟨h1,h2,_,hp,by omega,h3⟩)⟩
 ·exact .inr ⟨⟨by omega,fun g _ hg=>by rw [hp] at hg;injection hg with hg;subst hg;omega⟩,h1,h2,.inr ⟨_,hp,by omega,h3⟩⟩
theorem freeOk_c (f:S112) (x:S40) (b:Bool) {A1 AF:Option Addr} {c1_ cF:Nat} (w:World) (h:Kd.C (Kd.int .i64) w A1 f.f1.length f.f1) (hb:b=true↔FreeOk f x):
  Calls Tryz.prog 146 #[.agg #[.int .i64 f.f0,.slice A1 f.f1.length c1_],.agg #[.int .i64 x.f0,.int .i64 x.f1,.int .i64 x.f2,.slice AF x.f3.length cF]] w fun e w'=>e= .returned (.bool b)∧Below w.heap.size w w':=by
 have KE:=zz h
 have HB:=zz hb
 have bn:=h.2.1
 have B0:=zz (zl (zia w (.cells ([.int .i64 f.f0,.slice A1 f.f1.length c1_]:List Value).toArray 112)) (.cells ([.int .i64 x.f0,.int .i64 x.f1,.int .i64 x.f2,.slice AF x.f3.length cF]:List Value).toArray 40))
 have B1:=zz (zia (w.alloc (.cells ([.int .i64 f.f0,.slice A1 f.f1.length c1_]:List Value).toArray 112)) (.cells ([.int .i64 x.f0,.int .i64 x.f1,.int .i64 x.f2,.slice AF x.f3.length cF]:List Value).toArray 40))
 have hbl:=zz (zf (zf (Below.refl w.heap.size w) (.cells ([.int .i64 f.f0,.slice A1 f.f1.length c1_]:List Value).toArray 112)) (.cells ([.int .i64 x.f0,.int .i64 x.f1,.int .i64 x.f2,.slice AF x.f3.length cF]:List Value).toArray 40))
 clear h hb
 go_enter Tryz.func146,Tryz.ntmps146
 go_upto_region 1 with (fail)
 obtain ⟨W,hW⟩:∃W,W=(w.alloc (.cells #[.int .i64 f.f0,.slice A1 f.f1.length c1_] 112)).alloc (.cells #[.int .i64 x.f0,.int .i64 x.f1,.int .i64 x.f2,.slice AF x.f3.length cF] 40):=⟨_,rfl⟩
 rw [←hW]
 have hgs:(w.alloc (.cells ([.int .i64 f.f0,.slice A1 f.f1.length c1_]:List Value).toArray 112)).heap.size=w.heap.size+1:=by simp
 rw [hgs] at B1
 have hbW:Below w.heap.size w W:=by rw [hW];exact hbl.out
 have f0:W.cell? ⟨w.heap.size,0,none⟩=some (.int .i64 f.f0):=by rw [hW];exact (zd B0.out 0).trans rfl
 have f1:W.cell? ⟨w.heap.size,1,none⟩=some (.slice A1 f.f1.length c1_):=by rw [hW];exact (zd B0.out 1).trans rfl
 have m0:W.cell? ⟨w.heap.size+1,0,none⟩=some (.int .i64 x.f0):=by rw [hW];exact (zd B1.out 0).trans rfl
 have m2:W.cell? ⟨w.heap.size+1,2,none⟩=some (.int .i64 x.f2):=by rw [hW];exact (zd B1.out 2).trans rfl
 have HW:=zz hbW
 clear hW B0 B1 hbl hgs hbW
 go_wp2_with fail
 go_loop [10] (fun v10=>∃k:Nat,v10= .int .i64 (k:Int)∧k≤f.f1.length∧Z0 (∀(j:Nat) (p:Int),j<k→f.f1[j]?=some p→(2≤p∧p≤x.f2-1)∧∀q:Int,0<j→f.f1[j-1]?=some q→q<p)) (fun v10=>f.f1.length-(intOf v10).toNat)
 case atStart=>exact ⟨0,rfl,Nat.zero_le _,⟨fun j p h=>absurd h (Nat.not_lt_zero _)⟩⟩
 case round=>
  obtain ⟨k,rfl,hk0,HP⟩:=hrel
  by_cases hk:k<f.f1.length
  ·have d1:decide ((k:Int)<(f.f1.length:Int))=true:=decide_eq_true zq5
   have d0:decide ((0:Int)≤(k:Int))=true:=decide_eq_true zq5
   have d2:((k:Int)<(f.f1.length:Int))=True:=eq_true zq5
   have d3:((0:Int)≤(k:Int))=True:=eq_true zq5
   obtain ⟨ap,hAp,pc⟩:=C_at KE.out hk
   subst hAp
   obtain ⟨p,hp⟩:∃p,p=f.f1[k]:=⟨_,rfl⟩
   rw [←hp] at pc
   have HPK:=zz (show f.f1[k]?=some p from by rw [hp];exact List.getElem?_eq_getElem hk)
   clear hp
   replace pc:=zk pc HW.out
   have hw:=fp_ways f x k p b HB.out HPK.out
   rcases hw with ⟨hbf,hw⟩|⟨hg,h1,h2,hw⟩
   ·have HBF:=zz hbf
    clear hbf
    rcases hw with h1|⟨h1,h2⟩|⟨h1,h2,q,hq,h0,hle⟩
    ·have e1:decide (p<2)=true:=decide_eq_true h1
     go_wp2
     go_ret
     exact ⟨rb HBF.out,HW.out⟩
    ·have e1:decide (p<2)=false:=decide_eq_false h1
     have e2:decide (x.f2≤p)=true:=decide_eq_true h2
     go_wp2
     go_ret
     exact ⟨rb HBF.out,HW.out⟩
    ·have e1:decide (p<2)=false:=decide_eq_false h1
     have e2:decide (x.f2≤p)=false:=decide_eq_false h2
     have q1:decide ((0:Int)<(k:Int))=true:=decide_eq_true zq5
     have q2:decide (0<k)=true:=decide_eq_true zq5
     have hs2:(0:Int)≤((k-1:Nat):Int):=by omega
     have hs3:((k-1:Nat):Int)<(f.f1.length:Int):=by omega
     have hs4:(k:Int)-1=((k-1:Nat):Int):=by omega
     obtain ⟨hql,hqv⟩:=List.getElem?_eq_some_iff.1 hq
     obtain ⟨ap2,hA2,zq⟩:=C_at KE.out hql
     rw [hqv] at zq
     injection hA2 with hA2
     subst hA2
     clear hqv hq
     replace zq:=zk zq HW.out
     have q3:decide (p≤q)=true:=decide_eq_true hle
     go_wp2
     go_ret
     exact ⟨rb HBF.out,HW.out⟩
   ·have HG:=zz hg
    have e1:decide (p<2)=false:=decide_eq_false h1
    have e2:decide (x.f2≤p)=false:=decide_eq_false h2
    clear hg
    rcases hw with hz0|⟨q,hq,h0,hle⟩
    ·have q1:decide ((0:Int)<(k:Int))=false:=decide_eq_false zq5
     have q2:decide (0<k)=false:=decide_eq_false zq5
     clear hz0
     go_wp2
     go_round
     case rel=>exact ⟨k+1,by go_num,by omega,⟨fun j p2 hj hf=>by
      rcases Nat.lt_or_ge j k with h2|h2
      ·exact HP.out j p2 h2 hf
      ·obtain rfl:j=k:=by omega
       have:=HPK.out.symm.trans hf
       injection this with this
       subst this
       exact HG.out⟩⟩
     case measure=>simp [intOf];omega
    ·have q1:decide ((0:Int)<(k:Int))=true:=decide_eq_true zq5
     have q2:decide (0<k)=true:=decide_eq_true zq5
     have hs2:(0:Int)≤((k-1:Nat):Int):=by omega
     have hs3:((k-1:Nat):Int)<(f.f1.length:Int):=by omega
     have hs4:(k:Int)-1=((k-1:Nat):Int):=by omega
     obtain ⟨hql,hqv⟩:=List.getElem?_eq_some_iff.1 hq
     obtain ⟨ap2,hA2,zq⟩:=C_at KE.out hql
     rw [hqv] at zq
     injection hA2 with hA2
     subst hA2
     clear hqv hq
     replace zq:=zk zq HW.out
     have q3:decide (p≤q)=false:=decide_eq_false hle
     clear hle
     go_wp2
     go_round
     case rel=>exact ⟨k+1,by go_num,by omega,⟨fun j p2 hj hf=>by
      rcases Nat.lt_or_ge j k with h2|h2
      ·exact HP.out j p2 h2 hf
      ·obtain rfl:j=k:=by omega
       have:=HPK.out.symm.trans hf
       injection this with this
       subst this
       exact HG.out⟩⟩
     case measure=>simp [intOf];omega
  ·have d1:decide ((k:Int)<(f.f1.length:Int))=false:=decide_eq_false zq5
   have hk2:k=f.f1.length:=by omega
   have hall:∀(j:Nat) (p:Int),f.f1[j]?=some p→(2≤p∧p≤x.f2-1)∧∀q:Int,0<j→f.f1[j-1]?=some q→q<p:=fun j p hj=>HP.out j p (by have:=(List.getElem?_eq_some_iff.1 hj).1;omega) hj
   have hw:(inB f.f0 1 x.f0=false∧false=b)∨(inB f.f0 1 x.f0=true∧inB (f.f1.length:Int) 1 40=b):=by
    by_cases h1:1≤f.f0∧f.f0≤x.f0
    ·by_cases h2:1≤(f.f1.length:Int)∧(f.f1.length:Int)≤40
     ·exact .inr ⟨zYa h1,by rw [zYa h2];exact (HB.out.2 ⟨hall,h1,by omega⟩).symm⟩
     ·exact .inr ⟨zYa h1,by rw [inB_f h2];exact bfalse HB.out (fun h=>h2 (by have:=h.2.2;omega))⟩
    ·exact .inl ⟨inB_f h1,bfalse HB.out (fun h=>h1 h.2.1)⟩
   clear hall hk2
   rcases hw with ⟨e1,hw⟩|⟨e1,hw⟩
   all_goals
    have HX:=zz hw
    clear hw
    go_wp2_with (((with_reducible refine (inI _ _ _ _).mono ?_);rintro e w1 ⟨rfl,rfl⟩))
    go_ret
    exact ⟨rb HX.out,HW.out⟩
end Go.Proofs.YtonhdiemjgdcnaaGreat.PFnExactGivePage
